/- The walk of NetTells behind its first two statements. -/
import Derived.Test.YtgglmibbbjallaaTa8
namespace Go.Proofs.Ytgglmibbbjallaa.T
open Go.RowKit Go.Proofs.YtgglmibbbjallaaW.PrintWords Go.Proofs.YtgglmibbbjallaaW.PrintLast Go.Proofs.YtgglmibbbjallaaW.PrintMore
attribute [local go_sem] max2_int min2_int max_two min_two max_three min_three max_four min_four   -- for this text's walks alone
set_option linter.unusedVariables false
set_option linter.unusedSimpArgs false
theorem below_of0 {w w' : World} (h : Drawn0 w w') : Below w.heap.size w w':=by
  obtain ⟨⟨n,rfl⟩⟩:=h
  exact bwN (Below.refl _ _) n
def tail2 (f : Func) : Code:=match f.body with|some (.seq _ (.seq _ c))=>c|_=>.skip
def und : Nat→List Value→List Value|0,l=>l|n + 1,l=>undef :: und n l
def NetTells.T14 : Bool × List (List Nat × List Nat):=(true,[([],[]),([0],[0]),([1,1],[1]),([],[]),([3,2],[3]),([2,4],[2,4]),([5,4],[5]),([6],[6]),([6],[6]),([7,8,6,6],[6,7,8]),([6,9],[6,9]),([10,9],[10]),([11],[11]),([11],[11]),([12,13,11,11],[11,12,13]),([11,14],[11,14]),([15,14],[15]),([16,16],[16]),([16,17],[16,17]),([18,17,0,1,2,3,4,5,6,7,8,9,10,11,12,13,14,15,16,17,18],[18])])
def NetTells.B14 : List Nat:=[0,1,3,0,15,31,63,127,127,511,1023,2047,4095,4095,16383,32767,65535,131071,262143,524287]
theorem NetTells.tab14 : rtab .any (opsOf Try.f6 14) = NetTells.T14:=by kernel_rfl
theorem NetTells.bits14 : waitsOk NetTells.T14.2 NetTells.B14 = true:=by kernel_rfl
set_option maxHeartbeats 16000000 in
set_option maxRecDepth 100000 in
theorem NetTells.rest (k : Nat) (a : Int) (As : Option Addr) (cs : Nat) (l : List S38) (p0 p1 : Int) (Ap : Option Addr) (cp : Nat) (pd : List Int) (a2 a3 : Int) (lx : List S40) (sa : Int) (sl : List S40) (sm : List S38) (sb : Bool) (se : Int) (ta : Int) (tl : List S40) (tm : List S38) (t0 t1 : Int) (td : List Int) (te : Int) (da : Int) (dl : List S40) (dm : List S38) (de : Int) (ba : Int) (bl : List S40) (bm : List S38) (bb : Bool) (be : Int) (fl : List Int) (fe : Int) (ce : Int) (w W : World) (b4 b5 b9 b10 : Nat) (Ax : Option Addr) (cx : Nat) (Ay : Option Addr) (cy : Nat) (K4 : Aside0 (W.heap[b4]? = some (.cells #[.int .i64 a,.slice As l.length cs] 24 (0,0)))) (K5 : Aside0 (W.heap[b5]? = some (.cells #[.int .i64 p0,.int .i64 p1,.slice Ap pd.length cp] 38 (0,0)))) (K9 : Aside0 (W.heap[b9]? = some (.cells #[.int .i64 a,.slice Ax lx.length cx] 32 (0,0)))) (K10 : Aside0 (W.heap[b10]? = some (.cells #[.int .i64 p0,.int .i64 p1,.slice Ay pd.length cy] 40 (0,0)))) (Cs : Aside0 (Kd.C k38 W As l.length l)) (Ls : Aside0 (l.length ≤ cs)) (Cp : Aside0 (Kd.C (Kd.int .u8) W Ap pd.length pd)) (Lp : Aside0 (pd.length ≤ cp)) (Cx : Aside0 (Kd.C k40 W Ax lx.length lx)) (Lx : Aside0 (lx.length ≤ cx)) (Cy : Aside0 (Kd.C (Kd.int .u8) W Ay pd.length pd)) (Ly : Aside0 (pd.length ≤ cy)) (HB : Aside0 (Below w.heap.size w W))
    (h1 : net_Send.f k a lx p0 p1 pd = some (sa,sl,sb,se))
    (h2 : undercroftref04_Send.f k a l p0 p1 pd = some (sa,sm,sb,se))
    (h3 : net_Take.f a lx a2 = some (ta,tl,t0,t1,td,te))
    (h4 : undercroftref04_Take.f k a l a2 = some (ta,tm,t0,t1,td,te))
    (h5 : net_Drop.f a lx a2 = some (da,dl,de))
    (h6 : undercroftref04_Drop.f k a l a2 = some (da,dm,de))
    (h7 : net_Double.f k a lx a2 = some (ba,bl,bb,be))
    (h8 : undercroftref04_Double.f k a l a2 = some (ba,bm,bb,be))
    (h9 : net_For.f k a lx a3 = some (fl,fe))
    (h10 : undercroftref04_For.f k a l a3 = some (fl,fe))
    (g1 : undercroftlaw04_same.f k sa sl sa sm = some true)
    (g2 : undercroftlaw04_same.f k ta tl ta tm = some true)
    (g3 : undercroftlaw04_samePacket.f k t0 t1 td t0 t1 td = some true)
    (g4 : undercroftlaw04_same.f k da dl da dm = some true)
    (g5 : undercroftlaw04_same.f k ba bl ba bm = some true)
    (g6 : undercroftplain_SameInts.f k fl fl = some true)
    (g7 : net_Check.f a lx = some ce)
    (g8 : undercroftref04_Check.f k a l = some ce)
    (g9 : undercroftlaw04_same.f k a lx a l = some true)
    (g10 : undercroftlaw04_samePacket.f k p0 p1 pd p0 p1 pd = some true)
    (g11 : undercroftlaw04_alive.f k = some true) :
    Code.wp Try.prog (tail2 Try.f6) (bodyPost Try.prog Try.f6 fun e w'=>e = .returned (.bool true)∧Below w.heap.size w w') ⟨#[.agg #[.int .i64 a,.slice As l.length cs],.agg #[.int .i64 p0,.int .i64 p1,.slice Ap pd.length cp],.int .i64 a2,.int .i64 a3,.pointer (some ⟨b4,0,none⟩),.pointer (some ⟨b5,0,none⟩),undef,undef,.bool false,.pointer (some ⟨b9,0,none⟩),.pointer (some ⟨b10,0,none⟩),undef,undef,undef,undef,undef,undef,undef,undef,undef,undef,undef,undef,undef,undef,undef,undef,undef,undef,undef,undef,undef,undef,undef,undef,undef,undef,.agg #[.int .i64 a,.slice As l.length cs],.agg #[.int .i64 a,.slice Ax lx.length cx],.agg #[.int .i64 p0,.int .i64 p1,.slice Ap pd.length cp],.agg #[.int .i64 p0,.int .i64 p1,.slice Ay pd.length cy],undef,undef,undef,undef,undef,undef,undef,undef,undef,undef,undef,undef,undef,undef,undef,undef,undef,undef,undef,undef,undef,undef,undef,undef,undef,undef,undef,undef,undef,undef,undef,undef,undef,undef,undef,undef,undef,undef,undef,undef,undef,undef,undef,undef,undef,undef,undef,undef,undef,undef,undef,undef,undef,undef,undef,undef,undef,undef,undef,undef,undef,undef,undef,undef,undef,undef,undef,undef,undef,undef,undef,undef,undef,undef,undef,undef,undef,undef,undef,undef,undef,undef,undef,undef,undef,undef,undef,undef,undef,undef,undef,undef,undef,undef,undef,undef,undef,undef,undef,undef,undef,undef,undef,undef,undef,undef,undef,undef,undef,undef,undef,undef,undef,undef,undef,undef,undef,undef,undef,undef,undef,undef,undef,undef,undef,undef,undef,undef,undef,undef,undef,undef,undef,undef,undef,undef,undef,undef,undef,undef,undef,undef,undef,undef,undef,undef,undef,undef,undef,undef,undef,undef,undef,undef,undef,undef,undef,undef,undef],[]⟩ W:=by
  have hu24:=Try.underlying24
  have hu32:=Try.underlying32
  have hu38:=Try.underlying38
  have hu40:=Try.underlying40
  generalize hQ : bodyPost Try.prog Try.f6 _ = Q
  simp only [tail2,Try.f6,List.append_eq,List.cons_append,List.nil_append]
  subst hQ
  have z9_0_0:=(bkC K9.out 0).trans rfl
  have z9_0_1:=(bkC K9.out 1).trans rfl
  have z10_0_0:=(bkC K10.out 0).trans rfl
  have z10_0_1:=(bkC K10.out 1).trans rfl
  have z10_0_2:=(bkC K10.out 2).trans rfl
  replace h1:=mkA h1
  replace h2:=mkA h2
  replace h3:=mkA h3
  replace h4:=mkA h4
  replace h5:=mkA h5
  replace h6:=mkA h6
  replace h7:=mkA h7
  replace h8:=mkA h8
  replace h9:=mkA h9
  replace h10:=mkA h10
  replace g1:=mkA g1
  replace g2:=mkA g2
  replace g3:=mkA g3
  replace g4:=mkA g4
  replace g5:=mkA g5
  replace g6:=mkA g6
  replace g7:=mkA g7
  replace g8:=mkA g8
  replace g9:=mkA g9
  replace g10:=mkA g10
  replace g11:=mkA g11
  go_wp2_with (first|(go_at_call 13;refine(net_Send.calls k a Ax cx lx p0 p1 Ay cy pd sa sl sb se _ Cx.out Lx.out Cy.out Ly.out h1.out).mono ?_;rintro e w1_ ⟨v,rfl,ho,hb⟩;obtain ⟨Aa,ca,rfl⟩:=Kd.S_slice ho;replace K4:=mkA (bkA (bkB K4.out hb) (.cells #[.int .i64 sa,.slice Aa sl.length ca] 32));replace K5:=mkA (bkA (bkB K5.out hb) (.cells #[.int .i64 sa,.slice Aa sl.length ca] 32));replace K9:=mkA (bkA (bkB K9.out hb) (.cells #[.int .i64 sa,.slice Aa sl.length ca] 32));replace K10:=mkA (bkA (bkB K10.out hb) (.cells #[.int .i64 sa,.slice Aa sl.length ca] 32));replace Cs:=mkA (Kd.C_alloc (Kd.C_below Cs.out hb) (.cells #[.int .i64 sa,.slice Aa sl.length ca] 32));replace Cp:=mkA (Kd.C_alloc (Kd.C_below Cp.out hb) (.cells #[.int .i64 sa,.slice Aa sl.length ca] 32));replace Cx:=mkA (Kd.C_alloc (Kd.C_below Cx.out hb) (.cells #[.int .i64 sa,.slice Aa sl.length ca] 32));replace Cy:=mkA (Kd.C_alloc (Kd.C_below Cy.out hb) (.cells #[.int .i64 sa,.slice Aa sl.length ca] 32));have Ca:=mkA (Kd.C_alloc (Kd.S_reads' ho).2.2 (.cells #[.int .i64 sa,.slice Aa sl.length ca] 32));have La:=mkA (Kd.S_reads' ho).2.1;clear ho;have K11:=mkA (heap_alloc_new w1_ (.cells #[.int .i64 sa,.slice Aa sl.length ca] 32));replace HB:=mkA (bwA (HB.out.trans (hb.mono HB.out.size)) (.cells #[.int .i64 sa,.slice Aa sl.length ca] 32));clear hb;have z4_1_0:=(bkC K4.out 0).trans rfl;have z4_1_1:=(bkC K4.out 1).trans rfl;have z5_1_0:=(bkC K5.out 0).trans rfl;have z5_1_1:=(bkC K5.out 1).trans rfl;have z5_1_2:=(bkC K5.out 2).trans rfl)|(go_at_call 14;refine(undercroftref04_Send.calls k a As cs l p0 p1 Ap cp pd sa sm sb se _ Cs.out Ls.out Cp.out Lp.out h2.out).mono ?_;rintro e w2_ ⟨v,rfl,ho,hb⟩;obtain ⟨Ab,cb,rfl⟩:=Kd.S_slice ho;replace K4:=mkA (bkA (bkB K4.out hb) (.cells #[.int .i64 sa,.slice Ab sm.length cb] 24));replace K5:=mkA (bkA (bkB K5.out hb) (.cells #[.int .i64 sa,.slice Ab sm.length cb] 24));replace K9:=mkA (bkA (bkB K9.out hb) (.cells #[.int .i64 sa,.slice Ab sm.length cb] 24));replace K10:=mkA (bkA (bkB K10.out hb) (.cells #[.int .i64 sa,.slice Ab sm.length cb] 24));replace K11:=mkA (bkA (bkB K11.out hb) (.cells #[.int .i64 sa,.slice Ab sm.length cb] 24));replace Cs:=mkA (Kd.C_alloc (Kd.C_below Cs.out hb) (.cells #[.int .i64 sa,.slice Ab sm.length cb] 24));replace Cp:=mkA (Kd.C_alloc (Kd.C_below Cp.out hb) (.cells #[.int .i64 sa,.slice Ab sm.length cb] 24));replace Cx:=mkA (Kd.C_alloc (Kd.C_below Cx.out hb) (.cells #[.int .i64 sa,.slice Ab sm.length cb] 24));replace Cy:=mkA (Kd.C_alloc (Kd.C_below Cy.out hb) (.cells #[.int .i64 sa,.slice Ab sm.length cb] 24));replace Ca:=mkA (Kd.C_alloc (Kd.C_below Ca.out hb) (.cells #[.int .i64 sa,.slice Ab sm.length cb] 24));have Cb:=mkA (Kd.C_alloc (Kd.S_reads' ho).2.2 (.cells #[.int .i64 sa,.slice Ab sm.length cb] 24));have Lb:=mkA (Kd.S_reads' ho).2.1;clear ho;have K14:=mkA (heap_alloc_new w2_ (.cells #[.int .i64 sa,.slice Ab sm.length cb] 24));replace HB:=mkA (bwA (HB.out.trans (hb.mono HB.out.size)) (.cells #[.int .i64 sa,.slice Ab sm.length cb] 24));clear hb;have z9_2_0:=(bkC K9.out 0).trans rfl;have z9_2_1:=(bkC K9.out 1).trans rfl)|(go_at_call 15;refine(net_Take.calls a Ax cx lx a2 ta tl t0 t1 td te _ Cx.out Lx.out h3.out).mono ?_;rintro e w3_ ⟨v,v4,rfl,ho,ho2,hb⟩;obtain ⟨Ac,cc,rfl⟩:=Kd.S_slice ho;obtain ⟨Aq,cq,rfl⟩:=Kd.R_slice ho2;replace K4:=mkA (bkA (bkA (bkB K4.out hb) (.cells #[.int .i64 ta,.slice Ac tl.length cc] 32)) (.cells #[.int .i64 t0,.int .i64 t1,.slice Aq td.length cq] 40));replace K5:=mkA (bkA (bkA (bkB K5.out hb) (.cells #[.int .i64 ta,.slice Ac tl.length cc] 32)) (.cells #[.int .i64 t0,.int .i64 t1,.slice Aq td.length cq] 40));replace K9:=mkA (bkA (bkA (bkB K9.out hb) (.cells #[.int .i64 ta,.slice Ac tl.length cc] 32)) (.cells #[.int .i64 t0,.int .i64 t1,.slice Aq td.length cq] 40));replace K10:=mkA (bkA (bkA (bkB K10.out hb) (.cells #[.int .i64 ta,.slice Ac tl.length cc] 32)) (.cells #[.int .i64 t0,.int .i64 t1,.slice Aq td.length cq] 40));replace K11:=mkA (bkA (bkA (bkB K11.out hb) (.cells #[.int .i64 ta,.slice Ac tl.length cc] 32)) (.cells #[.int .i64 t0,.int .i64 t1,.slice Aq td.length cq] 40));replace K14:=mkA (bkA (bkA (bkB K14.out hb) (.cells #[.int .i64 ta,.slice Ac tl.length cc] 32)) (.cells #[.int .i64 t0,.int .i64 t1,.slice Aq td.length cq] 40));replace Cs:=mkA (Kd.C_alloc (Kd.C_alloc (Kd.C_below Cs.out hb) (.cells #[.int .i64 ta,.slice Ac tl.length cc] 32)) (.cells #[.int .i64 t0,.int .i64 t1,.slice Aq td.length cq] 40));replace Cp:=mkA (Kd.C_alloc (Kd.C_alloc (Kd.C_below Cp.out hb) (.cells #[.int .i64 ta,.slice Ac tl.length cc] 32)) (.cells #[.int .i64 t0,.int .i64 t1,.slice Aq td.length cq] 40));replace Cx:=mkA (Kd.C_alloc (Kd.C_alloc (Kd.C_below Cx.out hb) (.cells #[.int .i64 ta,.slice Ac tl.length cc] 32)) (.cells #[.int .i64 t0,.int .i64 t1,.slice Aq td.length cq] 40));replace Cy:=mkA (Kd.C_alloc (Kd.C_alloc (Kd.C_below Cy.out hb) (.cells #[.int .i64 ta,.slice Ac tl.length cc] 32)) (.cells #[.int .i64 t0,.int .i64 t1,.slice Aq td.length cq] 40));replace Ca:=mkA (Kd.C_alloc (Kd.C_alloc (Kd.C_below Ca.out hb) (.cells #[.int .i64 ta,.slice Ac tl.length cc] 32)) (.cells #[.int .i64 t0,.int .i64 t1,.slice Aq td.length cq] 40));replace Cb:=mkA (Kd.C_alloc (Kd.C_alloc (Kd.C_below Cb.out hb) (.cells #[.int .i64 ta,.slice Ac tl.length cc] 32)) (.cells #[.int .i64 t0,.int .i64 t1,.slice Aq td.length cq] 40));have Cc:=mkA (Kd.C_alloc (Kd.C_alloc (Kd.S_reads' ho).2.2 (.cells #[.int .i64 ta,.slice Ac tl.length cc] 32)) (.cells #[.int .i64 t0,.int .i64 t1,.slice Aq td.length cq] 40));have Lc:=mkA (Kd.S_reads' ho).2.1;clear ho;have Cq:=mkA (Kd.C_alloc (Kd.C_alloc (Kd.R_reads' ho2).2.2 (.cells #[.int .i64 ta,.slice Ac tl.length cc] 32)) (.cells #[.int .i64 t0,.int .i64 t1,.slice Aq td.length cq] 40));have Lq:=mkA (Kd.R_reads' ho2).2.1;clear ho2;have K17:=mkA (bkA (heap_alloc_new w3_ (.cells #[.int .i64 ta,.slice Ac tl.length cc] 32)) (.cells #[.int .i64 t0,.int .i64 t1,.slice Aq td.length cq] 40));have K18:=mkA (heap_alloc_new (w3_.alloc (.cells #[.int .i64 ta,.slice Ac tl.length cc] 32)) (.cells #[.int .i64 t0,.int .i64 t1,.slice Aq td.length cq] 40));simp only [World.size_alloc] at K18;replace HB:=mkA (bwA (bwA (HB.out.trans (hb.mono HB.out.size)) (.cells #[.int .i64 ta,.slice Ac tl.length cc] 32)) (.cells #[.int .i64 t0,.int .i64 t1,.slice Aq td.length cq] 40));clear hb;have z4_3_0:=(bkC K4.out 0).trans rfl;have z4_3_1:=(bkC K4.out 1).trans rfl)|(go_at_call 16;refine(undercroftref04_Take.calls k a As cs l a2 ta tm t0 t1 td te _ Cs.out Ls.out h4.out).mono ?_;rintro e w4_ ⟨v,v4,rfl,ho,ho2,hb⟩;obtain ⟨Ad,cd,rfl⟩:=Kd.S_slice ho;obtain ⟨Ar,cr,rfl⟩:=Kd.R_slice ho2;replace K4:=mkA (bkA (bkA (bkB K4.out hb) (.cells #[.int .i64 ta,.slice Ad tm.length cd] 24)) (.cells #[.int .i64 t0,.int .i64 t1,.slice Ar td.length cr] 38));replace K5:=mkA (bkA (bkA (bkB K5.out hb) (.cells #[.int .i64 ta,.slice Ad tm.length cd] 24)) (.cells #[.int .i64 t0,.int .i64 t1,.slice Ar td.length cr] 38));replace K9:=mkA (bkA (bkA (bkB K9.out hb) (.cells #[.int .i64 ta,.slice Ad tm.length cd] 24)) (.cells #[.int .i64 t0,.int .i64 t1,.slice Ar td.length cr] 38));replace K10:=mkA (bkA (bkA (bkB K10.out hb) (.cells #[.int .i64 ta,.slice Ad tm.length cd] 24)) (.cells #[.int .i64 t0,.int .i64 t1,.slice Ar td.length cr] 38));replace K11:=mkA (bkA (bkA (bkB K11.out hb) (.cells #[.int .i64 ta,.slice Ad tm.length cd] 24)) (.cells #[.int .i64 t0,.int .i64 t1,.slice Ar td.length cr] 38));replace K14:=mkA (bkA (bkA (bkB K14.out hb) (.cells #[.int .i64 ta,.slice Ad tm.length cd] 24)) (.cells #[.int .i64 t0,.int .i64 t1,.slice Ar td.length cr] 38));replace K17:=mkA (bkA (bkA (bkB K17.out hb) (.cells #[.int .i64 ta,.slice Ad tm.length cd] 24)) (.cells #[.int .i64 t0,.int .i64 t1,.slice Ar td.length cr] 38));replace K18:=mkA (bkA (bkA (bkB K18.out hb) (.cells #[.int .i64 ta,.slice Ad tm.length cd] 24)) (.cells #[.int .i64 t0,.int .i64 t1,.slice Ar td.length cr] 38));replace Cs:=mkA (Kd.C_alloc (Kd.C_alloc (Kd.C_below Cs.out hb) (.cells #[.int .i64 ta,.slice Ad tm.length cd] 24)) (.cells #[.int .i64 t0,.int .i64 t1,.slice Ar td.length cr] 38));replace Cp:=mkA (Kd.C_alloc (Kd.C_alloc (Kd.C_below Cp.out hb) (.cells #[.int .i64 ta,.slice Ad tm.length cd] 24)) (.cells #[.int .i64 t0,.int .i64 t1,.slice Ar td.length cr] 38));replace Cx:=mkA (Kd.C_alloc (Kd.C_alloc (Kd.C_below Cx.out hb) (.cells #[.int .i64 ta,.slice Ad tm.length cd] 24)) (.cells #[.int .i64 t0,.int .i64 t1,.slice Ar td.length cr] 38));replace Cy:=mkA (Kd.C_alloc (Kd.C_alloc (Kd.C_below Cy.out hb) (.cells #[.int .i64 ta,.slice Ad tm.length cd] 24)) (.cells #[.int .i64 t0,.int .i64 t1,.slice Ar td.length cr] 38));replace Ca:=mkA (Kd.C_alloc (Kd.C_alloc (Kd.C_below Ca.out hb) (.cells #[.int .i64 ta,.slice Ad tm.length cd] 24)) (.cells #[.int .i64 t0,.int .i64 t1,.slice Ar td.length cr] 38));replace Cb:=mkA (Kd.C_alloc (Kd.C_alloc (Kd.C_below Cb.out hb) (.cells #[.int .i64 ta,.slice Ad tm.length cd] 24)) (.cells #[.int .i64 t0,.int .i64 t1,.slice Ar td.length cr] 38));replace Cc:=mkA (Kd.C_alloc (Kd.C_alloc (Kd.C_below Cc.out hb) (.cells #[.int .i64 ta,.slice Ad tm.length cd] 24)) (.cells #[.int .i64 t0,.int .i64 t1,.slice Ar td.length cr] 38));replace Cq:=mkA (Kd.C_alloc (Kd.C_alloc (Kd.C_below Cq.out hb) (.cells #[.int .i64 ta,.slice Ad tm.length cd] 24)) (.cells #[.int .i64 t0,.int .i64 t1,.slice Ar td.length cr] 38));have Cd:=mkA (Kd.C_alloc (Kd.C_alloc (Kd.S_reads' ho).2.2 (.cells #[.int .i64 ta,.slice Ad tm.length cd] 24)) (.cells #[.int .i64 t0,.int .i64 t1,.slice Ar td.length cr] 38));have Ld:=mkA (Kd.S_reads' ho).2.1;clear ho;have Cr:=mkA (Kd.C_alloc (Kd.C_alloc (Kd.R_reads' ho2).2.2 (.cells #[.int .i64 ta,.slice Ad tm.length cd] 24)) (.cells #[.int .i64 t0,.int .i64 t1,.slice Ar td.length cr] 38));have Lr:=mkA (Kd.R_reads' ho2).2.1;clear ho2;have K20:=mkA (bkA (heap_alloc_new w4_ (.cells #[.int .i64 ta,.slice Ad tm.length cd] 24)) (.cells #[.int .i64 t0,.int .i64 t1,.slice Ar td.length cr] 38));have K21:=mkA (heap_alloc_new (w4_.alloc (.cells #[.int .i64 ta,.slice Ad tm.length cd] 24)) (.cells #[.int .i64 t0,.int .i64 t1,.slice Ar td.length cr] 38));simp only [World.size_alloc] at K21;replace HB:=mkA (bwA (bwA (HB.out.trans (hb.mono HB.out.size)) (.cells #[.int .i64 ta,.slice Ad tm.length cd] 24)) (.cells #[.int .i64 t0,.int .i64 t1,.slice Ar td.length cr] 38));clear hb;have z9_4_0:=(bkC K9.out 0).trans rfl;have z9_4_1:=(bkC K9.out 1).trans rfl)|(go_at_call 21;refine(net_Drop.calls a Ax cx lx a2 da dl de _ Cx.out Lx.out h5.out).mono ?_;rintro e w5_ ⟨v,rfl,ho,hb⟩;obtain ⟨Au,cu,rfl⟩:=Kd.S_slice ho;replace K4:=mkA (bkA (bkB K4.out hb) (.cells #[.int .i64 da,.slice Au dl.length cu] 32));replace K5:=mkA (bkA (bkB K5.out hb) (.cells #[.int .i64 da,.slice Au dl.length cu] 32));replace K9:=mkA (bkA (bkB K9.out hb) (.cells #[.int .i64 da,.slice Au dl.length cu] 32));replace K10:=mkA (bkA (bkB K10.out hb) (.cells #[.int .i64 da,.slice Au dl.length cu] 32));replace K11:=mkA (bkA (bkB K11.out hb) (.cells #[.int .i64 da,.slice Au dl.length cu] 32));replace K14:=mkA (bkA (bkB K14.out hb) (.cells #[.int .i64 da,.slice Au dl.length cu] 32));replace K17:=mkA (bkA (bkB K17.out hb) (.cells #[.int .i64 da,.slice Au dl.length cu] 32));replace K18:=mkA (bkA (bkB K18.out hb) (.cells #[.int .i64 da,.slice Au dl.length cu] 32));replace K20:=mkA (bkA (bkB K20.out hb) (.cells #[.int .i64 da,.slice Au dl.length cu] 32));replace K21:=mkA (bkA (bkB K21.out hb) (.cells #[.int .i64 da,.slice Au dl.length cu] 32));replace Cs:=mkA (Kd.C_alloc (Kd.C_below Cs.out hb) (.cells #[.int .i64 da,.slice Au dl.length cu] 32));replace Cp:=mkA (Kd.C_alloc (Kd.C_below Cp.out hb) (.cells #[.int .i64 da,.slice Au dl.length cu] 32));replace Cx:=mkA (Kd.C_alloc (Kd.C_below Cx.out hb) (.cells #[.int .i64 da,.slice Au dl.length cu] 32));replace Cy:=mkA (Kd.C_alloc (Kd.C_below Cy.out hb) (.cells #[.int .i64 da,.slice Au dl.length cu] 32));replace Ca:=mkA (Kd.C_alloc (Kd.C_below Ca.out hb) (.cells #[.int .i64 da,.slice Au dl.length cu] 32));replace Cb:=mkA (Kd.C_alloc (Kd.C_below Cb.out hb) (.cells #[.int .i64 da,.slice Au dl.length cu] 32));replace Cc:=mkA (Kd.C_alloc (Kd.C_below Cc.out hb) (.cells #[.int .i64 da,.slice Au dl.length cu] 32));replace Cq:=mkA (Kd.C_alloc (Kd.C_below Cq.out hb) (.cells #[.int .i64 da,.slice Au dl.length cu] 32));replace Cd:=mkA (Kd.C_alloc (Kd.C_below Cd.out hb) (.cells #[.int .i64 da,.slice Au dl.length cu] 32));replace Cr:=mkA (Kd.C_alloc (Kd.C_below Cr.out hb) (.cells #[.int .i64 da,.slice Au dl.length cu] 32));have Cu:=mkA (Kd.C_alloc (Kd.S_reads' ho).2.2 (.cells #[.int .i64 da,.slice Au dl.length cu] 32));have Lu:=mkA (Kd.S_reads' ho).2.1;clear ho;have K23:=mkA (heap_alloc_new w5_ (.cells #[.int .i64 da,.slice Au dl.length cu] 32));replace HB:=mkA (bwA (HB.out.trans (hb.mono HB.out.size)) (.cells #[.int .i64 da,.slice Au dl.length cu] 32));clear hb;have z4_5_0:=(bkC K4.out 0).trans rfl;have z4_5_1:=(bkC K4.out 1).trans rfl)|(go_at_call 23;refine(undercroftref04_Drop.calls k a As cs l a2 da dm de _ Cs.out Ls.out h6.out).mono ?_;rintro e w6_ ⟨v,rfl,ho,hb⟩;obtain ⟨Av,cv,rfl⟩:=Kd.S_slice ho;replace K4:=mkA (bkA (bkB K4.out hb) (.cells #[.int .i64 da,.slice Av dm.length cv] 24));replace K5:=mkA (bkA (bkB K5.out hb) (.cells #[.int .i64 da,.slice Av dm.length cv] 24));replace K9:=mkA (bkA (bkB K9.out hb) (.cells #[.int .i64 da,.slice Av dm.length cv] 24));replace K10:=mkA (bkA (bkB K10.out hb) (.cells #[.int .i64 da,.slice Av dm.length cv] 24));replace K11:=mkA (bkA (bkB K11.out hb) (.cells #[.int .i64 da,.slice Av dm.length cv] 24));replace K14:=mkA (bkA (bkB K14.out hb) (.cells #[.int .i64 da,.slice Av dm.length cv] 24));replace K17:=mkA (bkA (bkB K17.out hb) (.cells #[.int .i64 da,.slice Av dm.length cv] 24));replace K18:=mkA (bkA (bkB K18.out hb) (.cells #[.int .i64 da,.slice Av dm.length cv] 24));replace K20:=mkA (bkA (bkB K20.out hb) (.cells #[.int .i64 da,.slice Av dm.length cv] 24));replace K21:=mkA (bkA (bkB K21.out hb) (.cells #[.int .i64 da,.slice Av dm.length cv] 24));replace K23:=mkA (bkA (bkB K23.out hb) (.cells #[.int .i64 da,.slice Av dm.length cv] 24));replace Cs:=mkA (Kd.C_alloc (Kd.C_below Cs.out hb) (.cells #[.int .i64 da,.slice Av dm.length cv] 24));replace Cp:=mkA (Kd.C_alloc (Kd.C_below Cp.out hb) (.cells #[.int .i64 da,.slice Av dm.length cv] 24));replace Cx:=mkA (Kd.C_alloc (Kd.C_below Cx.out hb) (.cells #[.int .i64 da,.slice Av dm.length cv] 24));replace Cy:=mkA (Kd.C_alloc (Kd.C_below Cy.out hb) (.cells #[.int .i64 da,.slice Av dm.length cv] 24));replace Ca:=mkA (Kd.C_alloc (Kd.C_below Ca.out hb) (.cells #[.int .i64 da,.slice Av dm.length cv] 24));replace Cb:=mkA (Kd.C_alloc (Kd.C_below Cb.out hb) (.cells #[.int .i64 da,.slice Av dm.length cv] 24));replace Cc:=mkA (Kd.C_alloc (Kd.C_below Cc.out hb) (.cells #[.int .i64 da,.slice Av dm.length cv] 24));replace Cq:=mkA (Kd.C_alloc (Kd.C_below Cq.out hb) (.cells #[.int .i64 da,.slice Av dm.length cv] 24));replace Cd:=mkA (Kd.C_alloc (Kd.C_below Cd.out hb) (.cells #[.int .i64 da,.slice Av dm.length cv] 24));replace Cr:=mkA (Kd.C_alloc (Kd.C_below Cr.out hb) (.cells #[.int .i64 da,.slice Av dm.length cv] 24));replace Cu:=mkA (Kd.C_alloc (Kd.C_below Cu.out hb) (.cells #[.int .i64 da,.slice Av dm.length cv] 24));have Cv:=mkA (Kd.C_alloc (Kd.S_reads' ho).2.2 (.cells #[.int .i64 da,.slice Av dm.length cv] 24));have Lv:=mkA (Kd.S_reads' ho).2.1;clear ho;have K25:=mkA (heap_alloc_new w6_ (.cells #[.int .i64 da,.slice Av dm.length cv] 24));replace HB:=mkA (bwA (HB.out.trans (hb.mono HB.out.size)) (.cells #[.int .i64 da,.slice Av dm.length cv] 24));clear hb;have z9_6_0:=(bkC K9.out 0).trans rfl;have z9_6_1:=(bkC K9.out 1).trans rfl)|(go_at_call 22;refine(net_Double.calls k a Ax cx lx a2 ba bl bb be _ Cx.out Lx.out h7.out).mono ?_;rintro e w7_ ⟨v,rfl,ho,hb⟩;obtain ⟨Am,cm,rfl⟩:=Kd.S_slice ho;replace K4:=mkA (bkA (bkB K4.out hb) (.cells #[.int .i64 ba,.slice Am bl.length cm] 32));replace K5:=mkA (bkA (bkB K5.out hb) (.cells #[.int .i64 ba,.slice Am bl.length cm] 32));replace K9:=mkA (bkA (bkB K9.out hb) (.cells #[.int .i64 ba,.slice Am bl.length cm] 32));replace K10:=mkA (bkA (bkB K10.out hb) (.cells #[.int .i64 ba,.slice Am bl.length cm] 32));replace K11:=mkA (bkA (bkB K11.out hb) (.cells #[.int .i64 ba,.slice Am bl.length cm] 32));replace K14:=mkA (bkA (bkB K14.out hb) (.cells #[.int .i64 ba,.slice Am bl.length cm] 32));replace K17:=mkA (bkA (bkB K17.out hb) (.cells #[.int .i64 ba,.slice Am bl.length cm] 32));replace K18:=mkA (bkA (bkB K18.out hb) (.cells #[.int .i64 ba,.slice Am bl.length cm] 32));replace K20:=mkA (bkA (bkB K20.out hb) (.cells #[.int .i64 ba,.slice Am bl.length cm] 32));replace K21:=mkA (bkA (bkB K21.out hb) (.cells #[.int .i64 ba,.slice Am bl.length cm] 32));replace K23:=mkA (bkA (bkB K23.out hb) (.cells #[.int .i64 ba,.slice Am bl.length cm] 32));replace K25:=mkA (bkA (bkB K25.out hb) (.cells #[.int .i64 ba,.slice Am bl.length cm] 32));replace Cs:=mkA (Kd.C_alloc (Kd.C_below Cs.out hb) (.cells #[.int .i64 ba,.slice Am bl.length cm] 32));replace Cp:=mkA (Kd.C_alloc (Kd.C_below Cp.out hb) (.cells #[.int .i64 ba,.slice Am bl.length cm] 32));replace Cx:=mkA (Kd.C_alloc (Kd.C_below Cx.out hb) (.cells #[.int .i64 ba,.slice Am bl.length cm] 32));replace Cy:=mkA (Kd.C_alloc (Kd.C_below Cy.out hb) (.cells #[.int .i64 ba,.slice Am bl.length cm] 32));replace Ca:=mkA (Kd.C_alloc (Kd.C_below Ca.out hb) (.cells #[.int .i64 ba,.slice Am bl.length cm] 32));replace Cb:=mkA (Kd.C_alloc (Kd.C_below Cb.out hb) (.cells #[.int .i64 ba,.slice Am bl.length cm] 32));replace Cc:=mkA (Kd.C_alloc (Kd.C_below Cc.out hb) (.cells #[.int .i64 ba,.slice Am bl.length cm] 32));replace Cq:=mkA (Kd.C_alloc (Kd.C_below Cq.out hb) (.cells #[.int .i64 ba,.slice Am bl.length cm] 32));replace Cd:=mkA (Kd.C_alloc (Kd.C_below Cd.out hb) (.cells #[.int .i64 ba,.slice Am bl.length cm] 32));replace Cr:=mkA (Kd.C_alloc (Kd.C_below Cr.out hb) (.cells #[.int .i64 ba,.slice Am bl.length cm] 32));replace Cu:=mkA (Kd.C_alloc (Kd.C_below Cu.out hb) (.cells #[.int .i64 ba,.slice Am bl.length cm] 32));replace Cv:=mkA (Kd.C_alloc (Kd.C_below Cv.out hb) (.cells #[.int .i64 ba,.slice Am bl.length cm] 32));have Cm:=mkA (Kd.C_alloc (Kd.S_reads' ho).2.2 (.cells #[.int .i64 ba,.slice Am bl.length cm] 32));have Lm:=mkA (Kd.S_reads' ho).2.1;clear ho;have K27:=mkA (heap_alloc_new w7_ (.cells #[.int .i64 ba,.slice Am bl.length cm] 32));replace HB:=mkA (bwA (HB.out.trans (hb.mono HB.out.size)) (.cells #[.int .i64 ba,.slice Am bl.length cm] 32));clear hb;have z4_7_0:=(bkC K4.out 0).trans rfl;have z4_7_1:=(bkC K4.out 1).trans rfl)|(go_at_call 24;refine(undercroftref04_Double.calls k a As cs l a2 ba bm bb be _ Cs.out Ls.out h8.out).mono ?_;rintro e w8_ ⟨v,rfl,ho,hb⟩;obtain ⟨Ao,co,rfl⟩:=Kd.S_slice ho;replace K4:=mkA (bkA (bkB K4.out hb) (.cells #[.int .i64 ba,.slice Ao bm.length co] 24));replace K5:=mkA (bkA (bkB K5.out hb) (.cells #[.int .i64 ba,.slice Ao bm.length co] 24));replace K9:=mkA (bkA (bkB K9.out hb) (.cells #[.int .i64 ba,.slice Ao bm.length co] 24));replace K10:=mkA (bkA (bkB K10.out hb) (.cells #[.int .i64 ba,.slice Ao bm.length co] 24));replace K11:=mkA (bkA (bkB K11.out hb) (.cells #[.int .i64 ba,.slice Ao bm.length co] 24));replace K14:=mkA (bkA (bkB K14.out hb) (.cells #[.int .i64 ba,.slice Ao bm.length co] 24));replace K17:=mkA (bkA (bkB K17.out hb) (.cells #[.int .i64 ba,.slice Ao bm.length co] 24));replace K18:=mkA (bkA (bkB K18.out hb) (.cells #[.int .i64 ba,.slice Ao bm.length co] 24));replace K20:=mkA (bkA (bkB K20.out hb) (.cells #[.int .i64 ba,.slice Ao bm.length co] 24));replace K21:=mkA (bkA (bkB K21.out hb) (.cells #[.int .i64 ba,.slice Ao bm.length co] 24));replace K23:=mkA (bkA (bkB K23.out hb) (.cells #[.int .i64 ba,.slice Ao bm.length co] 24));replace K25:=mkA (bkA (bkB K25.out hb) (.cells #[.int .i64 ba,.slice Ao bm.length co] 24));replace K27:=mkA (bkA (bkB K27.out hb) (.cells #[.int .i64 ba,.slice Ao bm.length co] 24));replace Cs:=mkA (Kd.C_alloc (Kd.C_below Cs.out hb) (.cells #[.int .i64 ba,.slice Ao bm.length co] 24));replace Cp:=mkA (Kd.C_alloc (Kd.C_below Cp.out hb) (.cells #[.int .i64 ba,.slice Ao bm.length co] 24));replace Cx:=mkA (Kd.C_alloc (Kd.C_below Cx.out hb) (.cells #[.int .i64 ba,.slice Ao bm.length co] 24));replace Cy:=mkA (Kd.C_alloc (Kd.C_below Cy.out hb) (.cells #[.int .i64 ba,.slice Ao bm.length co] 24));replace Ca:=mkA (Kd.C_alloc (Kd.C_below Ca.out hb) (.cells #[.int .i64 ba,.slice Ao bm.length co] 24));replace Cb:=mkA (Kd.C_alloc (Kd.C_below Cb.out hb) (.cells #[.int .i64 ba,.slice Ao bm.length co] 24));replace Cc:=mkA (Kd.C_alloc (Kd.C_below Cc.out hb) (.cells #[.int .i64 ba,.slice Ao bm.length co] 24));replace Cq:=mkA (Kd.C_alloc (Kd.C_below Cq.out hb) (.cells #[.int .i64 ba,.slice Ao bm.length co] 24));replace Cd:=mkA (Kd.C_alloc (Kd.C_below Cd.out hb) (.cells #[.int .i64 ba,.slice Ao bm.length co] 24));replace Cr:=mkA (Kd.C_alloc (Kd.C_below Cr.out hb) (.cells #[.int .i64 ba,.slice Ao bm.length co] 24));replace Cu:=mkA (Kd.C_alloc (Kd.C_below Cu.out hb) (.cells #[.int .i64 ba,.slice Ao bm.length co] 24));replace Cv:=mkA (Kd.C_alloc (Kd.C_below Cv.out hb) (.cells #[.int .i64 ba,.slice Ao bm.length co] 24));replace Cm:=mkA (Kd.C_alloc (Kd.C_below Cm.out hb) (.cells #[.int .i64 ba,.slice Ao bm.length co] 24));have Co:=mkA (Kd.C_alloc (Kd.S_reads' ho).2.2 (.cells #[.int .i64 ba,.slice Ao bm.length co] 24));have Lo:=mkA (Kd.S_reads' ho).2.1;clear ho;have K30:=mkA (heap_alloc_new w8_ (.cells #[.int .i64 ba,.slice Ao bm.length co] 24));replace HB:=mkA (bwA (HB.out.trans (hb.mono HB.out.size)) (.cells #[.int .i64 ba,.slice Ao bm.length co] 24));clear hb;have z9_8_0:=(bkC K9.out 0).trans rfl;have z9_8_1:=(bkC K9.out 1).trans rfl)|(go_at_call 8;refine(net_For.calls k a Ax cx lx a3 fl fe _ Cx.out Lx.out h9.out).mono ?_;rintro e w9_ ⟨v,rfl,ho,hb⟩;obtain ⟨Al,cl,rfl⟩:=Kd.R_slice ho;replace K4:=mkA (bkB K4.out hb);replace K5:=mkA (bkB K5.out hb);replace K9:=mkA (bkB K9.out hb);replace K10:=mkA (bkB K10.out hb);replace K11:=mkA (bkB K11.out hb);replace K14:=mkA (bkB K14.out hb);replace K17:=mkA (bkB K17.out hb);replace K18:=mkA (bkB K18.out hb);replace K20:=mkA (bkB K20.out hb);replace K21:=mkA (bkB K21.out hb);replace K23:=mkA (bkB K23.out hb);replace K25:=mkA (bkB K25.out hb);replace K27:=mkA (bkB K27.out hb);replace K30:=mkA (bkB K30.out hb);replace Cs:=mkA (Kd.C_below Cs.out hb);replace Cp:=mkA (Kd.C_below Cp.out hb);replace Cx:=mkA (Kd.C_below Cx.out hb);replace Cy:=mkA (Kd.C_below Cy.out hb);replace Ca:=mkA (Kd.C_below Ca.out hb);replace Cb:=mkA (Kd.C_below Cb.out hb);replace Cc:=mkA (Kd.C_below Cc.out hb);replace Cq:=mkA (Kd.C_below Cq.out hb);replace Cd:=mkA (Kd.C_below Cd.out hb);replace Cr:=mkA (Kd.C_below Cr.out hb);replace Cu:=mkA (Kd.C_below Cu.out hb);replace Cv:=mkA (Kd.C_below Cv.out hb);replace Cm:=mkA (Kd.C_below Cm.out hb);replace Co:=mkA (Kd.C_below Co.out hb);have Cl:=mkA (Kd.R_reads' ho).2.2;have Ll:=mkA (Kd.R_reads' ho).2.1;clear ho;replace HB:=mkA (HB.out.trans (hb.mono HB.out.size));clear hb;have z4_9_0:=(bkC K4.out 0).trans rfl;have z4_9_1:=(bkC K4.out 1).trans rfl)|(go_at_call 25;refine(undercroftref04_For.calls k a As cs l a3 fl fe _ Cs.out Ls.out h10.out).mono ?_;rintro e w10_ ⟨v,rfl,ho,hb⟩;obtain ⟨Az,cz,rfl⟩:=Kd.R_slice ho;replace K4:=mkA (bkB K4.out hb);replace K5:=mkA (bkB K5.out hb);replace K9:=mkA (bkB K9.out hb);replace K10:=mkA (bkB K10.out hb);replace K11:=mkA (bkB K11.out hb);replace K14:=mkA (bkB K14.out hb);replace K17:=mkA (bkB K17.out hb);replace K18:=mkA (bkB K18.out hb);replace K20:=mkA (bkB K20.out hb);replace K21:=mkA (bkB K21.out hb);replace K23:=mkA (bkB K23.out hb);replace K25:=mkA (bkB K25.out hb);replace K27:=mkA (bkB K27.out hb);replace K30:=mkA (bkB K30.out hb);replace Cs:=mkA (Kd.C_below Cs.out hb);replace Cp:=mkA (Kd.C_below Cp.out hb);replace Cx:=mkA (Kd.C_below Cx.out hb);replace Cy:=mkA (Kd.C_below Cy.out hb);replace Ca:=mkA (Kd.C_below Ca.out hb);replace Cb:=mkA (Kd.C_below Cb.out hb);replace Cc:=mkA (Kd.C_below Cc.out hb);replace Cq:=mkA (Kd.C_below Cq.out hb);replace Cd:=mkA (Kd.C_below Cd.out hb);replace Cr:=mkA (Kd.C_below Cr.out hb);replace Cu:=mkA (Kd.C_below Cu.out hb);replace Cv:=mkA (Kd.C_below Cv.out hb);replace Cm:=mkA (Kd.C_below Cm.out hb);replace Co:=mkA (Kd.C_below Co.out hb);replace Cl:=mkA (Kd.C_below Cl.out hb);have Cz:=mkA (Kd.R_reads' ho).2.2;have Lz:=mkA (Kd.R_reads' ho).2.1;clear ho;replace HB:=mkA (HB.out.trans (hb.mono HB.out.size));clear hb;have z11_10_0:=(bkC K11.out 0).trans rfl;have z11_10_1:=(bkC K11.out 1).trans rfl;have z14_10_0:=(bkC K14.out 0).trans rfl;have z14_10_1:=(bkC K14.out 1).trans rfl)|(go_at_call_of 18 (Value.agg #[.int .i64 sa,.slice Aa sl.length ca]);refine(undercroftlaw04_same.calls k sa Aa ca sl sa Ab cb sm true _ Ca.out La.out Cb.out Lb.out g1.out).mono ?_;rintro e w11_ ⟨rfl,hb⟩;replace K4:=mkA (bkB K4.out hb);replace K5:=mkA (bkB K5.out hb);replace K9:=mkA (bkB K9.out hb);replace K10:=mkA (bkB K10.out hb);replace K11:=mkA (bkB K11.out hb);replace K14:=mkA (bkB K14.out hb);replace K17:=mkA (bkB K17.out hb);replace K18:=mkA (bkB K18.out hb);replace K20:=mkA (bkB K20.out hb);replace K21:=mkA (bkB K21.out hb);replace K23:=mkA (bkB K23.out hb);replace K25:=mkA (bkB K25.out hb);replace K27:=mkA (bkB K27.out hb);replace K30:=mkA (bkB K30.out hb);replace Cs:=mkA (Kd.C_below Cs.out hb);replace Cp:=mkA (Kd.C_below Cp.out hb);replace Cx:=mkA (Kd.C_below Cx.out hb);replace Cy:=mkA (Kd.C_below Cy.out hb);replace Ca:=mkA (Kd.C_below Ca.out hb);replace Cb:=mkA (Kd.C_below Cb.out hb);replace Cc:=mkA (Kd.C_below Cc.out hb);replace Cq:=mkA (Kd.C_below Cq.out hb);replace Cd:=mkA (Kd.C_below Cd.out hb);replace Cr:=mkA (Kd.C_below Cr.out hb);replace Cu:=mkA (Kd.C_below Cu.out hb);replace Cv:=mkA (Kd.C_below Cv.out hb);replace Cm:=mkA (Kd.C_below Cm.out hb);replace Co:=mkA (Kd.C_below Co.out hb);replace Cl:=mkA (Kd.C_below Cl.out hb);replace Cz:=mkA (Kd.C_below Cz.out hb);replace HB:=mkA (HB.out.trans (hb.mono HB.out.size));clear hb)|(go_at_call_of 10 (Value.int .i64 se);refine(undercroftlaw04_num.calls se se _ rfl).mono ?_;rintro e w12_ ⟨rfl,hd⟩;have hb:=below_of0 hd;replace K4:=mkA (bkB K4.out hb);replace K5:=mkA (bkB K5.out hb);replace K9:=mkA (bkB K9.out hb);replace K10:=mkA (bkB K10.out hb);replace K11:=mkA (bkB K11.out hb);replace K14:=mkA (bkB K14.out hb);replace K17:=mkA (bkB K17.out hb);replace K18:=mkA (bkB K18.out hb);replace K20:=mkA (bkB K20.out hb);replace K21:=mkA (bkB K21.out hb);replace K23:=mkA (bkB K23.out hb);replace K25:=mkA (bkB K25.out hb);replace K27:=mkA (bkB K27.out hb);replace K30:=mkA (bkB K30.out hb);replace Cs:=mkA (Kd.C_below Cs.out hb);replace Cp:=mkA (Kd.C_below Cp.out hb);replace Cx:=mkA (Kd.C_below Cx.out hb);replace Cy:=mkA (Kd.C_below Cy.out hb);replace Ca:=mkA (Kd.C_below Ca.out hb);replace Cb:=mkA (Kd.C_below Cb.out hb);replace Cc:=mkA (Kd.C_below Cc.out hb);replace Cq:=mkA (Kd.C_below Cq.out hb);replace Cd:=mkA (Kd.C_below Cd.out hb);replace Cr:=mkA (Kd.C_below Cr.out hb);replace Cu:=mkA (Kd.C_below Cu.out hb);replace Cv:=mkA (Kd.C_below Cv.out hb);replace Cm:=mkA (Kd.C_below Cm.out hb);replace Co:=mkA (Kd.C_below Co.out hb);replace Cl:=mkA (Kd.C_below Cl.out hb);replace Cz:=mkA (Kd.C_below Cz.out hb);replace HB:=mkA (HB.out.trans (hb.mono HB.out.size));clear hb hd;have z17_12_0:=(bkC K17.out 0).trans rfl;have z17_12_1:=(bkC K17.out 1).trans rfl;have z20_12_0:=(bkC K20.out 0).trans rfl;have z20_12_1:=(bkC K20.out 1).trans rfl)|(go_at_call_of 18 (Value.agg #[.int .i64 ta,.slice Ac tl.length cc]);refine(undercroftlaw04_same.calls k ta Ac cc tl ta Ad cd tm true _ Cc.out Lc.out Cd.out Ld.out g2.out).mono ?_;rintro e w13_ ⟨rfl,hb⟩;replace K4:=mkA (bkB K4.out hb);replace K5:=mkA (bkB K5.out hb);replace K9:=mkA (bkB K9.out hb);replace K10:=mkA (bkB K10.out hb);replace K11:=mkA (bkB K11.out hb);replace K14:=mkA (bkB K14.out hb);replace K17:=mkA (bkB K17.out hb);replace K18:=mkA (bkB K18.out hb);replace K20:=mkA (bkB K20.out hb);replace K21:=mkA (bkB K21.out hb);replace K23:=mkA (bkB K23.out hb);replace K25:=mkA (bkB K25.out hb);replace K27:=mkA (bkB K27.out hb);replace K30:=mkA (bkB K30.out hb);replace Cs:=mkA (Kd.C_below Cs.out hb);replace Cp:=mkA (Kd.C_below Cp.out hb);replace Cx:=mkA (Kd.C_below Cx.out hb);replace Cy:=mkA (Kd.C_below Cy.out hb);replace Ca:=mkA (Kd.C_below Ca.out hb);replace Cb:=mkA (Kd.C_below Cb.out hb);replace Cc:=mkA (Kd.C_below Cc.out hb);replace Cq:=mkA (Kd.C_below Cq.out hb);replace Cd:=mkA (Kd.C_below Cd.out hb);replace Cr:=mkA (Kd.C_below Cr.out hb);replace Cu:=mkA (Kd.C_below Cu.out hb);replace Cv:=mkA (Kd.C_below Cv.out hb);replace Cm:=mkA (Kd.C_below Cm.out hb);replace Co:=mkA (Kd.C_below Co.out hb);replace Cl:=mkA (Kd.C_below Cl.out hb);replace Cz:=mkA (Kd.C_below Cz.out hb);replace HB:=mkA (HB.out.trans (hb.mono HB.out.size));clear hb;have z18_13_0:=(bkC K18.out 0).trans rfl;have z18_13_1:=(bkC K18.out 1).trans rfl;have z18_13_2:=(bkC K18.out 2).trans rfl;have z21_13_0:=(bkC K21.out 0).trans rfl;have z21_13_1:=(bkC K21.out 1).trans rfl;have z21_13_2:=(bkC K21.out 2).trans rfl)|(go_at_call 19;refine(undercroftlaw04_samePacket.calls k t0 t1 Aq cq td t0 t1 Ar cr td true _ Cq.out Lq.out Cr.out Lr.out g3.out).mono ?_;rintro e w14_ ⟨rfl,hb⟩;replace K4:=mkA (bkB K4.out hb);replace K5:=mkA (bkB K5.out hb);replace K9:=mkA (bkB K9.out hb);replace K10:=mkA (bkB K10.out hb);replace K11:=mkA (bkB K11.out hb);replace K14:=mkA (bkB K14.out hb);replace K17:=mkA (bkB K17.out hb);replace K18:=mkA (bkB K18.out hb);replace K20:=mkA (bkB K20.out hb);replace K21:=mkA (bkB K21.out hb);replace K23:=mkA (bkB K23.out hb);replace K25:=mkA (bkB K25.out hb);replace K27:=mkA (bkB K27.out hb);replace K30:=mkA (bkB K30.out hb);replace Cs:=mkA (Kd.C_below Cs.out hb);replace Cp:=mkA (Kd.C_below Cp.out hb);replace Cx:=mkA (Kd.C_below Cx.out hb);replace Cy:=mkA (Kd.C_below Cy.out hb);replace Ca:=mkA (Kd.C_below Ca.out hb);replace Cb:=mkA (Kd.C_below Cb.out hb);replace Cc:=mkA (Kd.C_below Cc.out hb);replace Cq:=mkA (Kd.C_below Cq.out hb);replace Cd:=mkA (Kd.C_below Cd.out hb);replace Cr:=mkA (Kd.C_below Cr.out hb);replace Cu:=mkA (Kd.C_below Cu.out hb);replace Cv:=mkA (Kd.C_below Cv.out hb);replace Cm:=mkA (Kd.C_below Cm.out hb);replace Co:=mkA (Kd.C_below Co.out hb);replace Cl:=mkA (Kd.C_below Cl.out hb);replace Cz:=mkA (Kd.C_below Cz.out hb);replace HB:=mkA (HB.out.trans (hb.mono HB.out.size));clear hb)|(go_at_call_of 10 (Value.int .i64 te);refine(undercroftlaw04_num.calls te te _ rfl).mono ?_;rintro e w15_ ⟨rfl,hd⟩;have hb:=below_of0 hd;replace K4:=mkA (bkB K4.out hb);replace K5:=mkA (bkB K5.out hb);replace K9:=mkA (bkB K9.out hb);replace K10:=mkA (bkB K10.out hb);replace K11:=mkA (bkB K11.out hb);replace K14:=mkA (bkB K14.out hb);replace K17:=mkA (bkB K17.out hb);replace K18:=mkA (bkB K18.out hb);replace K20:=mkA (bkB K20.out hb);replace K21:=mkA (bkB K21.out hb);replace K23:=mkA (bkB K23.out hb);replace K25:=mkA (bkB K25.out hb);replace K27:=mkA (bkB K27.out hb);replace K30:=mkA (bkB K30.out hb);replace Cs:=mkA (Kd.C_below Cs.out hb);replace Cp:=mkA (Kd.C_below Cp.out hb);replace Cx:=mkA (Kd.C_below Cx.out hb);replace Cy:=mkA (Kd.C_below Cy.out hb);replace Ca:=mkA (Kd.C_below Ca.out hb);replace Cb:=mkA (Kd.C_below Cb.out hb);replace Cc:=mkA (Kd.C_below Cc.out hb);replace Cq:=mkA (Kd.C_below Cq.out hb);replace Cd:=mkA (Kd.C_below Cd.out hb);replace Cr:=mkA (Kd.C_below Cr.out hb);replace Cu:=mkA (Kd.C_below Cu.out hb);replace Cv:=mkA (Kd.C_below Cv.out hb);replace Cm:=mkA (Kd.C_below Cm.out hb);replace Co:=mkA (Kd.C_below Co.out hb);replace Cl:=mkA (Kd.C_below Cl.out hb);replace Cz:=mkA (Kd.C_below Cz.out hb);replace HB:=mkA (HB.out.trans (hb.mono HB.out.size));clear hb hd;have z23_15_0:=(bkC K23.out 0).trans rfl;have z23_15_1:=(bkC K23.out 1).trans rfl;have z25_15_0:=(bkC K25.out 0).trans rfl;have z25_15_1:=(bkC K25.out 1).trans rfl)|(go_at_call_of 18 (Value.agg #[.int .i64 da,.slice Au dl.length cu]);refine(undercroftlaw04_same.calls k da Au cu dl da Av cv dm true _ Cu.out Lu.out Cv.out Lv.out g4.out).mono ?_;rintro e w16_ ⟨rfl,hb⟩;replace K4:=mkA (bkB K4.out hb);replace K5:=mkA (bkB K5.out hb);replace K9:=mkA (bkB K9.out hb);replace K10:=mkA (bkB K10.out hb);replace K11:=mkA (bkB K11.out hb);replace K14:=mkA (bkB K14.out hb);replace K17:=mkA (bkB K17.out hb);replace K18:=mkA (bkB K18.out hb);replace K20:=mkA (bkB K20.out hb);replace K21:=mkA (bkB K21.out hb);replace K23:=mkA (bkB K23.out hb);replace K25:=mkA (bkB K25.out hb);replace K27:=mkA (bkB K27.out hb);replace K30:=mkA (bkB K30.out hb);replace Cs:=mkA (Kd.C_below Cs.out hb);replace Cp:=mkA (Kd.C_below Cp.out hb);replace Cx:=mkA (Kd.C_below Cx.out hb);replace Cy:=mkA (Kd.C_below Cy.out hb);replace Ca:=mkA (Kd.C_below Ca.out hb);replace Cb:=mkA (Kd.C_below Cb.out hb);replace Cc:=mkA (Kd.C_below Cc.out hb);replace Cq:=mkA (Kd.C_below Cq.out hb);replace Cd:=mkA (Kd.C_below Cd.out hb);replace Cr:=mkA (Kd.C_below Cr.out hb);replace Cu:=mkA (Kd.C_below Cu.out hb);replace Cv:=mkA (Kd.C_below Cv.out hb);replace Cm:=mkA (Kd.C_below Cm.out hb);replace Co:=mkA (Kd.C_below Co.out hb);replace Cl:=mkA (Kd.C_below Cl.out hb);replace Cz:=mkA (Kd.C_below Cz.out hb);replace HB:=mkA (HB.out.trans (hb.mono HB.out.size));clear hb)|(go_at_call_of 10 (Value.int .i64 de);refine(undercroftlaw04_num.calls de de _ rfl).mono ?_;rintro e w17_ ⟨rfl,hd⟩;have hb:=below_of0 hd;replace K4:=mkA (bkB K4.out hb);replace K5:=mkA (bkB K5.out hb);replace K9:=mkA (bkB K9.out hb);replace K10:=mkA (bkB K10.out hb);replace K11:=mkA (bkB K11.out hb);replace K14:=mkA (bkB K14.out hb);replace K17:=mkA (bkB K17.out hb);replace K18:=mkA (bkB K18.out hb);replace K20:=mkA (bkB K20.out hb);replace K21:=mkA (bkB K21.out hb);replace K23:=mkA (bkB K23.out hb);replace K25:=mkA (bkB K25.out hb);replace K27:=mkA (bkB K27.out hb);replace K30:=mkA (bkB K30.out hb);replace Cs:=mkA (Kd.C_below Cs.out hb);replace Cp:=mkA (Kd.C_below Cp.out hb);replace Cx:=mkA (Kd.C_below Cx.out hb);replace Cy:=mkA (Kd.C_below Cy.out hb);replace Ca:=mkA (Kd.C_below Ca.out hb);replace Cb:=mkA (Kd.C_below Cb.out hb);replace Cc:=mkA (Kd.C_below Cc.out hb);replace Cq:=mkA (Kd.C_below Cq.out hb);replace Cd:=mkA (Kd.C_below Cd.out hb);replace Cr:=mkA (Kd.C_below Cr.out hb);replace Cu:=mkA (Kd.C_below Cu.out hb);replace Cv:=mkA (Kd.C_below Cv.out hb);replace Cm:=mkA (Kd.C_below Cm.out hb);replace Co:=mkA (Kd.C_below Co.out hb);replace Cl:=mkA (Kd.C_below Cl.out hb);replace Cz:=mkA (Kd.C_below Cz.out hb);replace HB:=mkA (HB.out.trans (hb.mono HB.out.size));clear hb hd;have z27_17_0:=(bkC K27.out 0).trans rfl;have z27_17_1:=(bkC K27.out 1).trans rfl;have z30_17_0:=(bkC K30.out 0).trans rfl;have z30_17_1:=(bkC K30.out 1).trans rfl)|(go_at_call_of 18 (Value.agg #[.int .i64 ba,.slice Am bl.length cm]);refine(undercroftlaw04_same.calls k ba Am cm bl ba Ao co bm true _ Cm.out Lm.out Co.out Lo.out g5.out).mono ?_;rintro e w18_ ⟨rfl,hb⟩;replace K4:=mkA (bkB K4.out hb);replace K5:=mkA (bkB K5.out hb);replace K9:=mkA (bkB K9.out hb);replace K10:=mkA (bkB K10.out hb);replace K11:=mkA (bkB K11.out hb);replace K14:=mkA (bkB K14.out hb);replace K17:=mkA (bkB K17.out hb);replace K18:=mkA (bkB K18.out hb);replace K20:=mkA (bkB K20.out hb);replace K21:=mkA (bkB K21.out hb);replace K23:=mkA (bkB K23.out hb);replace K25:=mkA (bkB K25.out hb);replace K27:=mkA (bkB K27.out hb);replace K30:=mkA (bkB K30.out hb);replace Cs:=mkA (Kd.C_below Cs.out hb);replace Cp:=mkA (Kd.C_below Cp.out hb);replace Cx:=mkA (Kd.C_below Cx.out hb);replace Cy:=mkA (Kd.C_below Cy.out hb);replace Ca:=mkA (Kd.C_below Ca.out hb);replace Cb:=mkA (Kd.C_below Cb.out hb);replace Cc:=mkA (Kd.C_below Cc.out hb);replace Cq:=mkA (Kd.C_below Cq.out hb);replace Cd:=mkA (Kd.C_below Cd.out hb);replace Cr:=mkA (Kd.C_below Cr.out hb);replace Cu:=mkA (Kd.C_below Cu.out hb);replace Cv:=mkA (Kd.C_below Cv.out hb);replace Cm:=mkA (Kd.C_below Cm.out hb);replace Co:=mkA (Kd.C_below Co.out hb);replace Cl:=mkA (Kd.C_below Cl.out hb);replace Cz:=mkA (Kd.C_below Cz.out hb);replace HB:=mkA (HB.out.trans (hb.mono HB.out.size));clear hb)|(go_at_call_of 10 (Value.int .i64 be);refine(undercroftlaw04_num.calls be be _ rfl).mono ?_;rintro e w19_ ⟨rfl,hd⟩;have hb:=below_of0 hd;replace K4:=mkA (bkB K4.out hb);replace K5:=mkA (bkB K5.out hb);replace K9:=mkA (bkB K9.out hb);replace K10:=mkA (bkB K10.out hb);replace K11:=mkA (bkB K11.out hb);replace K14:=mkA (bkB K14.out hb);replace K17:=mkA (bkB K17.out hb);replace K18:=mkA (bkB K18.out hb);replace K20:=mkA (bkB K20.out hb);replace K21:=mkA (bkB K21.out hb);replace K23:=mkA (bkB K23.out hb);replace K25:=mkA (bkB K25.out hb);replace K27:=mkA (bkB K27.out hb);replace K30:=mkA (bkB K30.out hb);replace Cs:=mkA (Kd.C_below Cs.out hb);replace Cp:=mkA (Kd.C_below Cp.out hb);replace Cx:=mkA (Kd.C_below Cx.out hb);replace Cy:=mkA (Kd.C_below Cy.out hb);replace Ca:=mkA (Kd.C_below Ca.out hb);replace Cb:=mkA (Kd.C_below Cb.out hb);replace Cc:=mkA (Kd.C_below Cc.out hb);replace Cq:=mkA (Kd.C_below Cq.out hb);replace Cd:=mkA (Kd.C_below Cd.out hb);replace Cr:=mkA (Kd.C_below Cr.out hb);replace Cu:=mkA (Kd.C_below Cu.out hb);replace Cv:=mkA (Kd.C_below Cv.out hb);replace Cm:=mkA (Kd.C_below Cm.out hb);replace Co:=mkA (Kd.C_below Co.out hb);replace Cl:=mkA (Kd.C_below Cl.out hb);replace Cz:=mkA (Kd.C_below Cz.out hb);replace HB:=mkA (HB.out.trans (hb.mono HB.out.size));clear hb hd)|(go_at_call 26;refine(undercroftplain_SameInts.calls k Al cl fl Az cz fl true _ Cl.out Ll.out Cz.out Lz.out g6.out).mono ?_;rintro e w20_ ⟨rfl,hd⟩;have hb:=below_of0 hd;replace K4:=mkA (bkB K4.out hb);replace K5:=mkA (bkB K5.out hb);replace K9:=mkA (bkB K9.out hb);replace K10:=mkA (bkB K10.out hb);replace K11:=mkA (bkB K11.out hb);replace K14:=mkA (bkB K14.out hb);replace K17:=mkA (bkB K17.out hb);replace K18:=mkA (bkB K18.out hb);replace K20:=mkA (bkB K20.out hb);replace K21:=mkA (bkB K21.out hb);replace K23:=mkA (bkB K23.out hb);replace K25:=mkA (bkB K25.out hb);replace K27:=mkA (bkB K27.out hb);replace K30:=mkA (bkB K30.out hb);replace Cs:=mkA (Kd.C_below Cs.out hb);replace Cp:=mkA (Kd.C_below Cp.out hb);replace Cx:=mkA (Kd.C_below Cx.out hb);replace Cy:=mkA (Kd.C_below Cy.out hb);replace Ca:=mkA (Kd.C_below Ca.out hb);replace Cb:=mkA (Kd.C_below Cb.out hb);replace Cc:=mkA (Kd.C_below Cc.out hb);replace Cq:=mkA (Kd.C_below Cq.out hb);replace Cd:=mkA (Kd.C_below Cd.out hb);replace Cr:=mkA (Kd.C_below Cr.out hb);replace Cu:=mkA (Kd.C_below Cu.out hb);replace Cv:=mkA (Kd.C_below Cv.out hb);replace Cm:=mkA (Kd.C_below Cm.out hb);replace Co:=mkA (Kd.C_below Co.out hb);replace Cl:=mkA (Kd.C_below Cl.out hb);replace Cz:=mkA (Kd.C_below Cz.out hb);replace HB:=mkA (HB.out.trans (hb.mono HB.out.size));clear hb hd)|(go_at_call_of 10 (Value.int .i64 fe);refine(undercroftlaw04_num.calls fe fe _ rfl).mono ?_;rintro e w21_ ⟨rfl,hd⟩;have hb:=below_of0 hd;replace K4:=mkA (bkB K4.out hb);replace K5:=mkA (bkB K5.out hb);replace K9:=mkA (bkB K9.out hb);replace K10:=mkA (bkB K10.out hb);replace K11:=mkA (bkB K11.out hb);replace K14:=mkA (bkB K14.out hb);replace K17:=mkA (bkB K17.out hb);replace K18:=mkA (bkB K18.out hb);replace K20:=mkA (bkB K20.out hb);replace K21:=mkA (bkB K21.out hb);replace K23:=mkA (bkB K23.out hb);replace K25:=mkA (bkB K25.out hb);replace K27:=mkA (bkB K27.out hb);replace K30:=mkA (bkB K30.out hb);replace Cs:=mkA (Kd.C_below Cs.out hb);replace Cp:=mkA (Kd.C_below Cp.out hb);replace Cx:=mkA (Kd.C_below Cx.out hb);replace Cy:=mkA (Kd.C_below Cy.out hb);replace Ca:=mkA (Kd.C_below Ca.out hb);replace Cb:=mkA (Kd.C_below Cb.out hb);replace Cc:=mkA (Kd.C_below Cc.out hb);replace Cq:=mkA (Kd.C_below Cq.out hb);replace Cd:=mkA (Kd.C_below Cd.out hb);replace Cr:=mkA (Kd.C_below Cr.out hb);replace Cu:=mkA (Kd.C_below Cu.out hb);replace Cv:=mkA (Kd.C_below Cv.out hb);replace Cm:=mkA (Kd.C_below Cm.out hb);replace Co:=mkA (Kd.C_below Co.out hb);replace Cl:=mkA (Kd.C_below Cl.out hb);replace Cz:=mkA (Kd.C_below Cz.out hb);replace HB:=mkA (HB.out.trans (hb.mono HB.out.size));clear hb hd))
  skip
  refine start_ (n:=20) (S:=fun w'=>w'.cell? ⟨b9,0,none⟩ = some (.int .i64 a)∧w'.cell? ⟨b9,1,none⟩ = some (.slice Ax lx.length cx)∧w'.cell? ⟨b4,0,none⟩ = some (.int .i64 a)∧w'.cell? ⟨b4,1,none⟩ = some (.slice As l.length cs)∧w'.cell? ⟨b10,0,none⟩ = some (.int .i64 p0)∧w'.cell? ⟨b10,1,none⟩ = some (.int .i64 p1)∧w'.cell? ⟨b10,2,none⟩ = some (.slice Ay pd.length cy)∧w'.cell? ⟨b5,0,none⟩ = some (.int .i64 p0)∧w'.cell? ⟨b5,1,none⟩ = some (.int .i64 p1)∧w'.cell? ⟨b5,2,none⟩ = some (.slice Ap pd.length cp)) (ds:=[]) #[false,false,false,false,false,false,false,false,false,false,false,false,false,false,false,false,false,false,false,false] (by kernel_rfl) rfl rfl ⟨(bkC K9.out 0).trans rfl,(bkC K9.out 1).trans rfl,(bkC K4.out 0).trans rfl,(bkC K4.out 1).trans rfl,(bkC K10.out 0).trans rfl,(bkC K10.out 1).trans rfl,(bkC K10.out 2).trans rfl,(bkC K5.out 0).trans rfl,(bkC K5.out 1).trans rfl,(bkC K5.out 2).trans rfl⟩ (fun hHeld=>?_);refine with_tabW NetTells.tab14 NetTells.bits14 (fun HT_ HW_=>?_)
  replace K9:=mkA (bkD K9.out)
  replace K4:=mkA (bkD K4.out)
  replace K10:=mkA (bkD K10.out)
  replace K5:=mkA (bkD K5.out)
  replace Cs:=mkA (Kd.C_drew Cs.out)
  replace Cp:=mkA (Kd.C_drew Cp.out)
  replace Cx:=mkA (Kd.C_drew Cx.out)
  replace Cy:=mkA (Kd.C_drew Cy.out)
  replace HB:=mkA (bwD HB.out)
  refine take_ (i:=0) (N:=some 181) (v:=?_) (a':=?_) #[true,false,false,false,false,false,false,false,false,false,false,false,false,false,false,false,false,false,false,false] rfl rfl (take_ofW HT_.out HW_.out (by kernel_rfl)) (fun _ _ _ h=>h) (Or.inl ⟨by rfl,?_⟩) hHeld ?_ ?_
  rotate_left
  · rintro w' ⟨s0,s1,s2,s3,s4,s5,s6,s7,s8,s9⟩
    go_simp
    with_reducible rfl
  rotate_left
  · simp only [Act.put,lsA,lsZ,lsS,i64_w,i32_w]
    rfl
  refine take_ (i:=3) (N:=some 184) (v:=?_) (a':=?_) #[true,false,false,true,false,false,false,false,false,false,false,false,false,false,false,false,false,false,false,false] rfl rfl (take_ofW HT_.out HW_.out (by kernel_rfl)) (fun _ _ _ h=>h) (Or.inl ⟨by rfl,?_⟩) hHeld ?_ ?_
  rotate_left
  · rintro w' ⟨s0,s1,s2,s3,s4,s5,s6,s7,s8,s9⟩
    go_simp
    with_reducible rfl
  rotate_left
  · simp only [Act.put,lsA,lsZ,lsS,i64_w,i32_w]
    rfl
  refine one_ (i:=1) (N:=some 182) #[true,true,false,true,false,false,false,false,false,false,false,false,false,false,false,false,false,false,false,false] rfl rfl (one_of HT_.out (by kernel_rfl)) (by decide) (fun K hK=>?_)
  refine goes_ Try.func27 (by kernel_rfl) rfl #[.agg #[.int .i64 a,.slice Ax lx.length cx]] (by rfl) rfl rfl (by(try simp only [List.map_toArray,List.map_cons,List.map_nil]);first|done|rfl) ?_
  with_reducible refine(net_Check.calls a Ax cx lx ce _ Cx.out Lx.out g7.out).mono ?_
  rintro e wh1 ⟨rfl,hb⟩
  refine⟨_,rfl,?_⟩
  replace K9:=mkA (bkB K9.out hb)
  replace K4:=mkA (bkB K4.out hb)
  replace K10:=mkA (bkB K10.out hb)
  replace K5:=mkA (bkB K5.out hb)
  replace Cs:=mkA (Kd.C_below Cs.out hb)
  replace Cp:=mkA (Kd.C_below Cp.out hb)
  replace Cx:=mkA (Kd.C_below Cx.out hb)
  replace Cy:=mkA (Kd.C_below Cy.out hb)
  replace HB:=mkA (HB.out.trans (hb.mono HB.out.size))
  clear hb
  refine hK.out _ _ ⟨(bkC K9.out 0).trans rfl,(bkC K9.out 1).trans rfl,(bkC K4.out 0).trans rfl,(bkC K4.out 1).trans rfl,(bkC K10.out 0).trans rfl,(bkC K10.out 1).trans rfl,(bkC K10.out 2).trans rfl,(bkC K5.out 0).trans rfl,(bkC K5.out 1).trans rfl,(bkC K5.out 2).trans rfl⟩ (fun hHeld=>?_)
  clear hK K
  refine norm_ (a':=?_) ?_ ?_
  rotate_left
  · show Act.put _ (some 182) _ = _
    simp only [Act.put,lsA,lsZ,lsS,i64_w,i32_w]
    rfl
  refine one_ (i:=2) (N:=some 183) #[true,true,true,true,false,false,false,false,false,false,false,false,false,false,false,false,false,false,false,false] rfl rfl (one_of HT_.out (by kernel_rfl)) (by decide) (fun K hK=>?_)
  refine goes_ Try.func10 (by kernel_rfl) rfl #[.int .i64 ce] (by rfl) rfl rfl (by(try simp only [List.map_toArray,List.map_cons,List.map_nil]);first|done|rfl) ?_
  with_reducible refine(undercroftlaw04_num.calls ce ce _ rfl).mono ?_
  rintro e wh2 ⟨rfl,hd⟩
  have hb:=below_of0 hd
  clear hd
  refine⟨_,rfl,?_⟩
  replace K9:=mkA (bkB K9.out hb)
  replace K4:=mkA (bkB K4.out hb)
  replace K10:=mkA (bkB K10.out hb)
  replace K5:=mkA (bkB K5.out hb)
  replace Cs:=mkA (Kd.C_below Cs.out hb)
  replace Cp:=mkA (Kd.C_below Cp.out hb)
  replace Cx:=mkA (Kd.C_below Cx.out hb)
  replace Cy:=mkA (Kd.C_below Cy.out hb)
  replace HB:=mkA (HB.out.trans (hb.mono HB.out.size))
  clear hb
  refine hK.out _ _ ⟨(bkC K9.out 0).trans rfl,(bkC K9.out 1).trans rfl,(bkC K4.out 0).trans rfl,(bkC K4.out 1).trans rfl,(bkC K10.out 0).trans rfl,(bkC K10.out 1).trans rfl,(bkC K10.out 2).trans rfl,(bkC K5.out 0).trans rfl,(bkC K5.out 1).trans rfl,(bkC K5.out 2).trans rfl⟩ (fun hHeld=>?_)
  clear hK K
  refine norm_ (a':=?_) ?_ ?_
  rotate_left
  · show Act.put _ (some 183) _ = _
    simp only [Act.put,lsA,lsZ,lsS,i64_w,i32_w]
    rfl
  refine one_ (i:=4) (N:=some 185) #[true,true,true,true,true,false,false,false,false,false,false,false,false,false,false,false,false,false,false,false] rfl rfl (one_of HT_.out (by kernel_rfl)) (by decide) (fun K hK=>?_)
  refine goes_ Try.func11 (by kernel_rfl) rfl #[.agg #[.int .i64 a,.slice As l.length cs]] (by rfl) rfl rfl (by(try simp only [List.map_toArray,List.map_cons,List.map_nil]);first|done|rfl) ?_
  with_reducible refine(undercroftref04_Check.calls k a As cs l ce _ Cs.out Ls.out g8.out).mono ?_
  rintro e wh4 ⟨rfl,hb⟩
  refine⟨_,rfl,?_⟩
  replace K9:=mkA (bkB K9.out hb)
  replace K4:=mkA (bkB K4.out hb)
  replace K10:=mkA (bkB K10.out hb)
  replace K5:=mkA (bkB K5.out hb)
  replace Cs:=mkA (Kd.C_below Cs.out hb)
  replace Cp:=mkA (Kd.C_below Cp.out hb)
  replace Cx:=mkA (Kd.C_below Cx.out hb)
  replace Cy:=mkA (Kd.C_below Cy.out hb)
  replace HB:=mkA (HB.out.trans (hb.mono HB.out.size))
  clear hb
  refine hK.out _ _ ⟨(bkC K9.out 0).trans rfl,(bkC K9.out 1).trans rfl,(bkC K4.out 0).trans rfl,(bkC K4.out 1).trans rfl,(bkC K10.out 0).trans rfl,(bkC K10.out 1).trans rfl,(bkC K10.out 2).trans rfl,(bkC K5.out 0).trans rfl,(bkC K5.out 1).trans rfl,(bkC K5.out 2).trans rfl⟩ (fun hHeld=>?_)
  clear hK K
  refine norm_ (a':=?_) ?_ ?_
  rotate_left
  · show Act.put _ (some 185) _ = _
    simp only [Act.put,lsA,lsZ,lsS,i64_w,i32_w]
    rfl
  refine pure_ (i:=5) (N:=some 186) (v:=?_) (a':=?_) #[true,true,true,true,true,true,false,false,false,false,false,false,false,false,false,false,false,false,false,false] rfl rfl (any_of HT_.out (by kernel_rfl)) (fun _ _ _ h=>h) (Or.inl ⟨by rfl,?_⟩) ?_ ?_
  rotate_left
  · intro w'
    go_simp
    with_reducible rfl
  rotate_left
  · simp only [Act.put,lsA,lsZ,lsS,i64_w,i32_w]
    rfl
  refine pure_ (i:=6) (N:=some 187) (v:=?_) (a':=?_) #[true,true,true,true,true,true,true,false,false,false,false,false,false,false,false,false,false,false,false,false] rfl rfl (any_of HT_.out (by kernel_rfl)) (fun _ _ _ h=>h) (Or.inl ⟨by rfl,?_⟩) ?_ ?_
  rotate_left
  · intro w'
    go_simp
    with_reducible rfl
  rotate_left
  · simp only [Act.put,lsA,lsZ,lsS,i64_w,i32_w]
    rfl
  refine take_ (i:=7) (N:=some 188) (v:=?_) (a':=?_) #[true,true,true,true,true,true,true,true,false,false,false,false,false,false,false,false,false,false,false,false] rfl rfl (take_ofW HT_.out HW_.out (by kernel_rfl)) (fun _ _ _ h=>h) (Or.inl ⟨by rfl,?_⟩) hHeld ?_ ?_
  rotate_left
  · rintro w' ⟨s0,s1,s2,s3,s4,s5,s6,s7,s8,s9⟩
    go_simp
    with_reducible rfl
  rotate_left
  · simp only [Act.put,lsA,lsZ,lsS,i64_w,i32_w]
    rfl
  refine take_ (i:=8) (N:=some 189) (v:=?_) (a':=?_) #[true,true,true,true,true,true,true,true,true,false,false,false,false,false,false,false,false,false,false,false] rfl rfl (take_ofW HT_.out HW_.out (by kernel_rfl)) (fun _ _ _ h=>h) (Or.inl ⟨by rfl,?_⟩) hHeld ?_ ?_
  rotate_left
  · rintro w' ⟨s0,s1,s2,s3,s4,s5,s6,s7,s8,s9⟩
    go_simp
    with_reducible rfl
  rotate_left
  · simp only [Act.put,lsA,lsZ,lsS,i64_w,i32_w]
    rfl
  refine one_ (i:=9) (N:=some 190) #[true,true,true,true,true,true,true,true,true,true,false,false,false,false,false,false,false,false,false,false] rfl rfl (one_of HT_.out (by kernel_rfl)) (by decide) (fun K hK=>?_)
  refine goes_ Try.func18 (by kernel_rfl) rfl #[.agg #[.int .i64 a,.slice Ax lx.length cx],.agg #[.int .i64 a,.slice As l.length cs]] (by rfl) rfl rfl (by(try simp only [List.map_toArray,List.map_cons,List.map_nil]);first|done|rfl) ?_
  with_reducible refine(undercroftlaw04_same.calls k a Ax cx lx a As cs l true _ Cx.out Lx.out Cs.out Ls.out g9.out).mono ?_
  rintro e wh9 ⟨rfl,hb⟩
  refine⟨_,rfl,?_⟩
  replace K9:=mkA (bkB K9.out hb)
  replace K4:=mkA (bkB K4.out hb)
  replace K10:=mkA (bkB K10.out hb)
  replace K5:=mkA (bkB K5.out hb)
  replace Cs:=mkA (Kd.C_below Cs.out hb)
  replace Cp:=mkA (Kd.C_below Cp.out hb)
  replace Cx:=mkA (Kd.C_below Cx.out hb)
  replace Cy:=mkA (Kd.C_below Cy.out hb)
  replace HB:=mkA (HB.out.trans (hb.mono HB.out.size))
  clear hb
  refine hK.out _ _ ⟨(bkC K9.out 0).trans rfl,(bkC K9.out 1).trans rfl,(bkC K4.out 0).trans rfl,(bkC K4.out 1).trans rfl,(bkC K10.out 0).trans rfl,(bkC K10.out 1).trans rfl,(bkC K10.out 2).trans rfl,(bkC K5.out 0).trans rfl,(bkC K5.out 1).trans rfl,(bkC K5.out 2).trans rfl⟩ (fun hHeld=>?_)
  clear hK K
  refine norm_ (a':=?_) ?_ ?_
  rotate_left
  · show Act.put _ (some 190) _ = _
    simp only [Act.put,lsA,lsZ,lsS,i64_w,i32_w]
    rfl
  refine pure_ (i:=10) (N:=some 191) (v:=?_) (a':=?_) #[true,true,true,true,true,true,true,true,true,true,true,false,false,false,false,false,false,false,false,false] rfl rfl (any_of HT_.out (by kernel_rfl)) (fun _ _ _ h=>h) (Or.inl ⟨by rfl,?_⟩) ?_ ?_
  rotate_left
  · intro w'
    go_simp
    with_reducible rfl
  rotate_left
  · simp only [Act.put,lsA,lsZ,lsS,i64_w,i32_w]
    rfl
  refine pure_ (i:=11) (N:=some 192) (v:=?_) (a':=?_) #[true,true,true,true,true,true,true,true,true,true,true,true,false,false,false,false,false,false,false,false] rfl rfl (any_of HT_.out (by kernel_rfl)) (fun _ _ _ h=>h) (Or.inl ⟨by rfl,?_⟩) ?_ ?_
  rotate_left
  · intro w'
    go_simp
    with_reducible rfl
  rotate_left
  · simp only [Act.put,lsA,lsZ,lsS,i64_w,i32_w]
    rfl
  refine take_ (i:=12) (N:=some 193) (v:=?_) (a':=?_) #[true,true,true,true,true,true,true,true,true,true,true,true,true,false,false,false,false,false,false,false] rfl rfl (take_ofW HT_.out HW_.out (by kernel_rfl)) (fun _ _ _ h=>h) (Or.inl ⟨by rfl,?_⟩) hHeld ?_ ?_
  rotate_left
  · rintro w' ⟨s0,s1,s2,s3,s4,s5,s6,s7,s8,s9⟩
    go_simp
    with_reducible rfl
  rotate_left
  · simp only [Act.put,lsA,lsZ,lsS,i64_w,i32_w]
    rfl
  refine take_ (i:=13) (N:=some 194) (v:=?_) (a':=?_) #[true,true,true,true,true,true,true,true,true,true,true,true,true,true,false,false,false,false,false,false] rfl rfl (take_ofW HT_.out HW_.out (by kernel_rfl)) (fun _ _ _ h=>h) (Or.inl ⟨by rfl,?_⟩) hHeld ?_ ?_
  rotate_left
  · rintro w' ⟨s0,s1,s2,s3,s4,s5,s6,s7,s8,s9⟩
    go_simp
    with_reducible rfl
  rotate_left
  · simp only [Act.put,lsA,lsZ,lsS,i64_w,i32_w]
    rfl
  refine one_ (i:=14) (N:=some 195) #[true,true,true,true,true,true,true,true,true,true,true,true,true,true,true,false,false,false,false,false] rfl rfl (one_of HT_.out (by kernel_rfl)) (by decide) (fun K hK=>?_)
  refine goes_ Try.func19 (by kernel_rfl) rfl #[.agg #[.int .i64 p0,.int .i64 p1,.slice Ay pd.length cy],.agg #[.int .i64 p0,.int .i64 p1,.slice Ap pd.length cp]] (by rfl) rfl rfl (by(try simp only [List.map_toArray,List.map_cons,List.map_nil]);first|done|rfl) ?_
  with_reducible refine(undercroftlaw04_samePacket.calls k p0 p1 Ay cy pd p0 p1 Ap cp pd true _ Cy.out Ly.out Cp.out Lp.out g10.out).mono ?_
  rintro e wh14 ⟨rfl,hb⟩
  refine⟨_,rfl,?_⟩
  replace K9:=mkA (bkB K9.out hb)
  replace K4:=mkA (bkB K4.out hb)
  replace K10:=mkA (bkB K10.out hb)
  replace K5:=mkA (bkB K5.out hb)
  replace Cs:=mkA (Kd.C_below Cs.out hb)
  replace Cp:=mkA (Kd.C_below Cp.out hb)
  replace Cx:=mkA (Kd.C_below Cx.out hb)
  replace Cy:=mkA (Kd.C_below Cy.out hb)
  replace HB:=mkA (HB.out.trans (hb.mono HB.out.size))
  clear hb
  refine hK.out _ _ ⟨(bkC K9.out 0).trans rfl,(bkC K9.out 1).trans rfl,(bkC K4.out 0).trans rfl,(bkC K4.out 1).trans rfl,(bkC K10.out 0).trans rfl,(bkC K10.out 1).trans rfl,(bkC K10.out 2).trans rfl,(bkC K5.out 0).trans rfl,(bkC K5.out 1).trans rfl,(bkC K5.out 2).trans rfl⟩ (fun hHeld=>?_)
  clear hK K
  refine norm_ (a':=?_) ?_ ?_
  rotate_left
  · show Act.put _ (some 195) _ = _
    simp only [Act.put,lsA,lsZ,lsS,i64_w,i32_w]
    rfl
  refine pure_ (i:=15) (N:=some 196) (v:=?_) (a':=?_) #[true,true,true,true,true,true,true,true,true,true,true,true,true,true,true,true,false,false,false,false] rfl rfl (any_of HT_.out (by kernel_rfl)) (fun _ _ _ h=>h) (Or.inl ⟨by rfl,?_⟩) ?_ ?_
  rotate_left
  · intro w'
    go_simp
    with_reducible rfl
  rotate_left
  · simp only [Act.put,lsA,lsZ,lsS,i64_w,i32_w]
    rfl
  refine pure_ (i:=16) (N:=some 197) (v:=?_) (a':=?_) #[true,true,true,true,true,true,true,true,true,true,true,true,true,true,true,true,true,false,false,false] rfl rfl (any_of HT_.out (by kernel_rfl)) (fun _ _ _ h=>h) (Or.inl ⟨by rfl,?_⟩) ?_ ?_
  rotate_left
  · intro w'
    go_simp
    with_reducible rfl
  rotate_left
  · simp only [Act.put,lsA,lsZ,lsS,i64_w,i32_w]
    rfl
  refine one_ (i:=17) (N:=some 198) #[true,true,true,true,true,true,true,true,true,true,true,true,true,true,true,true,true,true,false,false] rfl rfl (one_of HT_.out (by kernel_rfl)) (by decide) (fun K hK=>?_)
  refine goes_ Try.func7 (by kernel_rfl) rfl #[] (by rfl) rfl rfl (by(try simp only [List.map_toArray,List.map_cons,List.map_nil]);first|done|rfl) ?_
  with_reducible refine(undercroftlaw04_alive.calls k true _ g11.out).mono ?_
  rintro e wh17 ⟨rfl,hb⟩
  refine⟨_,rfl,?_⟩
  replace K9:=mkA (bkB K9.out hb)
  replace K4:=mkA (bkB K4.out hb)
  replace K10:=mkA (bkB K10.out hb)
  replace K5:=mkA (bkB K5.out hb)
  replace Cs:=mkA (Kd.C_below Cs.out hb)
  replace Cp:=mkA (Kd.C_below Cp.out hb)
  replace Cx:=mkA (Kd.C_below Cx.out hb)
  replace Cy:=mkA (Kd.C_below Cy.out hb)
  replace HB:=mkA (HB.out.trans (hb.mono HB.out.size))
  clear hb
  refine hK.out _ _ ⟨(bkC K9.out 0).trans rfl,(bkC K9.out 1).trans rfl,(bkC K4.out 0).trans rfl,(bkC K4.out 1).trans rfl,(bkC K10.out 0).trans rfl,(bkC K10.out 1).trans rfl,(bkC K10.out 2).trans rfl,(bkC K5.out 0).trans rfl,(bkC K5.out 1).trans rfl,(bkC K5.out 2).trans rfl⟩ (fun hHeld=>?_)
  clear hK K
  refine norm_ (a':=?_) ?_ ?_
  rotate_left
  · show Act.put _ (some 198) _ = _
    simp only [Act.put,lsA,lsZ,lsS,i64_w,i32_w]
    rfl
  refine pure_ (i:=18) (N:=some 199) (v:=?_) (a':=?_) #[true,true,true,true,true,true,true,true,true,true,true,true,true,true,true,true,true,true,true,false] rfl rfl (any_of HT_.out (by kernel_rfl)) (fun _ _ _ h=>h) (Or.inl ⟨by rfl,?_⟩) ?_ ?_
  rotate_left
  · intro w'
    go_simp
    with_reducible rfl
  rotate_left
  · simp only [Act.put,lsA,lsZ,lsS,i64_w,i32_w]
    rfl
  refine pure_ (i:=19) (N:=some 8) (v:=?_) (a':=?_) #[true,true,true,true,true,true,true,true,true,true,true,true,true,true,true,true,true,true,true,true] rfl rfl (any_of HT_.out (by kernel_rfl)) (fun _ _ _ h=>h) (Or.inl ⟨by rfl,?_⟩) ?_ ?_
  rotate_left
  · intro w'
    go_simp
    with_reducible rfl
  rotate_left
  · simp only [Act.put,lsA,lsZ,lsS,i64_w,i32_w]
    rfl
  refine done_ (done_of HT_.out (by kernel_rfl)) ?_
  go_wp2
  go_ret
  exact⟨rfl,HB.out⟩
end Go.Proofs.Ytgglmibbbjallaa.T
