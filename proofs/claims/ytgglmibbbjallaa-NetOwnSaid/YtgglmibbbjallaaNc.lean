/- The walk of NetOwn behind its copies: calls, Spoil, the comparison. -/
import Derived.Test.YtgglmibbbjallaaTa8
import Derived.Test.YtgglmibbbjallaaTaf17
namespace Go.Proofs.Ytgglmibbbjallaa.T
open Go.RowKit Go.Proofs.YtgglmibbbjallaaW.PrintWords Go.Proofs.YtgglmibbbjallaaW.PrintLast Go.Proofs.YtgglmibbbjallaaW.PrintMore
attribute [local go_sem] max2_int min2_int max_two min_two max_three min_three max_four min_four   -- for this text's walks alone
set_option linter.unusedVariables false
set_option linter.unusedSimpArgs false
def tail3 (f : Func) : Code:=match f.body with|some (.seq _ (.seq _ (.seq _ c)))=>c|_=>.skip
theorem Kd.R_max' {α : Type} {d : Kd α} {e : Nat} {w : World} {base : Nat} {ok : Nat→Prop} {v : Value} {xs : List α} (h : d.R e w base ok v xs) : xs.length ≤ 9223372036854775807:=by
  obtain ⟨A,c,rfl,_,hc⟩:=Kd.R_reads h
  exact hc.2.1
/-- Spoil ends. -/
theorem spoil_l0 : ∀ (d i : Nat) (l : List Int),l.length ≤ 9223372036854775807→l.length ≤ i + d→∃ r,undercroftplain_Spoil.l0 (d + 1) l (i : Int) = some r
  | 0,i,l,hm,h=>⟨l,by simp only [undercroftplain_Spoil.l0];rw [if_neg (by omega)]⟩
  | d + 1,i,l,hm,h=>by
    by_cases hi : i < l.length
    · have hw : wrap64 ((i : Int) + 1) = ((i + 1 : Nat) : Int):=by unfold wrap64;omega
      rw [undercroftplain_Spoil.l0,if_pos (by omega),if_pos (by omega),hw]
      exact spoil_l0 d (i + 1) _ (by rw [List.length_set];exact hm) (by rw [List.length_set];omega)
    · exact⟨l,by simp only [undercroftplain_Spoil.l0];rw [if_neg (by omega)]⟩
theorem spoil_all (l : List Int) (hm : l.length ≤ 9223372036854775807) : ∃ k r,undercroftplain_Spoil.f k l = some r:=⟨l.length + 1,spoil_l0 l.length 0 l hm (by omega)⟩
/-- Behind the first Spoil x's packets are as they were, in blocks that are none of the boxes. -/
theorem NetOwn.hide {w W w4 w5 : World} {Ax Ay : Option Addr} {cx cy b7 : Nat} {lx : List S40} {pd : List Int} {a : Int} (hb : Below W.heap.size W w4)
    (hK : W.heap[b7]? = some (.cells #[.int .i64 a,.slice Ax lx.length cx] 32 (0,0))) (hS : Kd.S k40 40 W w.heap.size (fun k=>some k ≠ (Value.slice Ay pd.length cy).ownBlock) (.slice Ax lx.length cx) lx)
    (hR : (Kd.int .u8).R 5 W w.heap.size (fun _=>True) (.slice Ay pd.length cy) pd) (hk : Kept w4 w5 (fun k=>some k = (Value.slice Ay pd.length cy).ownBlock)) :
    Kd.S k40 40 w5 w.heap.size (fun k=>k < W.heap.size∧k ≠ b7) (.slice Ax lx.length cx) lx:=by
  have h1:=Kd.S_mono (Kd.S_bound (Kd.S_types hS hK (by decide))) (ok':=fun k=>(k < W.heap.size∧k ≠ b7)∧some k ≠ (Value.slice Ay pd.length cy).ownBlock) (fun k hk=>⟨⟨hk.2.2.1,hk.1.2⟩,hk.1.1⟩)
  exact Kd.S_mono (Kd.S_kept (Kd.S_below h1 hb) hk (fun k hk=>hk.2)) (fun k hk=>hk.1)
theorem NetOwn.below0 {w w' : World} (h : Drawn0 w w') : Below w.heap.size w w':=h.below
set_option maxHeartbeats 16000000 in
set_option maxRecDepth 100000 in
theorem NetOwn.rest (k : Nat) (a : Int) (As : Option Addr) (cs : Nat) (l : List S38) (p0 p1 : Int) (Ap : Option Addr) (cp : Nat) (pd : List Int) (a2 : Int) (lx : List S40) (sa : Int) (sl : List S40) (sm : List S38) (sb : Bool) (se : Int) (ta : Int) (tl : List S40) (tm : List S38) (t0 t1 : Int) (td : List Int) (te : Int) (w W : World) (b3 b4 b7 b8 : Nat) (Ax : Option Addr) (cx : Nat) (Ay : Option Addr) (cy : Nat) (K3 : Aside0 (W.heap[b3]? = some (.cells #[.int .i64 a,.slice As l.length cs] 24 (0,0)))) (K4 : Aside0 (W.heap[b4]? = some (.cells #[.int .i64 p0,.int .i64 p1,.slice Ap pd.length cp] 38 (0,0)))) (K7 : Aside0 (W.heap[b7]? = some (.cells #[.int .i64 a,.slice Ax lx.length cx] 32 (0,0)))) (K8 : Aside0 (W.heap[b8]? = some (.cells #[.int .i64 p0,.int .i64 p1,.slice Ay pd.length cy] 40 (0,0)))) (Cs : Aside0 (Kd.C k38 W As l.length l)) (Ls : Aside0 (l.length ≤ cs)) (Cp : Aside0 (Kd.C (Kd.int .u8) W Ap pd.length pd)) (Lp : Aside0 (pd.length ≤ cp)) (SX : Aside0 (Kd.S k40 40 W w.heap.size (fun k=>some k ≠ (Value.slice Ay pd.length cy).ownBlock) (.slice Ax lx.length cx) lx)) (RY : Aside0 ((Kd.int .u8).R 5 W w.heap.size (fun _=>True) (.slice Ay pd.length cy) pd)) (HB : Aside0 (Below w.heap.size w W))
    (h1 : net_Send.f k a lx p0 p1 pd = some (sa,sl,sb,se))
    (h2 : undercroftref04_Send.f k a l p0 p1 pd = some (sa,sm,sb,se))
    (h3 : net_Take.f a lx a2 = some (ta,tl,t0,t1,td,te))
    (h4 : undercroftref04_Take.f k a l a2 = some (ta,tm,t0,t1,td,te))
    (g1 : undercroftlaw04_same.f k sa sl sa sm = some true)
    (g2 : undercroftlaw04_same.f k ta tl ta tm = some true)
    (g3 : undercroftlaw04_samePacket.f k t0 t1 td t0 t1 td = some true) :
    Code.wp Try.prog (tail3 Try.f4) (bodyPost Try.prog Try.f4 fun e w'=>e = .returned (.bool true)∧Below w.heap.size w w') ⟨#[.agg #[.int .i64 a,.slice As l.length cs],.agg #[.int .i64 p0,.int .i64 p1,.slice Ap pd.length cp],.int .i64 a2,.pointer (some ⟨b3,0,none⟩),.pointer (some ⟨b4,0,none⟩),undef,.bool false,.pointer (some ⟨b7,0,none⟩),.pointer (some ⟨b8,0,none⟩),undef,undef,undef,undef,undef,undef,undef,undef,undef,undef,undef,undef,undef,.bool true,.bool false,.agg #[.int .i64 a,.slice As l.length cs],.agg #[.int .i64 a,.slice Ax lx.length cx],.agg #[.int .i64 p0,.int .i64 p1,.slice Ap pd.length cp],.agg #[.int .i64 p0,.int .i64 p1,.slice Ay pd.length cy],undef,undef,undef,undef,undef,undef,undef,undef,undef,undef,undef,undef,undef,undef,undef,undef,undef,undef,undef,undef,undef,undef,undef,undef,undef,undef,undef,undef,undef,undef,undef,undef,undef,undef,undef,undef,undef,undef,undef,undef,undef,undef,undef,undef,undef,undef,undef,undef,undef,undef,undef,undef,undef,undef,undef,undef,undef,undef,undef,undef,undef,undef,undef,undef,undef,undef,undef,undef,undef,undef],[]⟩ W:=by
  have hu24:=Try.underlying24
  have hu32:=Try.underlying32
  have hu38:=Try.underlying38
  have hu40:=Try.underlying40
  generalize hQ : bodyPost Try.prog Try.f4 _ = Q
  simp only [tail3,Try.f4,List.append_eq,List.cons_append,List.nil_append]
  subst hQ
  have z7_0_0:=(bkC K7.out 0).trans rfl
  have z7_0_1:=(bkC K7.out 1).trans rfl
  have z8_0_0:=(bkC K8.out 0).trans rfl
  have z8_0_1:=(bkC K8.out 1).trans rfl
  have z8_0_2:=(bkC K8.out 2).trans rfl
  replace h1:=mkA h1
  replace h2:=mkA h2
  replace h3:=mkA h3
  replace h4:=mkA h4
  replace g1:=mkA g1
  replace g2:=mkA g2
  replace g3:=mkA g3
  have Cx:=mkA (Kd.S_reads' SX.out).2.2
  have Lx:=mkA (Kd.S_reads' SX.out).2.1
  have Cy:=mkA (Kd.R_reads' RY.out).2.2
  have Ly:=mkA (Kd.R_reads' RY.out).2.1
  have HW:=mkA (Below.refl W.heap.size W)
  have K70:=K7
  have K80:=K8
  obtain ⟨spk,spr,hsp⟩:=spoil_all pd (Kd.R_max' RY.out)
  have HSP:=mkA hsp
  clear hsp
  go_wp2_with (first|(go_at_call 13;refine(net_Send.calls k a Ax cx lx p0 p1 Ay cy pd sa sl sb se _ Cx.out Lx.out Cy.out Ly.out h1.out).mono ?_;rintro e w1_ ⟨v,rfl,ho,hb⟩;obtain ⟨Aa,ca,rfl⟩:=Kd.S_slice ho;replace K3:=mkA (bkA (bkB K3.out hb) (.cells #[.int .i64 sa,.slice Aa sl.length ca] 32));replace K4:=mkA (bkA (bkB K4.out hb) (.cells #[.int .i64 sa,.slice Aa sl.length ca] 32));replace K7:=mkA (bkA (bkB K7.out hb) (.cells #[.int .i64 sa,.slice Aa sl.length ca] 32));replace K8:=mkA (bkA (bkB K8.out hb) (.cells #[.int .i64 sa,.slice Aa sl.length ca] 32));replace Cs:=mkA (Kd.C_alloc (Kd.C_below Cs.out hb) (.cells #[.int .i64 sa,.slice Aa sl.length ca] 32));replace Cp:=mkA (Kd.C_alloc (Kd.C_below Cp.out hb) (.cells #[.int .i64 sa,.slice Aa sl.length ca] 32));replace Cx:=mkA (Kd.C_alloc (Kd.C_below Cx.out hb) (.cells #[.int .i64 sa,.slice Aa sl.length ca] 32));replace Cy:=mkA (Kd.C_alloc (Kd.C_below Cy.out hb) (.cells #[.int .i64 sa,.slice Aa sl.length ca] 32));have Oa:=mkA (Kd.S_lower (Kd.S_alloc (Kd.S_mono ho (fun _ _=>trivial : ∀ k,_→True)) (.cells #[.int .i64 sa,.slice Aa sl.length ca] 32)) HW.out.size);have La:=mkA (Kd.S_reads' ho).2.1;clear ho;have K9:=mkA (heap_alloc_new w1_ (.cells #[.int .i64 sa,.slice Aa sl.length ca] 32));have G9 : Aside0 (W.heap.size ≤ w1_.heap.size):=mkA (by have:=HW.out.size;have:=hb.size;omega);replace HB:=mkA (bwA (HB.out.trans (hb.mono HB.out.size)) (.cells #[.int .i64 sa,.slice Aa sl.length ca] 32));replace HW:=mkA (bwA (HW.out.trans (hb.mono HW.out.size)) (.cells #[.int .i64 sa,.slice Aa sl.length ca] 32));clear hb;have z3_1_0:=(bkC K3.out 0).trans rfl;have z3_1_1:=(bkC K3.out 1).trans rfl;have z4_1_0:=(bkC K4.out 0).trans rfl;have z4_1_1:=(bkC K4.out 1).trans rfl;have z4_1_2:=(bkC K4.out 2).trans rfl)|(go_at_call 14;refine(undercroftref04_Send.calls k a As cs l p0 p1 Ap cp pd sa sm sb se _ Cs.out Ls.out Cp.out Lp.out h2.out).mono ?_;rintro e w2_ ⟨v,rfl,ho,hb⟩;obtain ⟨Ab,cb,rfl⟩:=Kd.S_slice ho;replace K3:=mkA (bkA (bkB K3.out hb) (.cells #[.int .i64 sa,.slice Ab sm.length cb] 24));replace K4:=mkA (bkA (bkB K4.out hb) (.cells #[.int .i64 sa,.slice Ab sm.length cb] 24));replace K7:=mkA (bkA (bkB K7.out hb) (.cells #[.int .i64 sa,.slice Ab sm.length cb] 24));replace K8:=mkA (bkA (bkB K8.out hb) (.cells #[.int .i64 sa,.slice Ab sm.length cb] 24));replace K9:=mkA (bkA (bkB K9.out hb) (.cells #[.int .i64 sa,.slice Ab sm.length cb] 24));replace Cs:=mkA (Kd.C_alloc (Kd.C_below Cs.out hb) (.cells #[.int .i64 sa,.slice Ab sm.length cb] 24));replace Cp:=mkA (Kd.C_alloc (Kd.C_below Cp.out hb) (.cells #[.int .i64 sa,.slice Ab sm.length cb] 24));replace Cx:=mkA (Kd.C_alloc (Kd.C_below Cx.out hb) (.cells #[.int .i64 sa,.slice Ab sm.length cb] 24));replace Cy:=mkA (Kd.C_alloc (Kd.C_below Cy.out hb) (.cells #[.int .i64 sa,.slice Ab sm.length cb] 24));replace Oa:=mkA (Kd.S_alloc (Kd.S_below Oa.out hb) (.cells #[.int .i64 sa,.slice Ab sm.length cb] 24));have Ob:=mkA (Kd.S_lower (Kd.S_alloc (Kd.S_mono ho (fun _ _=>trivial : ∀ k,_→True)) (.cells #[.int .i64 sa,.slice Ab sm.length cb] 24)) HW.out.size);have Lb:=mkA (Kd.S_reads' ho).2.1;clear ho;have K12:=mkA (heap_alloc_new w2_ (.cells #[.int .i64 sa,.slice Ab sm.length cb] 24));have G12 : Aside0 (W.heap.size ≤ w2_.heap.size):=mkA (by have:=HW.out.size;have:=hb.size;omega);replace HB:=mkA (bwA (HB.out.trans (hb.mono HB.out.size)) (.cells #[.int .i64 sa,.slice Ab sm.length cb] 24));replace HW:=mkA (bwA (HW.out.trans (hb.mono HW.out.size)) (.cells #[.int .i64 sa,.slice Ab sm.length cb] 24));clear hb;have z7_2_0:=(bkC K7.out 0).trans rfl;have z7_2_1:=(bkC K7.out 1).trans rfl)|(go_at_call 15;refine(net_Take.calls a Ax cx lx a2 ta tl t0 t1 td te _ Cx.out Lx.out h3.out).mono ?_;rintro e w3_ ⟨v,v4,rfl,ho,ho2,hb⟩;obtain ⟨Ac,cc,rfl⟩:=Kd.S_slice ho;obtain ⟨Aq,cq,rfl⟩:=Kd.R_slice ho2;replace K3:=mkA (bkA (bkA (bkB K3.out hb) (.cells #[.int .i64 ta,.slice Ac tl.length cc] 32)) (.cells #[.int .i64 t0,.int .i64 t1,.slice Aq td.length cq] 40));replace K4:=mkA (bkA (bkA (bkB K4.out hb) (.cells #[.int .i64 ta,.slice Ac tl.length cc] 32)) (.cells #[.int .i64 t0,.int .i64 t1,.slice Aq td.length cq] 40));replace K7:=mkA (bkA (bkA (bkB K7.out hb) (.cells #[.int .i64 ta,.slice Ac tl.length cc] 32)) (.cells #[.int .i64 t0,.int .i64 t1,.slice Aq td.length cq] 40));replace K8:=mkA (bkA (bkA (bkB K8.out hb) (.cells #[.int .i64 ta,.slice Ac tl.length cc] 32)) (.cells #[.int .i64 t0,.int .i64 t1,.slice Aq td.length cq] 40));replace K9:=mkA (bkA (bkA (bkB K9.out hb) (.cells #[.int .i64 ta,.slice Ac tl.length cc] 32)) (.cells #[.int .i64 t0,.int .i64 t1,.slice Aq td.length cq] 40));replace K12:=mkA (bkA (bkA (bkB K12.out hb) (.cells #[.int .i64 ta,.slice Ac tl.length cc] 32)) (.cells #[.int .i64 t0,.int .i64 t1,.slice Aq td.length cq] 40));replace Cs:=mkA (Kd.C_alloc (Kd.C_alloc (Kd.C_below Cs.out hb) (.cells #[.int .i64 ta,.slice Ac tl.length cc] 32)) (.cells #[.int .i64 t0,.int .i64 t1,.slice Aq td.length cq] 40));replace Cp:=mkA (Kd.C_alloc (Kd.C_alloc (Kd.C_below Cp.out hb) (.cells #[.int .i64 ta,.slice Ac tl.length cc] 32)) (.cells #[.int .i64 t0,.int .i64 t1,.slice Aq td.length cq] 40));replace Cx:=mkA (Kd.C_alloc (Kd.C_alloc (Kd.C_below Cx.out hb) (.cells #[.int .i64 ta,.slice Ac tl.length cc] 32)) (.cells #[.int .i64 t0,.int .i64 t1,.slice Aq td.length cq] 40));replace Cy:=mkA (Kd.C_alloc (Kd.C_alloc (Kd.C_below Cy.out hb) (.cells #[.int .i64 ta,.slice Ac tl.length cc] 32)) (.cells #[.int .i64 t0,.int .i64 t1,.slice Aq td.length cq] 40));replace Oa:=mkA (Kd.S_alloc (Kd.S_alloc (Kd.S_below Oa.out hb) (.cells #[.int .i64 ta,.slice Ac tl.length cc] 32)) (.cells #[.int .i64 t0,.int .i64 t1,.slice Aq td.length cq] 40));replace Ob:=mkA (Kd.S_alloc (Kd.S_alloc (Kd.S_below Ob.out hb) (.cells #[.int .i64 ta,.slice Ac tl.length cc] 32)) (.cells #[.int .i64 t0,.int .i64 t1,.slice Aq td.length cq] 40));have Oc:=mkA (Kd.S_lower (Kd.S_alloc (Kd.S_alloc (Kd.S_mono ho (fun _ _=>trivial : ∀ k,_→True)) (.cells #[.int .i64 ta,.slice Ac tl.length cc] 32)) (.cells #[.int .i64 t0,.int .i64 t1,.slice Aq td.length cq] 40)) HW.out.size);have Lc:=mkA (Kd.S_reads' ho).2.1;clear ho;have Oq:=mkA (Kd.R_lower (Kd.R_alloc (Kd.R_alloc (Kd.R_mono ho2 (fun _ _=>trivial : ∀ k,_→True)) (.cells #[.int .i64 ta,.slice Ac tl.length cc] 32)) (.cells #[.int .i64 t0,.int .i64 t1,.slice Aq td.length cq] 40)) HW.out.size);have Lq:=mkA (Kd.R_reads' ho2).2.1;clear ho2;have K15:=mkA (bkA (heap_alloc_new w3_ (.cells #[.int .i64 ta,.slice Ac tl.length cc] 32)) (.cells #[.int .i64 t0,.int .i64 t1,.slice Aq td.length cq] 40));have G15 : Aside0 (W.heap.size ≤ w3_.heap.size):=mkA (by have:=HW.out.size;have:=hb.size;omega);have K16:=mkA (heap_alloc_new (w3_.alloc (.cells #[.int .i64 ta,.slice Ac tl.length cc] 32)) (.cells #[.int .i64 t0,.int .i64 t1,.slice Aq td.length cq] 40));simp only [World.size_alloc] at K16;have G16 : Aside0 (W.heap.size ≤ w3_.heap.size + 1):=mkA (by have:=HW.out.size;have:=hb.size;omega);replace HB:=mkA (bwA (bwA (HB.out.trans (hb.mono HB.out.size)) (.cells #[.int .i64 ta,.slice Ac tl.length cc] 32)) (.cells #[.int .i64 t0,.int .i64 t1,.slice Aq td.length cq] 40));replace HW:=mkA (bwA (bwA (HW.out.trans (hb.mono HW.out.size)) (.cells #[.int .i64 ta,.slice Ac tl.length cc] 32)) (.cells #[.int .i64 t0,.int .i64 t1,.slice Aq td.length cq] 40));clear hb;have z3_3_0:=(bkC K3.out 0).trans rfl;have z3_3_1:=(bkC K3.out 1).trans rfl)|(go_at_call 16;refine(undercroftref04_Take.calls k a As cs l a2 ta tm t0 t1 td te _ Cs.out Ls.out h4.out).mono ?_;rintro e w4_ ⟨v,v4,rfl,ho,ho2,hb⟩;obtain ⟨Ad,cd,rfl⟩:=Kd.S_slice ho;obtain ⟨Ar,cr,rfl⟩:=Kd.R_slice ho2;replace K3:=mkA (bkA (bkA (bkB K3.out hb) (.cells #[.int .i64 ta,.slice Ad tm.length cd] 24)) (.cells #[.int .i64 t0,.int .i64 t1,.slice Ar td.length cr] 38));replace K4:=mkA (bkA (bkA (bkB K4.out hb) (.cells #[.int .i64 ta,.slice Ad tm.length cd] 24)) (.cells #[.int .i64 t0,.int .i64 t1,.slice Ar td.length cr] 38));replace K7:=mkA (bkA (bkA (bkB K7.out hb) (.cells #[.int .i64 ta,.slice Ad tm.length cd] 24)) (.cells #[.int .i64 t0,.int .i64 t1,.slice Ar td.length cr] 38));replace K8:=mkA (bkA (bkA (bkB K8.out hb) (.cells #[.int .i64 ta,.slice Ad tm.length cd] 24)) (.cells #[.int .i64 t0,.int .i64 t1,.slice Ar td.length cr] 38));replace K9:=mkA (bkA (bkA (bkB K9.out hb) (.cells #[.int .i64 ta,.slice Ad tm.length cd] 24)) (.cells #[.int .i64 t0,.int .i64 t1,.slice Ar td.length cr] 38));replace K12:=mkA (bkA (bkA (bkB K12.out hb) (.cells #[.int .i64 ta,.slice Ad tm.length cd] 24)) (.cells #[.int .i64 t0,.int .i64 t1,.slice Ar td.length cr] 38));replace K15:=mkA (bkA (bkA (bkB K15.out hb) (.cells #[.int .i64 ta,.slice Ad tm.length cd] 24)) (.cells #[.int .i64 t0,.int .i64 t1,.slice Ar td.length cr] 38));replace K16:=mkA (bkA (bkA (bkB K16.out hb) (.cells #[.int .i64 ta,.slice Ad tm.length cd] 24)) (.cells #[.int .i64 t0,.int .i64 t1,.slice Ar td.length cr] 38));replace Cs:=mkA (Kd.C_alloc (Kd.C_alloc (Kd.C_below Cs.out hb) (.cells #[.int .i64 ta,.slice Ad tm.length cd] 24)) (.cells #[.int .i64 t0,.int .i64 t1,.slice Ar td.length cr] 38));replace Cp:=mkA (Kd.C_alloc (Kd.C_alloc (Kd.C_below Cp.out hb) (.cells #[.int .i64 ta,.slice Ad tm.length cd] 24)) (.cells #[.int .i64 t0,.int .i64 t1,.slice Ar td.length cr] 38));replace Cx:=mkA (Kd.C_alloc (Kd.C_alloc (Kd.C_below Cx.out hb) (.cells #[.int .i64 ta,.slice Ad tm.length cd] 24)) (.cells #[.int .i64 t0,.int .i64 t1,.slice Ar td.length cr] 38));replace Cy:=mkA (Kd.C_alloc (Kd.C_alloc (Kd.C_below Cy.out hb) (.cells #[.int .i64 ta,.slice Ad tm.length cd] 24)) (.cells #[.int .i64 t0,.int .i64 t1,.slice Ar td.length cr] 38));replace Oa:=mkA (Kd.S_alloc (Kd.S_alloc (Kd.S_below Oa.out hb) (.cells #[.int .i64 ta,.slice Ad tm.length cd] 24)) (.cells #[.int .i64 t0,.int .i64 t1,.slice Ar td.length cr] 38));replace Ob:=mkA (Kd.S_alloc (Kd.S_alloc (Kd.S_below Ob.out hb) (.cells #[.int .i64 ta,.slice Ad tm.length cd] 24)) (.cells #[.int .i64 t0,.int .i64 t1,.slice Ar td.length cr] 38));replace Oc:=mkA (Kd.S_alloc (Kd.S_alloc (Kd.S_below Oc.out hb) (.cells #[.int .i64 ta,.slice Ad tm.length cd] 24)) (.cells #[.int .i64 t0,.int .i64 t1,.slice Ar td.length cr] 38));replace Oq:=mkA (Kd.R_alloc (Kd.R_alloc (Kd.R_below Oq.out hb) (.cells #[.int .i64 ta,.slice Ad tm.length cd] 24)) (.cells #[.int .i64 t0,.int .i64 t1,.slice Ar td.length cr] 38));have Od:=mkA (Kd.S_lower (Kd.S_alloc (Kd.S_alloc (Kd.S_mono ho (fun _ _=>trivial : ∀ k,_→True)) (.cells #[.int .i64 ta,.slice Ad tm.length cd] 24)) (.cells #[.int .i64 t0,.int .i64 t1,.slice Ar td.length cr] 38)) HW.out.size);have Ld:=mkA (Kd.S_reads' ho).2.1;clear ho;have Or:=mkA (Kd.R_lower (Kd.R_alloc (Kd.R_alloc (Kd.R_mono ho2 (fun _ _=>trivial : ∀ k,_→True)) (.cells #[.int .i64 ta,.slice Ad tm.length cd] 24)) (.cells #[.int .i64 t0,.int .i64 t1,.slice Ar td.length cr] 38)) HW.out.size);have Lr:=mkA (Kd.R_reads' ho2).2.1;clear ho2;have K18:=mkA (bkA (heap_alloc_new w4_ (.cells #[.int .i64 ta,.slice Ad tm.length cd] 24)) (.cells #[.int .i64 t0,.int .i64 t1,.slice Ar td.length cr] 38));have G18 : Aside0 (W.heap.size ≤ w4_.heap.size):=mkA (by have:=HW.out.size;have:=hb.size;omega);have K19:=mkA (heap_alloc_new (w4_.alloc (.cells #[.int .i64 ta,.slice Ad tm.length cd] 24)) (.cells #[.int .i64 t0,.int .i64 t1,.slice Ar td.length cr] 38));simp only [World.size_alloc] at K19;have G19 : Aside0 (W.heap.size ≤ w4_.heap.size + 1):=mkA (by have:=HW.out.size;have:=hb.size;omega);replace HB:=mkA (bwA (bwA (HB.out.trans (hb.mono HB.out.size)) (.cells #[.int .i64 ta,.slice Ad tm.length cd] 24)) (.cells #[.int .i64 t0,.int .i64 t1,.slice Ar td.length cr] 38));replace HW:=mkA (bwA (bwA (HW.out.trans (hb.mono HW.out.size)) (.cells #[.int .i64 ta,.slice Ad tm.length cd] 24)) (.cells #[.int .i64 t0,.int .i64 t1,.slice Ar td.length cr] 38));clear hb;have z8_4_0:=(bkC K8.out 0).trans rfl;have z8_4_1:=(bkC K8.out 1).trans rfl;have z8_4_2:=(bkC K8.out 2).trans rfl)|(go_at_call 17;refine(undercroftplain_Spoil.calls spk (fun k=>some k = (Value.slice Ay pd.length cy).ownBlock) (.slice Ay pd.length cy) pd spr w _ HB.out (Kd.R_below (Kd.R_tight rfl RY.out) HW.out) HSP.out).mono ?_;rintro e w5_ ⟨rfl,_,hb5,hk5⟩;have NI:=NetOwn.hide HW.out K70.out SX.out RY.out hk5;replace K7:=mkA (blk_kept K7.out hk5 (Kd.R_ne RY.out K70.out (by decide)));have SX5:=mkA NI;have HK5:=mkA hk5;have HB5:=mkA hb5;clear NI hk5 hb5))
  have hbig : lx.length ≤ 9223372036854775807:=by have:=(Kd.S_reads' SX.out).2.2.2.1;simpa using this
  have hP5 : ∀ k,some k = (Value.slice Ay pd.length cy).ownBlock→k < W.heap.size∧k ≠ b7:=fun k hk=>⟨Kd.R_lt RY.out k hk.symm,fun e=>Kd.R_ne RY.out K70.out (by decide) (by rw [← e];exact hk)⟩
  replace HK5:=mkA (HK5.out.mono hP5)
  clear hP5
  have HBG:=mkA hbig
  clear hbig
  clear SX RY Cx Cy Lx Ly HSP K3 K4 K8 K70 K80 h1 h2 h3 h4 Cs Ls Cp Lp
  generalize hW4 : ((w4_.alloc _).alloc _ : World) = W4 at *
  clear hW4
  go_loopg [21] (lx.length + 1) (fun gg s21 wr=>∃ i : Int,s21 = .int .i64 i∧Aside0 (0 ≤ i∧i ≤ lx.length∧lx.length - i < gg∧Below w.heap.size w wr∧Kept W4 wr (fun k=>k < W.heap.size∧k ≠ b7)∧wr.heap[b7]? = some (.cells #[.int .i64 a,.slice Ax lx.length cx] 32 (0,0))∧∃ xs' : List S40,xs'.length = lx.length∧Kd.S k40 40 wr w.heap.size (fun k=>k < W.heap.size∧k ≠ b7) (.slice Ax lx.length cx) xs'))
  case atStart=>exact⟨0,rfl,⟨by omega,by omega,by omega,HB5.out,HK5.out,K7.out,lx,rfl,SX5.out⟩⟩
  case round =>
    obtain ⟨i,rfl,Z⟩:=hrel
    clear HK5 HB5 K7 SX5
    by_cases hlt : i < lx.length
    · have c1 : decide (i < (lx.length : Int)) = true:=decide_eq_true hlt
      obtain ⟨h0,hle,hgk,hBW,hKW,k7,xs,hxl,hS⟩:=Z.out
      obtain ⟨g,cap,hv,hgb,hgl,_⟩:=Kd.S_form hS (by omega)
      simp only [Value.slice.injEq] at hv
      obtain ⟨rfl,hv9,rfl⟩:=hv
      clear hv9
      obtain ⟨oki,c,hcl,hM,hcc,hoki,hH⟩:=Kd.S_lend hS z40 i h0 (by omega)
      obtain ⟨v2,rfl,hR2⟩:=k40_openM hM
      obtain ⟨A2,c2,hv2⟩:=Kd.R_slice hR2
      obtain ⟨sk,sr,hsr⟩:=spoil_all _ (Kd.R_max' hR2)
      subst hv2
      have hx2 : wr.cell? ⟨g,i.toNat * 3 + 2,none⟩ = some (.slice A2 (xs.getD i.toNat z40).f2.length c2):=hcc 2 _ rfl
      have y1:=(bkC k7 1).trans rfl
      have p1:=eq_true h0
      have p2:=eq_true hlt
      have X:=mkA (And.intro hR2 (And.intro hsr (And.intro hH (And.intro hoki (And.intro hBW (And.intro hKW (And.intro k7 (And.intro hxl (And.intro hgk hle)))))))))
      clear hlt hS hM hcc hcl hR2 hsr hH hoki hBW hKW k7 hxl hgk hle h0 hgb hgl Z
      go_wp2_with (first|(go_at_call 17;refine(undercroftplain_Spoil.calls sk oki _ _ sr w _ X.out.2.2.2.2.1 X.out.1 X.out.2.1).mono ?_;rintro e w6_ ⟨rfl,hR6,hB6,hK6⟩;have X6:=mkA (And.intro hR6 (And.intro hB6 hK6));clear hR6 hB6 hK6))
      have h0:=of_eq_true p1
      have hlt:=of_eq_true p2
      obtain ⟨hR2,hsr,hH,hoki,hBW,hKW,k7,hxl,hgk,hle⟩:=X.out
      obtain ⟨hR6,hB6,hK6⟩:=X6.out
      have hbb:=HBG.out
      have hw : wrap64 (i + 1) = i + 1:=by unfold wrap64;omega
      obtain ⟨gg,rfl⟩ : ∃ m,gk = m + 1:=⟨gk - 1,by omega⟩
      rw [hw]
      go_roundg gg
      case measure=>omega
      case rel =>
        refine⟨i + 1,rfl,⟨by omega,by omega,by omega,hB6,hKW.then_ hK6 (fun k hk=>.inl (hoki k hk).1),blk_kept k7 hK6 (fun hk=>(hoki _ hk).1.2 rfl),xs.set i.toNat ⟨(xs.getD i.toNat z40).f0,(xs.getD i.toNat z40).f1,sr⟩,by rw [List.length_set];exact hxl,?_⟩⟩
        refine Kd.H_back (Kd.H_kept hH hK6 (fun k _ hn=>hn)) (k40_mkM _ _ _ ⟨(xs.getD i.toNat z40).f0,(xs.getD i.toNat z40).f1,sr⟩ (Kd.R_tight rfl hR6)) (fun k hk=>?_)
        exact hR2.1 k hk.symm
    · have c1 : decide (i < (lx.length : Int)) = false:=decide_eq_false hlt
      obtain ⟨h0,hle,hgk,hBW,hKW,k7,hxs⟩:=Z.out
      have y1:=(bkC k7 1).trans rfl
      have hge : ∀ b,W.heap.size ≤ b→¬ (b < W.heap.size∧b ≠ b7):=fun b hb h=>by omega
      replace K9:=mkA (blk_kept K9.out hKW (hge _ G9.out))
      replace K12:=mkA (blk_kept K12.out hKW (hge _ G12.out))
      replace K15:=mkA (blk_kept K15.out hKW (hge _ G15.out))
      replace K16:=mkA (blk_kept K16.out hKW (hge _ G16.out))
      replace K18:=mkA (blk_kept K18.out hKW (hge _ G18.out))
      replace K19:=mkA (blk_kept K19.out hKW (hge _ G19.out))
      have Ca:=mkA (Kd.S_reads' (Kd.S_kept (Kd.S_bound Oa.out) hKW (fun k hk=>hge k hk.2.1))).2.2
      have Cb:=mkA (Kd.S_reads' (Kd.S_kept (Kd.S_bound Ob.out) hKW (fun k hk=>hge k hk.2.1))).2.2
      have Cc:=mkA (Kd.S_reads' (Kd.S_kept (Kd.S_bound Oc.out) hKW (fun k hk=>hge k hk.2.1))).2.2
      have Cd:=mkA (Kd.S_reads' (Kd.S_kept (Kd.S_bound Od.out) hKW (fun k hk=>hge k hk.2.1))).2.2
      have Cq:=mkA (Kd.R_reads' (Kd.R_kept (Kd.R_bound Oq.out) hKW (fun k hk=>hge k hk.2.1))).2.2
      have Cr:=mkA (Kd.R_reads' (Kd.R_kept (Kd.R_bound Or.out) hKW (fun k hk=>hge k hk.2.1))).2.2
      have HBZ:=mkA hBW
      clear Oa Ob Oc Od Oq Or hge hBW hKW hxs Z hgk hle h0 hlt k7
      go_wp2_with (first|(go_at_call_of 10 (Value.int .i64 se);refine(undercroftlaw04_num.calls se se _ rfl).mono ?_;rintro e w11_ ⟨rfl,hd⟩;have hb:=NetOwn.below0 hd;replace K9:=mkA (bkB K9.out hb);replace K12:=mkA (bkB K12.out hb);replace K15:=mkA (bkB K15.out hb);replace K16:=mkA (bkB K16.out hb);replace K18:=mkA (bkB K18.out hb);replace K19:=mkA (bkB K19.out hb);replace Ca:=mkA (Kd.C_below Ca.out hb);replace Cb:=mkA (Kd.C_below Cb.out hb);replace Cc:=mkA (Kd.C_below Cc.out hb);replace Cd:=mkA (Kd.C_below Cd.out hb);replace Cq:=mkA (Kd.C_below Cq.out hb);replace Cr:=mkA (Kd.C_below Cr.out hb);replace HBZ:=mkA (HBZ.out.trans (hb.mono HBZ.out.size));clear hb hd)|(go_at_call_of 10 (Value.int .i64 te);refine(undercroftlaw04_num.calls te te _ rfl).mono ?_;rintro e w12_ ⟨rfl,hd⟩;have hb:=NetOwn.below0 hd;replace K9:=mkA (bkB K9.out hb);replace K12:=mkA (bkB K12.out hb);replace K15:=mkA (bkB K15.out hb);replace K16:=mkA (bkB K16.out hb);replace K18:=mkA (bkB K18.out hb);replace K19:=mkA (bkB K19.out hb);replace Ca:=mkA (Kd.C_below Ca.out hb);replace Cb:=mkA (Kd.C_below Cb.out hb);replace Cc:=mkA (Kd.C_below Cc.out hb);replace Cd:=mkA (Kd.C_below Cd.out hb);replace Cq:=mkA (Kd.C_below Cq.out hb);replace Cr:=mkA (Kd.C_below Cr.out hb);replace HBZ:=mkA (HBZ.out.trans (hb.mono HBZ.out.size));clear hb hd;have z9_12_0:=(bkC K9.out 0).trans rfl;have z9_12_1:=(bkC K9.out 1).trans rfl;have z12_12_0:=(bkC K12.out 0).trans rfl;have z12_12_1:=(bkC K12.out 1).trans rfl)|(go_at_call_of 18 (Value.agg #[.int .i64 sa,.slice Aa sl.length ca]);refine(undercroftlaw04_same.calls k sa Aa ca sl sa Ab cb sm true _ Ca.out La.out Cb.out Lb.out g1.out).mono ?_;rintro e w13_ ⟨rfl,hb⟩;replace K9:=mkA (bkB K9.out hb);replace K12:=mkA (bkB K12.out hb);replace K15:=mkA (bkB K15.out hb);replace K16:=mkA (bkB K16.out hb);replace K18:=mkA (bkB K18.out hb);replace K19:=mkA (bkB K19.out hb);replace Ca:=mkA (Kd.C_below Ca.out hb);replace Cb:=mkA (Kd.C_below Cb.out hb);replace Cc:=mkA (Kd.C_below Cc.out hb);replace Cd:=mkA (Kd.C_below Cd.out hb);replace Cq:=mkA (Kd.C_below Cq.out hb);replace Cr:=mkA (Kd.C_below Cr.out hb);replace HBZ:=mkA (HBZ.out.trans (hb.mono HBZ.out.size));clear hb;have z15_13_0:=(bkC K15.out 0).trans rfl;have z15_13_1:=(bkC K15.out 1).trans rfl;have z18_13_0:=(bkC K18.out 0).trans rfl;have z18_13_1:=(bkC K18.out 1).trans rfl)|(go_at_call_of 18 (Value.agg #[.int .i64 ta,.slice Ac tl.length cc]);refine(undercroftlaw04_same.calls k ta Ac cc tl ta Ad cd tm true _ Cc.out Lc.out Cd.out Ld.out g2.out).mono ?_;rintro e w14_ ⟨rfl,hb⟩;replace K9:=mkA (bkB K9.out hb);replace K12:=mkA (bkB K12.out hb);replace K15:=mkA (bkB K15.out hb);replace K16:=mkA (bkB K16.out hb);replace K18:=mkA (bkB K18.out hb);replace K19:=mkA (bkB K19.out hb);replace Ca:=mkA (Kd.C_below Ca.out hb);replace Cb:=mkA (Kd.C_below Cb.out hb);replace Cc:=mkA (Kd.C_below Cc.out hb);replace Cd:=mkA (Kd.C_below Cd.out hb);replace Cq:=mkA (Kd.C_below Cq.out hb);replace Cr:=mkA (Kd.C_below Cr.out hb);replace HBZ:=mkA (HBZ.out.trans (hb.mono HBZ.out.size));clear hb;have z16_14_0:=(bkC K16.out 0).trans rfl;have z16_14_1:=(bkC K16.out 1).trans rfl;have z16_14_2:=(bkC K16.out 2).trans rfl;have z19_14_0:=(bkC K19.out 0).trans rfl;have z19_14_1:=(bkC K19.out 1).trans rfl;have z19_14_2:=(bkC K19.out 2).trans rfl)|(go_at_call 19;refine(undercroftlaw04_samePacket.calls k t0 t1 Aq cq td t0 t1 Ar cr td true _ Cq.out Lq.out Cr.out Lr.out g3.out).mono ?_;rintro e w15_ ⟨rfl,hb⟩;replace K9:=mkA (bkB K9.out hb);replace K12:=mkA (bkB K12.out hb);replace K15:=mkA (bkB K15.out hb);replace K16:=mkA (bkB K16.out hb);replace K18:=mkA (bkB K18.out hb);replace K19:=mkA (bkB K19.out hb);replace Ca:=mkA (Kd.C_below Ca.out hb);replace Cb:=mkA (Kd.C_below Cb.out hb);replace Cc:=mkA (Kd.C_below Cc.out hb);replace Cd:=mkA (Kd.C_below Cd.out hb);replace Cq:=mkA (Kd.C_below Cq.out hb);replace Cr:=mkA (Kd.C_below Cr.out hb);replace HBZ:=mkA (HBZ.out.trans (hb.mono HBZ.out.size));clear hb))
      go_ret
      exact⟨rfl,HBZ.out⟩
end Go.Proofs.Ytgglmibbbjallaa.T
