/- onVote. onPrepare. onBring. tick. A drawn region with guards, whose last operation may panic. -/
import Derived.Test.YtojjnifbnppliaaQ08
section
namespace Go.Proofs.Ytojjnifbnppliaa.T
open Go.RowKit Go.Proofs.YtojjnifbnppliaaW.PrintWords Go.Proofs.YtojjnifbnppliaaW.PrintLast Go.Proofs.YtojjnifbnppliaaW.PrintMore
attribute [local go_sem] max2_int min2_int max_two min_two max_three min_three max_four min_four
set_option linter.unusedVariables false
set_option linter.unusedSimpArgs false
def voteBad (x : Ms) : Bool:=decide ((x.log.length : Int) < x.commit) || decide (x.last < 0) || decide (x.view < x.last)
def voteTail (s : St) (ms : List Ms) (x : Ms) : Except Int (St × List Ms):=if s.status = 1 then(if x.last = x.view then .error 4 else preR ms (startR (putS s x))) else .ok (s,ms)
def onVoteR (s : St) (x : Ms) : Except Int (St × List Ms):=if x.view.tmod s.n = s.id then(if voteBad x = true then .error 4 else if s.view < x.view then(match enterR s x.view [] with|.error c=>.error c|.ok y=>voteTail y.1 y.2 x) else voteTail s [] x) else .error 9
set_option maxHeartbeats 8000000 in
set_option maxRecDepth 100000 in
theorem onVote.mac (b gd : Nat) (P : Nat→Prop) (s : St) (x : Ms) (AX : Option Addr) (cX : Nat) (w : World) (hM : Mac w b gd P s []) (hP : ∀ k,w.heap.size ≤ k→P k) (hg : ¬ P gd∧gd ≠ b) (hPb : ¬ P b) (hc : Chk s) (hx : MsgOk s.id s.n x) (hv : s.view ≤ x.view) (hX : ∀ W,Keeps w W (fun k=>k = b∨P k)→Kd.C (Kd.slice 5 (Kd.int .u8)) W AX x.log.length x.log) (hcX : x.log.length ≤ cX) :
    Calls Try.prog 50 #[.pointer (some ⟨b,0,none⟩),.agg #[.int .i64 x.kind,.int .i64 x.fro,.int .i64 x.dst,.int .i64 x.view,.int .i64 x.last,.int .i64 x.prev,.slice AX x.log.length cX,.int .i64 x.commit,.int .i64 x.mat]] w fun e w'=>Keeps w w' (fun k=>k = b∨P k)∧EndsR (onVoteR s x) e (fun s' ms=>Mac w' b gd P s' ms):=by
  have H0:=Aside0.mk (HB.init hM hP hg hPb hX hcX)
  have HQ:=Aside0.mk (And.intro hc (And.intro hx hv))
  have hu29:=Try.underlying29
  have hu25:=Try.underlying25
  have hu26:=Try.underlying26
  have hu27:=Try.underlying27
  have hu61:=Try.underlying61
  have hu37:=Try.underlying37
  have hu69:=Try.underlying69
  have hu23:=Try.underlying23
  have ne1 : ¬ (b = w.heap.size):=H0.out.hne
  have ne2 : ¬ (w.heap.size = b):=fun e=>H0.out.hne e.symm
  clear hM hP hg hPb hc hx hv hX hcX
  have hn0 : s.n ≠ 0:=by have:=HQ.out.1.n;omega
  have c2b0 : (s.n == 0) = false:=beq_eq_false_iff_ne.mpr hn0
  have c2b1 : (s.n != 0) = true:=bne_iff_ne.mpr hn0
  go_enter Try.func50,Try.ntmps50
  go_upto_region 1 with (fail)
  generalize hW0 : (w.alloc (.cells #[.int .i64 x.kind,.int .i64 x.fro,.int .i64 x.dst,.int .i64 x.view,.int .i64 x.last,.int .i64 x.prev,.slice AX x.log.length cX,.int .i64 x.commit,.int .i64 x.mat] 37)) = W0 at *
  clear hW0
  obtain ⟨AL,cL,AM,cM,AK,cK,AB,cB,AD,cD,AO,cO,kb,hCL,hcL⟩:=H0.out.cells
  have x0 : W0.cell? ⟨b,0,none⟩ = some (.int .i64 s.id):=(blk_cell kb 0).trans rfl
  have x1 : W0.cell? ⟨b,1,none⟩ = some (.int .i64 s.n):=(blk_cell kb 1).trans rfl
  clear kb
  have y3 : W0.cell? ⟨w.heap.size,3,none⟩ = some (.int .i64 x.view):=(blk_cell H0.out.box 3).trans rfl
  clear hCL hcL
  have H1:=Aside0.mk H0.out.drew
  by_cases hp : x.view.tmod s.n = s.id
  · have b0 : (x.view.tmod s.n == s.id) = true:=beq_iff_eq.mpr hp
    have b1 : (x.view.tmod s.n != s.id) = false:=by rw [bne,b0];rfl
    have HP:=Aside0.mk hp
    clear hp
    go_still_tail 15,(by kernel_rfl)
    change wpList _ _ _ _ _ W0.drew
    go_upto_region 2 with ((go_at_call_of 44 (Value.bool false);refine(fail_ok.calls _ _ _).mono ?_;rintro e w' ⟨rfl,hw'⟩;have hw':=hw'.symm;subst hw'))
    clear H0 x0 x1 y3 b0 b1
    generalize W0.drew = W1 at *
    obtain ⟨AL1,cL1,AM1,cM1,AK1,cK1,AB1,cB1,AD1,cD1,AO1,cO1,kb1,hCL1,hcL1⟩:=H1.out.cells
    have x2 : W1.cell? ⟨b,2,none⟩ = some (.int .i64 s.view):=(blk_cell kb1 2).trans rfl
    clear kb1
    clear hCL1 hcL1
    have y3 : W1.cell? ⟨w.heap.size,3,none⟩ = some (.int .i64 x.view):=(blk_cell H1.out.box 3).trans rfl
    have y4 : W1.cell? ⟨w.heap.size,4,none⟩ = some (.int .i64 x.last):=(blk_cell H1.out.box 4).trans rfl
    have y6 : W1.cell? ⟨w.heap.size,6,none⟩ = some (.slice AX x.log.length cX):=(blk_cell H1.out.box 6).trans rfl
    have y7 : W1.cell? ⟨w.heap.size,7,none⟩ = some (.int .i64 x.commit):=(blk_cell H1.out.box 7).trans rfl
    have badE : ∀ (W' : World),W' = W'→True:=fun _ _=>trivial
    clear badE
    cases ha1 : decide ((x.log.length : Int) < x.commit) with
    | true =>
      have HB2:=Aside0.mk ha1
      go_wp2_with ((go_at_call_of 44 (Value.bool true);refine(fail_bad.calls _ _ _).mono ?_;rintro e w' ⟨rfl,hw'⟩;have hw':=hw'.symm;subst hw'))
      have e : onVoteR s x = .error 4:=by unfold onVoteR voteBad;rw [if_pos HP.out,if_pos (by simp [HB2.out])]
      rw [e]
      exact⟨rfl,H1.out.keeps,rfl⟩
    | false =>
      cases ha2 : decide (x.last < 0) with
      | true =>
        have HB2:=Aside0.mk (And.intro ha1 ha2)
        go_wp2_with ((go_at_call_of 44 (Value.bool true);refine(fail_bad.calls _ _ _).mono ?_;rintro e w' ⟨rfl,hw'⟩;have hw':=hw'.symm;subst hw'))
        have e : onVoteR s x = .error 4:=by unfold onVoteR voteBad;rw [if_pos HP.out,if_pos (by simp [HB2.out])]
        rw [e]
        exact⟨rfl,H1.out.keeps,rfl⟩
      | false =>
        cases ha3 : decide (x.view < x.last) with
        | true =>
          have HB2:=Aside0.mk (And.intro ha1 (And.intro ha2 ha3))
          go_wp2_with ((go_at_call_of 44 (Value.bool true);refine(fail_bad.calls _ _ _).mono ?_;rintro e w' ⟨rfl,hw'⟩;have hw':=hw'.symm;subst hw'))
          have e : onVoteR s x = .error 4:=by unfold onVoteR voteBad;rw [if_pos HP.out,if_pos (by simp [HB2.out])]
          rw [e]
          exact⟨rfl,H1.out.keeps,rfl⟩
        | false =>
          have hvb : voteBad x = false:=by unfold voteBad;rw [ha1,ha2,ha3];rfl
          have HVB:=Aside0.mk (show ¬ (voteBad x = true)∧True from⟨by rw [hvb];simp,trivial⟩)
          clear hvb
          by_cases hlt : s.view < x.view
          · have c1 : decide (s.view < x.view) = true:=decide_eq_true hlt
            have HLT:=Aside0.mk hlt
            clear hlt
            go_upto_region 3 with ((go_at_call_of 44 (Value.bool false);refine(fail_ok.calls _ _ _).mono ?_;rintro e w' ⟨rfl,hw'⟩;have hw':=hw'.symm;subst hw'))
            clear ha1 ha2 ha3
            go_quiet (fail)
            go_upto_region 4 with (fail)
            have H2:=Aside0.mk (H1.out.drewN nq)
            clear H1 x2 y3 y4 y6 y7
            generalize W1.drewN nq = W2 at *
            have y3 : W2.cell? ⟨w.heap.size,3,none⟩ = some (.int .i64 x.view):=(blk_cell H2.out.box 3).trans rfl
            cases hr : enterR s x.view [] with
            | error code =>
              have HR:=Aside0.mk hr
              clear hr
              go_wp2_with ((go_at_call 45;refine(enter.mac b gd (fun k=>P k∧k ≠ w.heap.size) s [] x.view none 0 [] _ H2.out.mac H2.out.fresh H2.out.hg H2.out.hPb HQ.out.1.enter (Nat.zero_le _) (fun W _=>Kd.C_nil _ _) (Nat.zero_le _) (fun i hi=>by cases hi)).mono ?_;rw [HR.out];rintro e w6 ⟨hk6,he⟩;have H6:=Aside0.mk hk6;have he2 : e = .panicked [{ v:=.iface 30 (.int .i64 code),recovered:=false }]:=he;subst he2;clear hk6 he))
              have e : onVoteR s x = .error code:=by unfold onVoteR;rw [if_pos HP.out,if_neg HVB.out.1,if_pos HLT.out,HR.out]
              rw [e]
              exact⟨rfl,H2.out.keeps.trans' H6.out (fun k hk=>.inl (hk.imp id (fun h=>h.1))),rfl⟩
            | ok y =>
              have RES:=Aside0.mk (show onVoteR s x = voteTail y.1 y.2 x from by unfold onVoteR;rw [if_pos HP.out,if_neg HVB.out.1,if_pos HLT.out,hr])
              have hmid:=enterR_mid HQ.out.1.enter (by unfold primaryV;exact beq_iff_eq.mpr HP.out) hr
              have SO:=Aside0.mk hmid.1
              have LN:=Aside0.mk hmid.2
              have SN:=Aside0.mk (show y.1.n = s.n from enterR_n hr)
              have HR:=Aside0.mk hr
              clear hr hmid
              go_upto_region 5 with ((go_at_call 45;refine(enter.mac b gd (fun k=>P k∧k ≠ w.heap.size) s [] x.view none 0 [] _ H2.out.mac H2.out.fresh H2.out.hg H2.out.hPb HQ.out.1.enter (Nat.zero_le _) (fun W _=>Kd.C_nil _ _) (Nat.zero_le _) (fun i hi=>by cases hi)).mono ?_;rw [HR.out];rintro e w6 ⟨hk6,he⟩;have H6:=Aside0.mk (And.intro hk6 he.2);have he2 : e = .returned (.tuple #[]):=he.1;subst he2;clear hk6 he))
              have H4:=Aside0.mk (H2.out.step H6.out.1 (s1:=y.1) (out1:=y.2) H6.out.2)
              clear H2 H6 y3 HR
              obtain ⟨s4,ms4⟩:=y
              dsimp only at RES SO LN SN H4
              obtain ⟨AL4,cL4,AM4,cM4,AK4,cK4,AB4,cB4,AD4,cD4,AO4,cO4,kb4,hCL4,hcL4⟩:=H4.out.cells
              have x4 : w6.cell? ⟨b,4,none⟩ = some (.int .i64 s4.status):=(blk_cell kb4 4).trans rfl
              clear kb4
              have y3 : w6.cell? ⟨w.heap.size,3,none⟩ = some (.int .i64 x.view):=(blk_cell H4.out.box 3).trans rfl
              have y4 : w6.cell? ⟨w.heap.size,4,none⟩ = some (.int .i64 x.last):=(blk_cell H4.out.box 4).trans rfl
              clear hCL4 hcL4
              by_cases hst : s4.status = 1
              · have c2 : (s4.status == 1) = true:=beq_iff_eq.mpr hst
                have c3 : (s4.status != 1) = false:=by rw [bne,c2];rfl
                have HST:=Aside0.mk hst
                clear hst
                by_cases hlv : x.last = x.view
                · have c4 : (x.last == x.view) = true:=beq_iff_eq.mpr hlv
                  have HLV:=Aside0.mk (show x.last = x.view∧True from⟨hlv,trivial⟩)
                  clear hlv
                  go_wp2_with ((go_at_call_of 44 (Value.bool true);refine(fail_bad.calls _ _ _).mono ?_;rintro e w' ⟨rfl,hw'⟩;have hw':=hw'.symm;subst hw'))
                  have e : onVoteR s x = .error 4:=by rw [RES.out];unfold voteTail;rw [if_pos HST.out,if_pos HLV.out.1]
                  rw [e]
                  exact⟨rfl,H4.out.keeps,rfl⟩
                · have c4 : (x.last == x.view) = false:=beq_eq_false_iff_ne.mpr hlv
                  have HLV:=Aside0.mk (show ¬ (x.last = x.view)∧True from⟨hlv,trivial⟩)
                  clear hlv
                  go_upto_region 7 with ((go_at_call_of 44 (Value.bool false);refine(fail_ok.calls _ _ _).mono ?_;rintro e w' ⟨rfl,hw'⟩;have hw':=hw'.symm;subst hw'))
                  clear c2 c3 c4 x4 y3
                  have hfr:=wi_le HQ.out.2.1.fro
                  have hbl:=(SO.out HST.out).len
                  have hsn:=SN.out
                  obtain ⟨gb,cap,x10',⟨u0,u1,u2,u3,z0,z1,z2,z3⟩,⟨cells,kgb⟩,hPg,hgb,hgW,hput⟩:=H4.out.mac.bals_cell H4.out.hg.1 H4.out.hPb x.fro hfr.1 (by omega)
                  have x10 : w6.cell? ⟨b,10,none⟩ = some (.slice (some ⟨gb,0,none⟩) s4.bals.length cap):=x10'
                  clear x10'
                  have i0 : (0 ≤ x.fro) = True:=eq_true hfr.1
                  have i1 : (x.fro < (s4.bals.length : Int)) = True:=eq_true (by omega)
                  have m1 : ¬ (gb = b):=hgb
                  have m2 : ¬ (b = gb):=fun e=>hgb e.symm
                  have m3 : ¬ (gb = w.heap.size):=hPg.2
                  have m4 : ¬ (w.heap.size = gb):=fun e=>hPg.2 e.symm
                  have HC:=Aside0.mk (And.intro hput (And.intro kgb (And.intro hgW hPg)))
                  clear kgb hPg hgb hgW hput hfr hbl hsn
                  have y4 : w6.cell? ⟨w.heap.size,4,none⟩ = some (.int .i64 x.last):=(blk_cell H4.out.box 4).trans rfl
                  have y6 : w6.cell? ⟨w.heap.size,6,none⟩ = some (.slice AX x.log.length cX):=(blk_cell H4.out.box 6).trans rfl
                  have y7 : w6.cell? ⟨w.heap.size,7,none⟩ = some (.int .i64 x.commit):=(blk_cell H4.out.box 7).trans rfl
                  have y1 : w6.cell? ⟨w.heap.size,1,none⟩ = some (.int .i64 x.fro):=(blk_cell H4.out.box 1).trans rfl
                  go_region_held3 (fun W'=>W'.cell? ⟨b,10,none⟩ = some (.slice (some ⟨gb,0,none⟩) s4.bals.length cap)∧W'.cell? ⟨w.heap.size,1,none⟩ = some (.int .i64 x.fro)∧W'.cell? ⟨w.heap.size,4,none⟩ = some (.int .i64 x.last)∧W'.cell? ⟨w.heap.size,6,none⟩ = some (.slice AX x.log.length cX)∧W'.cell? ⟨w.heap.size,7,none⟩ = some (.int .i64 x.commit)) (go_keep) ((first|(go_at_call 41;refine(cloneLog.calls AX cX x.log _ (Kd.C_drew H4.out.xnow) (mayLog_fit HQ.out.2.1.log).1.1 (mayLog_fit HQ.out.2.1.log).1.2).mono ?_;rintro e w2 ⟨v,rfl,hR2,hb2⟩;obtain ⟨A2,c2,rfl⟩:=Kd.R_slice hR2;have q10:=(hb2.cell (World.block_lt_of_cell? _ _ x10)).trans x10;have q1:=(hb2.cell (World.block_lt_of_cell? _ _ y1)).trans y1;have q4:=(hb2.cell (World.block_lt_of_cell? _ _ y4)).trans y4;have q6:=(hb2.cell (World.block_lt_of_cell? _ _ y6)).trans y6;have q7:=(hb2.cell (World.block_lt_of_cell? _ _ y7)).trans y7;have q20:=(hb2.cell (World.block_lt_of_cell? _ _ z0)).trans z0;have q21:=(hb2.cell (World.block_lt_of_cell? _ _ z1)).trans z1;have q22:=(hb2.cell (World.block_lt_of_cell? _ _ z2)).trans z2;have q23:=(hb2.cell (World.block_lt_of_cell? _ _ z3)).trans z3;have kg2:=blk_below (blk_drew HC.out.2.1) hb2;have l0:=blk_frozen kg2 (x.fro.toNat * 4);have l1:=blk_frozen kg2 (x.fro.toNat * 4 + 1);have l2:=blk_frozen kg2 (x.fro.toNat * 4 + 2);have l3:=blk_frozen kg2 (x.fro.toNat * 4 + 3);have C2:=Aside0.mk (And.intro hR2 hb2);clear hR2 hb2 kg2)))
                  all_goals
                    have H3:=Aside0.mk (H4.out.drew.step (W1:=(((w2.setCell ⟨gb,x.fro.toNat * 4,none⟩ (.bool true)).setCell ⟨gb,x.fro.toNat * 4 + 1,none⟩ (.int .i64 x.last)).setCell ⟨gb,x.fro.toNat * 4 + 2,none⟩ (.slice A2 x.log.length c2)).setCell ⟨gb,x.fro.toNat * 4 + 3,none⟩ (.int .i64 x.commit)) (s1:=putS s4 x) (out1:=ms4) (by
                      have hPg:=HC.out.2.2.2
                      exact((((((Keeps.refl w6.drew _).below C2.out.2).setCell (p:=⟨gb,_,none⟩) (.inl (.inr hPg)) _).setCell (p:=⟨gb,_,none⟩) (.inl (.inr hPg)) _).setCell (p:=⟨gb,_,none⟩) (.inl (.inr hPg)) _).setCell (p:=⟨gb,_,none⟩) (.inl (.inr hPg)) _)) (by
                      have hb3:=(below_drew (Below.refl w6.heap.size w6)).trans C2.out.2
                      have hR3:=Kd.R_mono (Kd.R_lower (Kd.R_bound C2.out.1) (Nat.zero_le _)) (ok':=fun k=>(P k∧k ≠ w.heap.size)∧k ≠ gb) (fun k hk=>⟨H4.out.fresh k (by have:=hk.2.1;simpa using this),by have h1:=hk.2.1;have h2:=HC.out.2.2.1;simp at h1;omega⟩)
                      exact HC.out.1 w2 ⟨true,x.last,x.log,x.commit⟩ A2 c2 hb3 hR3))
                    clear HC C2 q1 q4 q6 q7 q10 q20 q21 q22 q23 l0 l1 l2 l3 y1 y4 y6 y7 x10 z0 z1 z2 z3
                    generalize (((w2.setCell ⟨gb,x.fro.toNat * 4,none⟩ (.bool true)).setCell ⟨gb,x.fro.toNat * 4 + 1,none⟩ (.int .i64 x.last)).setCell ⟨gb,x.fro.toNat * 4 + 2,none⟩ (.slice A2 x.log.length c2)).setCell ⟨gb,x.fro.toNat * 4 + 3,none⟩ (.int .i64 x.commit) = W3 at *
                    cases hse : startE (putS s4 x) with
                    | some code =>
                      have HSE:=Aside0.mk hse
                      clear hse
                      go_wp2_with ((go_at_call 67;refine(start.mac b gd (fun k=>P k∧k ≠ w.heap.size) (putS s4 x) ms4 _ H3.out.mac H3.out.fresh H3.out.hg H3.out.hPb ((SO.out HST.out).put HQ.out.2.1.log) (by have:=LN.out;omega)).mono ?_;rw [HSE.out];rintro e w6 ⟨hk6,he⟩;have H6:=Aside0.mk hk6;have he2 : e = .panicked [{ v:=.iface 30 (.int .i64 code),recovered:=false }]:=he;subst he2;clear hk6 he))
                      have e : onVoteR s x = .error code:=by rw [RES.out];unfold voteTail startR;rw [if_pos HST.out,if_neg HLV.out.1,HSE.out];rfl
                      rw [e]
                      exact⟨rfl,H3.out.keeps.trans' H6.out (fun k hk=>.inl (hk.imp id (fun h=>h.1))),rfl⟩
                    | none =>
                      have HSE:=Aside0.mk hse
                      clear hse
                      go_wp2_with ((go_at_call 67;refine(start.mac b gd (fun k=>P k∧k ≠ w.heap.size) (putS s4 x) ms4 _ H3.out.mac H3.out.fresh H3.out.hg H3.out.hPb ((SO.out HST.out).put HQ.out.2.1.log) (by have:=LN.out;omega)).mono ?_;rw [HSE.out];rintro e w6 ⟨hk6,he⟩;have H6:=Aside0.mk (And.intro hk6 he.2);have he2 : e = .returned (.tuple #[]):=he.1;subst he2;clear hk6 he))
                      (first|go_end0|refine bodyPost_ret (results_none rfl _ _ _) rfl ?_)
                      have e : onVoteR s x = .ok (startS (putS s4 x),ms4 ++ startM (putS s4 x)):=by rw [RES.out];unfold voteTail startR;rw [if_pos HST.out,if_neg HLV.out.1,HSE.out];rfl
                      rw [e]
                      exact⟨H3.out.keeps.trans' H6.out.1 (fun k hk=>.inl (hk.imp id (fun h=>h.1))),rfl,H6.out.2.mono (fun k hk=>hk.1)⟩
              · have c2 : (s4.status == 1) = false:=beq_eq_false_iff_ne.mpr hst
                have c3 : (s4.status != 1) = true:=bne_iff_ne.mpr hst
                have HST:=Aside0.mk (show ¬ (s4.status = 1)∧True from⟨hst,trivial⟩)
                clear hst
                go_wp2
                (first|go_end0|refine bodyPost_ret (results_none rfl _ _ _) rfl ?_)
                have e : onVoteR s x = .ok (s4,ms4):=by rw [RES.out];unfold voteTail;rw [if_neg HST.out.1]
                rw [e]
                exact⟨H4.out.keeps,rfl,H4.out.fin⟩
          · have c1 : decide (s.view < x.view) = false:=decide_eq_false hlt
            have RES:=Aside0.mk (show onVoteR s x = voteTail s [] x from by unfold onVoteR;rw [if_pos HP.out,if_neg HVB.out.1,if_neg hlt])
            have hvx : s.view = x.view:=by have:=HQ.out.2.2;omega
            have SO:=Aside0.mk (show s.status = 1→StartOk s from fun h1=>⟨HQ.out.1.n,HQ.out.1.enter.id,HQ.out.1.bals1 h1 (by unfold primaryV;rw [hvx];exact beq_iff_eq.mpr HP.out),HQ.out.1.commit,HQ.out.1.bfit⟩)
            have LN:=Aside0.mk (show([] : List Ms).length ≤ 18 from Nat.zero_le _)
            have SN:=Aside0.mk (show s.n = s.n from rfl)
            clear hlt hvx
            go_upto_region 3 with ((go_at_call_of 44 (Value.bool false);refine(fail_ok.calls _ _ _).mono ?_;rintro e w' ⟨rfl,hw'⟩;have hw':=hw'.symm;subst hw'))
            clear ha1 ha2 ha3
            go_quiet (fail)
            go_upto_region 5 with (fail)
            have H2:=Aside0.mk (H1.out.drewN nq)
            clear H1 x2 y3 y4 y6 y7
            generalize W1.drewN nq = W2 at *
            obtain ⟨AL2,cL2,AM2,cM2,AK2,cK2,AB2,cB2,AD2,cD2,AO2,cO2,kb2,hCL2,hcL2⟩:=H2.out.cells
            have x4 : W2.cell? ⟨b,4,none⟩ = some (.int .i64 s.status):=(blk_cell kb2 4).trans rfl
            clear kb2
            have y3 : W2.cell? ⟨w.heap.size,3,none⟩ = some (.int .i64 x.view):=(blk_cell H2.out.box 3).trans rfl
            have y4 : W2.cell? ⟨w.heap.size,4,none⟩ = some (.int .i64 x.last):=(blk_cell H2.out.box 4).trans rfl
            clear hCL2 hcL2
            by_cases hst : s.status = 1
            · have c2 : (s.status == 1) = true:=beq_iff_eq.mpr hst
              have c3 : (s.status != 1) = false:=by rw [bne,c2];rfl
              have HST:=Aside0.mk hst
              clear hst
              by_cases hlv : x.last = x.view
              · have c4 : (x.last == x.view) = true:=beq_iff_eq.mpr hlv
                have HLV:=Aside0.mk (show x.last = x.view∧True from⟨hlv,trivial⟩)
                clear hlv
                go_wp2_with ((go_at_call_of 44 (Value.bool true);refine(fail_bad.calls _ _ _).mono ?_;rintro e w' ⟨rfl,hw'⟩;have hw':=hw'.symm;subst hw'))
                have e : onVoteR s x = .error 4:=by rw [RES.out];unfold voteTail;rw [if_pos HST.out,if_pos HLV.out.1]
                rw [e]
                exact⟨rfl,H2.out.keeps,rfl⟩
              · have c4 : (x.last == x.view) = false:=beq_eq_false_iff_ne.mpr hlv
                have HLV:=Aside0.mk (show ¬ (x.last = x.view)∧True from⟨hlv,trivial⟩)
                clear hlv
                go_upto_region 7 with ((go_at_call_of 44 (Value.bool false);refine(fail_ok.calls _ _ _).mono ?_;rintro e w' ⟨rfl,hw'⟩;have hw':=hw'.symm;subst hw'))
                clear c2 c3 c4 x4 y3
                have hfr:=wi_le HQ.out.2.1.fro
                have hbl:=(SO.out HST.out).len
                have hsn:=SN.out
                obtain ⟨gb,cap,x10',⟨u0,u1,u2,u3,z0,z1,z2,z3⟩,⟨cells,kgb⟩,hPg,hgb,hgW,hput⟩:=H2.out.mac.bals_cell H2.out.hg.1 H2.out.hPb x.fro hfr.1 (by omega)
                have x10 : W2.cell? ⟨b,10,none⟩ = some (.slice (some ⟨gb,0,none⟩) s.bals.length cap):=x10'
                clear x10'
                have i0 : (0 ≤ x.fro) = True:=eq_true hfr.1
                have i1 : (x.fro < (s.bals.length : Int)) = True:=eq_true (by omega)
                have m1 : ¬ (gb = b):=hgb
                have m2 : ¬ (b = gb):=fun e=>hgb e.symm
                have m3 : ¬ (gb = w.heap.size):=hPg.2
                have m4 : ¬ (w.heap.size = gb):=fun e=>hPg.2 e.symm
                have HC:=Aside0.mk (And.intro hput (And.intro kgb (And.intro hgW hPg)))
                clear kgb hPg hgb hgW hput hfr hbl hsn
                have y4 : W2.cell? ⟨w.heap.size,4,none⟩ = some (.int .i64 x.last):=(blk_cell H2.out.box 4).trans rfl
                have y6 : W2.cell? ⟨w.heap.size,6,none⟩ = some (.slice AX x.log.length cX):=(blk_cell H2.out.box 6).trans rfl
                have y7 : W2.cell? ⟨w.heap.size,7,none⟩ = some (.int .i64 x.commit):=(blk_cell H2.out.box 7).trans rfl
                have y1 : W2.cell? ⟨w.heap.size,1,none⟩ = some (.int .i64 x.fro):=(blk_cell H2.out.box 1).trans rfl
                go_region_held3 (fun W'=>W'.cell? ⟨b,10,none⟩ = some (.slice (some ⟨gb,0,none⟩) s.bals.length cap)∧W'.cell? ⟨w.heap.size,1,none⟩ = some (.int .i64 x.fro)∧W'.cell? ⟨w.heap.size,4,none⟩ = some (.int .i64 x.last)∧W'.cell? ⟨w.heap.size,6,none⟩ = some (.slice AX x.log.length cX)∧W'.cell? ⟨w.heap.size,7,none⟩ = some (.int .i64 x.commit)) (go_keep) ((first|(go_at_call 41;refine(cloneLog.calls AX cX x.log _ (Kd.C_drew H2.out.xnow) (mayLog_fit HQ.out.2.1.log).1.1 (mayLog_fit HQ.out.2.1.log).1.2).mono ?_;rintro e w2 ⟨v,rfl,hR2,hb2⟩;obtain ⟨A2,c2,rfl⟩:=Kd.R_slice hR2;have q10:=(hb2.cell (World.block_lt_of_cell? _ _ x10)).trans x10;have q1:=(hb2.cell (World.block_lt_of_cell? _ _ y1)).trans y1;have q4:=(hb2.cell (World.block_lt_of_cell? _ _ y4)).trans y4;have q6:=(hb2.cell (World.block_lt_of_cell? _ _ y6)).trans y6;have q7:=(hb2.cell (World.block_lt_of_cell? _ _ y7)).trans y7;have q20:=(hb2.cell (World.block_lt_of_cell? _ _ z0)).trans z0;have q21:=(hb2.cell (World.block_lt_of_cell? _ _ z1)).trans z1;have q22:=(hb2.cell (World.block_lt_of_cell? _ _ z2)).trans z2;have q23:=(hb2.cell (World.block_lt_of_cell? _ _ z3)).trans z3;have kg2:=blk_below (blk_drew HC.out.2.1) hb2;have l0:=blk_frozen kg2 (x.fro.toNat * 4);have l1:=blk_frozen kg2 (x.fro.toNat * 4 + 1);have l2:=blk_frozen kg2 (x.fro.toNat * 4 + 2);have l3:=blk_frozen kg2 (x.fro.toNat * 4 + 3);have C2:=Aside0.mk (And.intro hR2 hb2);clear hR2 hb2 kg2)))
                all_goals
                  have H3:=Aside0.mk (H2.out.drew.step (W1:=(((w2.setCell ⟨gb,x.fro.toNat * 4,none⟩ (.bool true)).setCell ⟨gb,x.fro.toNat * 4 + 1,none⟩ (.int .i64 x.last)).setCell ⟨gb,x.fro.toNat * 4 + 2,none⟩ (.slice A2 x.log.length c2)).setCell ⟨gb,x.fro.toNat * 4 + 3,none⟩ (.int .i64 x.commit)) (s1:=putS s x) (out1:=[]) (by
                    have hPg:=HC.out.2.2.2
                    exact((((((Keeps.refl W2.drew _).below C2.out.2).setCell (p:=⟨gb,_,none⟩) (.inl (.inr hPg)) _).setCell (p:=⟨gb,_,none⟩) (.inl (.inr hPg)) _).setCell (p:=⟨gb,_,none⟩) (.inl (.inr hPg)) _).setCell (p:=⟨gb,_,none⟩) (.inl (.inr hPg)) _)) (by
                    have hb3:=(below_drew (Below.refl W2.heap.size W2)).trans C2.out.2
                    have hR3:=Kd.R_mono (Kd.R_lower (Kd.R_bound C2.out.1) (Nat.zero_le _)) (ok':=fun k=>(P k∧k ≠ w.heap.size)∧k ≠ gb) (fun k hk=>⟨H2.out.fresh k (by have:=hk.2.1;simpa using this),by have h1:=hk.2.1;have h2:=HC.out.2.2.1;simp at h1;omega⟩)
                    exact HC.out.1 w2 ⟨true,x.last,x.log,x.commit⟩ A2 c2 hb3 hR3))
                  clear HC C2 q1 q4 q6 q7 q10 q20 q21 q22 q23 l0 l1 l2 l3 y1 y4 y6 y7 x10 z0 z1 z2 z3
                  generalize (((w2.setCell ⟨gb,x.fro.toNat * 4,none⟩ (.bool true)).setCell ⟨gb,x.fro.toNat * 4 + 1,none⟩ (.int .i64 x.last)).setCell ⟨gb,x.fro.toNat * 4 + 2,none⟩ (.slice A2 x.log.length c2)).setCell ⟨gb,x.fro.toNat * 4 + 3,none⟩ (.int .i64 x.commit) = W3 at *
                  cases hse : startE (putS s x) with
                  | some code =>
                    have HSE:=Aside0.mk hse
                    clear hse
                    go_wp2_with ((go_at_call 67;refine(start.mac b gd (fun k=>P k∧k ≠ w.heap.size) (putS s x) [] _ H3.out.mac H3.out.fresh H3.out.hg H3.out.hPb ((SO.out HST.out).put HQ.out.2.1.log) (by have:=LN.out;omega)).mono ?_;rw [HSE.out];rintro e w6 ⟨hk6,he⟩;have H6:=Aside0.mk hk6;have he2 : e = .panicked [{ v:=.iface 30 (.int .i64 code),recovered:=false }]:=he;subst he2;clear hk6 he))
                    have e : onVoteR s x = .error code:=by rw [RES.out];unfold voteTail startR;rw [if_pos HST.out,if_neg HLV.out.1,HSE.out];rfl
                    rw [e]
                    exact⟨rfl,H3.out.keeps.trans' H6.out (fun k hk=>.inl (hk.imp id (fun h=>h.1))),rfl⟩
                  | none =>
                    have HSE:=Aside0.mk hse
                    clear hse
                    go_wp2_with ((go_at_call 67;refine(start.mac b gd (fun k=>P k∧k ≠ w.heap.size) (putS s x) [] _ H3.out.mac H3.out.fresh H3.out.hg H3.out.hPb ((SO.out HST.out).put HQ.out.2.1.log) (by have:=LN.out;omega)).mono ?_;rw [HSE.out];rintro e w6 ⟨hk6,he⟩;have H6:=Aside0.mk (And.intro hk6 he.2);have he2 : e = .returned (.tuple #[]):=he.1;subst he2;clear hk6 he))
                    (first|go_end0|refine bodyPost_ret (results_none rfl _ _ _) rfl ?_)
                    have e : onVoteR s x = .ok (startS (putS s x),[] ++ startM (putS s x)):=by rw [RES.out];unfold voteTail startR;rw [if_pos HST.out,if_neg HLV.out.1,HSE.out];rfl
                    rw [e]
                    exact⟨H3.out.keeps.trans' H6.out.1 (fun k hk=>.inl (hk.imp id (fun h=>h.1))),rfl,H6.out.2.mono (fun k hk=>hk.1)⟩
            · have c2 : (s.status == 1) = false:=beq_eq_false_iff_ne.mpr hst
              have c3 : (s.status != 1) = true:=bne_iff_ne.mpr hst
              have HST:=Aside0.mk (show ¬ (s.status = 1)∧True from⟨hst,trivial⟩)
              clear hst
              go_wp2
              (first|go_end0|refine bodyPost_ret (results_none rfl _ _ _) rfl ?_)
              have e : onVoteR s x = .ok (s,[]):=by rw [RES.out];unfold voteTail;rw [if_neg HST.out.1]
              rw [e]
              exact⟨H2.out.keeps,rfl,H2.out.fin⟩
  · have b0 : (x.view.tmod s.n == s.id) = false:=beq_eq_false_iff_ne.mpr hp
    have b1 : (x.view.tmod s.n != s.id) = true:=bne_iff_ne.mpr hp
    have HP:=Aside0.mk (show ¬ (x.view.tmod s.n = s.id)∧True from⟨hp,trivial⟩)
    clear hp
    go_still_tail 15,(by kernel_rfl)
    change wpList _ _ _ _ _ W0.drew
    go_wp2_with ((go_at_call_of 44 (Value.bool true);refine(fail_bad.calls _ _ _).mono ?_;rintro e w' ⟨rfl,hw'⟩;have hw':=hw'.symm;subst hw'))
    have e : onVoteR s x = .error 9:=by unfold onVoteR;rw [if_neg HP.out.1]
    rw [e]
    exact⟨rfl,H1.out.keeps,rfl⟩
end Go.Proofs.Ytojjnifbnppliaa.T
end
section
namespace Go.Proofs.Ytojjnifbnppliaa.T
open Go.RowKit Go.Proofs.YtojjnifbnppliaaW.PrintWords Go.Proofs.YtojjnifbnppliaaW.PrintLast Go.Proofs.YtojjnifbnppliaaW.PrintMore
attribute [local go_sem] max2_int min2_int max_two min_two max_three min_three max_four min_four
set_option linter.unusedVariables false
set_option linter.unusedSimpArgs false
def askForM (q c : Int) : Ms:={ kind:=6,fro:=0,dst:=q,view:=0,last:=0,prev:=c,log:=[],commit:=0,mat:=0 }
def awayS (s : St) (v : Int) : St:=elS (if s.view < v then drawS (changeS (viewS s v)) else s) 0
def onPrepareR (s : St) (x : Ms) : Except Int (St × List Ms):=if x.view.tmod s.n = x.fro then(if hereV s.status s.view x.view = true then(if(s.log.length : Int) < x.prev then .ok (elS s 0,[tellM (elS s 0) (askForM x.fro s.log.length)]) else match extR (elS s 0) x with|.error c=>.error c|.ok y=>.ok (y.1,y.2 ++ [tellM y.1 (ansM y.1 x.fro)])) else .ok (awayS s x.view,[tellM (awayS s x.view) (askForM x.fro s.commit)])) else .error 9
theorem Chk.ext {s : St} (h : Chk s) {x : Ms} (hx : MsgOk s.id s.n x) (hs : s.status = 0) (hp : x.prev ≤ s.log.length) : ExtOk s x:=⟨h.commit,⟨(wi_le hx.prev).1,hp⟩,⟨(mayLog_fit h.log).2,(mayLog_fit hx.log).2⟩,(mayLog_fit hx.log).1,h.bals0 (.inl hs)⟩
theorem ExtOk.el {s : St} {x : Ms} (h : ExtOk s x) (v : Int) : ExtOk (elS s v) x:=⟨h.com,h.prev,h.len,h.fl,h.bals⟩
theorem here_status {s : St} {v : Int} (h : hereV s.status s.view v = true) : s.status = 0:=by
  unfold hereV at h
  simp only [Bool.and_eq_true,beq_iff_eq] at h
  exact h.1
theorem extR_ms {s : St} {x : Ms} {y : St × List Ms} (h : extR s x = .ok y) : y.2 = []:=by
  unfold extR at h
  split at h
  · cases h
  · injection h with h
    subst h
    rfl
set_option maxHeartbeats 8000000 in
set_option maxRecDepth 100000 in
theorem onPrepare.mac (b gd : Nat) (P : Nat→Prop) (s : St) (x : Ms) (AX : Option Addr) (cX : Nat) (w : World) (hM : Mac w b gd P s []) (hP : ∀ k,w.heap.size ≤ k→P k) (hg : ¬ P gd∧gd ≠ b) (hPb : ¬ P b) (hc : Chk s) (hx : MsgOk s.id s.n x) (hv : s.view ≤ x.view) (hX : ∀ W,Keeps w W (fun k=>k = b∨P k)→Kd.C (Kd.slice 5 (Kd.int .u8)) W AX x.log.length x.log) (hcX : x.log.length ≤ cX) :
    Calls Try.prog 47 #[.pointer (some ⟨b,0,none⟩),.agg #[.int .i64 x.kind,.int .i64 x.fro,.int .i64 x.dst,.int .i64 x.view,.int .i64 x.last,.int .i64 x.prev,.slice AX x.log.length cX,.int .i64 x.commit,.int .i64 x.mat]] w fun e w'=>Keeps w w' (fun k=>k = b∨P k)∧EndsR (onPrepareR s x) e (fun s' ms=>Mac w' b gd P s' ms):=by
  have H0:=Aside0.mk (HB.init hM hP hg hPb hX hcX)
  have HQ:=Aside0.mk (And.intro hc (And.intro hx hv))
  have hu29:=Try.underlying29
  have hu25:=Try.underlying25
  have hu26:=Try.underlying26
  have hu27:=Try.underlying27
  have hu61:=Try.underlying61
  have hu37:=Try.underlying37
  have hu69:=Try.underlying69
  have hu23:=Try.underlying23
  have ne1 : ¬ (b = w.heap.size):=H0.out.hne
  have ne2 : ¬ (w.heap.size = b):=fun e=>H0.out.hne e.symm
  clear hM hP hg hPb hc hx hv hX hcX
  have hn0 : s.n ≠ 0:=by have:=HQ.out.1.n;omega
  have c2b0 : (s.n == 0) = false:=beq_eq_false_iff_ne.mpr hn0
  have c2b1 : (s.n != 0) = true:=bne_iff_ne.mpr hn0
  go_enter Try.func47,Try.ntmps47
  go_upto_region 1 with (fail)
  generalize hW0 : (w.alloc (.cells #[.int .i64 x.kind,.int .i64 x.fro,.int .i64 x.dst,.int .i64 x.view,.int .i64 x.last,.int .i64 x.prev,.slice AX x.log.length cX,.int .i64 x.commit,.int .i64 x.mat] 37)) = W0 at *
  clear hW0
  obtain ⟨AL,cL,AM,cM,AK,cK,AB,cB,AD,cD,AO,cO,kb,hCL,hcL⟩:=H0.out.cells
  have x1 : W0.cell? ⟨b,1,none⟩ = some (.int .i64 s.n):=(blk_cell kb 1).trans rfl
  clear kb
  have y1 : W0.cell? ⟨w.heap.size,1,none⟩ = some (.int .i64 x.fro):=(blk_cell H0.out.box 1).trans rfl
  have y3 : W0.cell? ⟨w.heap.size,3,none⟩ = some (.int .i64 x.view):=(blk_cell H0.out.box 3).trans rfl
  clear hCL hcL
  have H1:=Aside0.mk H0.out.drew
  by_cases hp : x.view.tmod s.n = x.fro
  · have b0 : (x.view.tmod s.n == x.fro) = true:=beq_iff_eq.mpr hp
    have b1 : (x.view.tmod s.n != x.fro) = false:=by rw [bne,b0];rfl
    have HP:=Aside0.mk hp
    clear hp
    go_still_tail 12,(by kernel_rfl)
    change wpList _ _ _ _ _ W0.drew
    go_upto_region 2 with ((go_at_call_of 44 (Value.bool false);refine(fail_ok.calls _ _ _).mono ?_;rintro e w' ⟨rfl,hw'⟩;have hw':=hw'.symm;subst hw'))
    clear H0 x1 y1 y3 b0 b1
    generalize W0.drew = W1 at *
    obtain ⟨AL,cL,AM,cM,AK,cK,AB,cB,AD,cD,AO,cO,kb,hCL,hcL⟩:=H1.out.cells
    have x2 : W1.cell? ⟨b,2,none⟩ = some (.int .i64 s.view):=(blk_cell kb 2).trans rfl
    have x4 : W1.cell? ⟨b,4,none⟩ = some (.int .i64 s.status):=(blk_cell kb 4).trans rfl
    clear kb
    have y0 : W1.cell? ⟨w.heap.size,0,none⟩ = some (.int .i64 x.kind):=(blk_cell H1.out.box 0).trans rfl
    have y1 : W1.cell? ⟨w.heap.size,1,none⟩ = some (.int .i64 x.fro):=(blk_cell H1.out.box 1).trans rfl
    have y2 : W1.cell? ⟨w.heap.size,2,none⟩ = some (.int .i64 x.dst):=(blk_cell H1.out.box 2).trans rfl
    have y3 : W1.cell? ⟨w.heap.size,3,none⟩ = some (.int .i64 x.view):=(blk_cell H1.out.box 3).trans rfl
    have y4 : W1.cell? ⟨w.heap.size,4,none⟩ = some (.int .i64 x.last):=(blk_cell H1.out.box 4).trans rfl
    have y5 : W1.cell? ⟨w.heap.size,5,none⟩ = some (.int .i64 x.prev):=(blk_cell H1.out.box 5).trans rfl
    have y6 : W1.cell? ⟨w.heap.size,6,none⟩ = some (.slice AX x.log.length cX):=(blk_cell H1.out.box 6).trans rfl
    have y7 : W1.cell? ⟨w.heap.size,7,none⟩ = some (.int .i64 x.commit):=(blk_cell H1.out.box 7).trans rfl
    have y8 : W1.cell? ⟨w.heap.size,8,none⟩ = some (.int .i64 x.mat):=(blk_cell H1.out.box 8).trans rfl
    clear hCL hcL
    cases hh : hereV s.status s.view x.view with
    | true =>
      have HH:=Aside0.mk hh
      clear hh
      go_upto_region 9 with ((go_at_call 64;refine(here.calls b s.status s.view x (.slice AX x.log.length cX) W1 x2 x4 AX cX).mono ?_;rw [HH.out];rintro e w1 ⟨rfl,hb1⟩;have H2:=Aside0.mk (H1.out.below hb1);clear hb1))
      clear x2 x4 y0 y1 y2 y3 y4 y5 y6 y7 y8
      obtain ⟨AL2,cL2,AM2,cM2,AK2,cK2,AB2,cB2,AD2,cD2,AO2,cO2,kb2,hCL2,hcL2⟩:=H2.out.cells
      have x11 : w1.cell? ⟨b,11,none⟩ = some (.int .i64 s.elapsed):=(blk_cell kb2 11).trans rfl
      have fx11:=blk_frozen kb2 11
      clear kb2
      clear hCL2 hcL2
      have H3:=Aside0.mk (H2.out.elapsed 0)
      go_upto_region 10 with (fail)
      clear x11 fx11 H1 H2
      generalize w1.setCell ⟨b,11,none⟩ (.int .i64 0) = W3 at *
      obtain ⟨AL3,cL3,AM3,cM3,AK3,cK3,AB3,cB3,AD3,cD3,AO3,cO3,kb3,hCL3,hcL3⟩:=H3.out.cells
      have x5 : W3.cell? ⟨b,5,none⟩ = some (.slice AL3 s.log.length cL3):=(blk_cell kb3 5).trans rfl
      clear kb3
      clear hCL3 hcL3
      have y5 : W3.cell? ⟨w.heap.size,5,none⟩ = some (.int .i64 x.prev):=(blk_cell H3.out.box 5).trans rfl
      by_cases hlt : (s.log.length : Int) < x.prev
      · have d1 : decide ((s.log.length : Int) < x.prev) = true:=decide_eq_true hlt
        have HLT:=Aside0.mk hlt
        clear hlt
        go_quiet (fail)
        go_upto_region 11 with (fail)
        have H4:=Aside0.mk (H3.out.drewN nq)
        clear H3 x5 y5
        generalize W3.drewN nq = W4 at *
        obtain ⟨AL4,cL4,AM4,cM4,AK4,cK4,AB4,cB4,AD4,cD4,AO4,cO4,kb4,hCL4,hcL4⟩:=H4.out.cells
        have x5 : W4.cell? ⟨b,5,none⟩ = some (.slice AL4 s.log.length cL4):=(blk_cell kb4 5).trans rfl
        clear kb4
        clear hCL4 hcL4
        have y1 : W4.cell? ⟨w.heap.size,1,none⟩ = some (.int .i64 x.fro):=(blk_cell H4.out.box 1).trans rfl
        have H5:=Aside0.mk H4.out.drew
        go_still_tail 10,(by kernel_rfl)
        change wpList _ _ _ _ _ W4.drew
        go_wp2_with ((go_at_call 46;refine(tell.calls b gd (fun k=>P k∧k ≠ w.heap.size) (elS s 0) ([]) (askForM x.fro s.log.length) none 0 _ H5.out.mac H5.out.fresh H5.out.hg (Kd.R_nil _ _ _ _ _) (by simp)).mono ?_;rintro e w9 ⟨rfl,hk9,hm9⟩;have H9:=Aside0.mk (H5.out.step hk9.tells hm9);clear hk9 hm9))
        (first|go_end0|refine bodyPost_ret (results_none rfl _ _ _) rfl ?_)
        have e : onPrepareR s x = .ok (elS s 0,[tellM (elS s 0) (askForM x.fro s.log.length)]):=by unfold onPrepareR;rw [if_pos HP.out,if_pos HH.out,if_pos HLT.out]
        rw [e]
        exact⟨H9.out.keeps,rfl,H9.out.fin⟩
      · have d1 : decide ((s.log.length : Int) < x.prev) = false:=decide_eq_false hlt
        have HLT:=Aside0.mk (show ¬ ((s.log.length : Int) < x.prev)∧True from⟨hlt,trivial⟩)
        have EO:=Aside0.mk ((HQ.out.1.ext HQ.out.2.1 (here_status HH.out) (by omega)).el 0)
        clear hlt
        go_quiet (fail)
        go_upto_region 12 with (fail)
        have H4:=Aside0.mk (H3.out.drewN nq)
        clear H3 x5 y5
        generalize W3.drewN nq = W4 at *
        have y0 : W4.cell? ⟨w.heap.size,0,none⟩ = some (.int .i64 x.kind):=(blk_cell H4.out.box 0).trans rfl
        have y1 : W4.cell? ⟨w.heap.size,1,none⟩ = some (.int .i64 x.fro):=(blk_cell H4.out.box 1).trans rfl
        have y2 : W4.cell? ⟨w.heap.size,2,none⟩ = some (.int .i64 x.dst):=(blk_cell H4.out.box 2).trans rfl
        have y3 : W4.cell? ⟨w.heap.size,3,none⟩ = some (.int .i64 x.view):=(blk_cell H4.out.box 3).trans rfl
        have y4 : W4.cell? ⟨w.heap.size,4,none⟩ = some (.int .i64 x.last):=(blk_cell H4.out.box 4).trans rfl
        have y5 : W4.cell? ⟨w.heap.size,5,none⟩ = some (.int .i64 x.prev):=(blk_cell H4.out.box 5).trans rfl
        have y6 : W4.cell? ⟨w.heap.size,6,none⟩ = some (.slice AX x.log.length cX):=(blk_cell H4.out.box 6).trans rfl
        have y7 : W4.cell? ⟨w.heap.size,7,none⟩ = some (.int .i64 x.commit):=(blk_cell H4.out.box 7).trans rfl
        have y8 : W4.cell? ⟨w.heap.size,8,none⟩ = some (.int .i64 x.mat):=(blk_cell H4.out.box 8).trans rfl
        cases hr : extR (elS s 0) x with
        | error code =>
          have HR:=Aside0.mk hr
          clear hr
          go_wp2_with ((go_at_call 65;refine(extend.mac b gd (fun k=>P k∧k ≠ w.heap.size) (elS s 0) [] x AX cX _ H4.out.mac H4.out.fresh H4.out.hg H4.out.hPb EO.out rfl H4.out.hX H4.out.hcX).mono ?_;rw [HR.out];rintro e w6 ⟨hk6,he⟩;have H6:=Aside0.mk hk6;have he2 : e = .panicked [{ v:=.iface 30 (.int .i64 code),recovered:=false }]:=he;subst he2;clear hk6 he))
          have e : onPrepareR s x = .error code:=by unfold onPrepareR;rw [if_pos HP.out,if_pos HH.out,if_neg (by have:=HLT.out.1;omega),HR.out]
          rw [e]
          exact⟨rfl,H4.out.keeps.trans' H6.out (fun k hk=>.inl (hk.imp id (fun h=>h.1))),rfl⟩
        | ok y =>
          have HMS:=Aside0.mk (extR_ms hr)
          have HR:=Aside0.mk hr
          clear hr
          go_upto_region 13 with ((go_at_call 65;refine(extend.mac b gd (fun k=>P k∧k ≠ w.heap.size) (elS s 0) [] x AX cX _ H4.out.mac H4.out.fresh H4.out.hg H4.out.hPb EO.out rfl H4.out.hX H4.out.hcX).mono ?_;rw [HR.out];rintro e w6 ⟨hk6,he⟩;have H6:=Aside0.mk (And.intro hk6 he.2);have he2 : e = .returned (.tuple #[]):=he.1;subst he2;clear hk6 he))
          have H7:=Aside0.mk (H4.out.step H6.out.1 (s1:=y.1) (out1:=y.2) H6.out.2)
          clear H4 H6 y0 y1 y2 y3 y4 y5 y6 y7 y8
          have y1 : w6.cell? ⟨w.heap.size,1,none⟩ = some (.int .i64 x.fro):=(blk_cell H7.out.box 1).trans rfl
          go_wp2_with ((go_at_call 66;refine(answer.mac b gd (fun k=>P k∧k ≠ w.heap.size) (y.1) (y.2) x.fro _ H7.out.mac H7.out.fresh H7.out.hg (by rw [HMS.out];simp)).mono ?_;rintro e w9 ⟨rfl,hk9,hm9⟩;have H9:=Aside0.mk (H7.out.step hk9 hm9);clear hk9 hm9))
          (first|go_end0|refine bodyPost_ret (results_none rfl _ _ _) rfl ?_)
          have e : onPrepareR s x = .ok (y.1,y.2 ++ [tellM y.1 (ansM y.1 x.fro)]):=by unfold onPrepareR;rw [if_pos HP.out,if_pos HH.out,if_neg (by have:=HLT.out.1;omega),HR.out]
          rw [e]
          exact⟨H9.out.keeps,rfl,H9.out.fin⟩
    | false =>
      have HH:=Aside0.mk hh
      clear hh
      go_upto_region 3 with ((go_at_call 64;refine(here.calls b s.status s.view x (.slice AX x.log.length cX) W1 x2 x4 AX cX).mono ?_;rw [HH.out];rintro e w1 ⟨rfl,hb1⟩;have H2:=Aside0.mk (H1.out.below hb1);clear hb1))
      clear x2 x4 y0 y1 y2 y3 y4 y5 y6 y7 y8
      obtain ⟨AL2,cL2,AM2,cM2,AK2,cK2,AB2,cB2,AD2,cD2,AO2,cO2,kb2,hCL2,hcL2⟩:=H2.out.cells
      have x2 : w1.cell? ⟨b,2,none⟩ = some (.int .i64 s.view):=(blk_cell kb2 2).trans rfl
      clear kb2
      clear hCL2 hcL2
      have y3 : w1.cell? ⟨w.heap.size,3,none⟩ = some (.int .i64 x.view):=(blk_cell H2.out.box 3).trans rfl
      by_cases hlt : s.view < x.view
      · have d1 : decide (s.view < x.view) = true:=decide_eq_true hlt
        have HLT:=Aside0.mk hlt
        clear hlt
        go_quiet (fail)
        go_upto_region 4 with (fail)
        have H3:=Aside0.mk (H2.out.drewN nq)
        clear H1 H2 x2 y3
        generalize w1.drewN nq = W3 at *
        obtain ⟨AL3,cL3,AM3,cM3,AK3,cK3,AB3,cB3,AD3,cD3,AO3,cO3,kb3,hCL3,hcL3⟩:=H3.out.cells
        have x2 : W3.cell? ⟨b,2,none⟩ = some (.int .i64 s.view):=(blk_cell kb3 2).trans rfl
        have fx2:=blk_frozen kb3 2
        clear kb3
        clear hCL3 hcL3
        have y3 : W3.cell? ⟨w.heap.size,3,none⟩ = some (.int .i64 x.view):=(blk_cell H3.out.box 3).trans rfl
        have H4:=Aside0.mk (H3.out.view x.view)
        go_upto_region 7 with (first|(go_at_call 61;refine(change.mac b gd (fun k=>P k∧k ≠ w.heap.size) (viewS s x.view) [] _ H4.out.mac H4.out.fresh H4.out.hg H4.out.hPb HQ.out.1.n HQ.out.1.enter.id).mono ?_;rintro e w5 ⟨rfl,hk5,hm5⟩;have H5:=Aside0.mk (H4.out.step hk5 hm5);clear hk5 hm5)|(go_at_call 18;refine(draw.mac b gd (fun k=>P k∧k ≠ w.heap.size) (changeS (viewS s x.view)) [] _ H5.out.mac H5.out.hg.2 ⟨HQ.out.1.id.1,by have h1:=HQ.out.1.enter.id.2;have h2:=HQ.out.1.n.2;show s.id < 9;omega⟩).mono ?_;rintro e w6 ⟨rfl,hk6,hm6⟩;have H6:=Aside0.mk (H5.out.step hk6 (hm6 H5.out.hPb));clear hk6 hm6))
        clear x2 fx2 y3 H3 H4 H5
        obtain ⟨AL7,cL7,AM7,cM7,AK7,cK7,AB7,cB7,AD7,cD7,AO7,cO7,kb7,hCL7,hcL7⟩:=H6.out.cells
        have x11 : w6.cell? ⟨b,11,none⟩ = some (.int .i64 (drawS (changeS (viewS s x.view))).elapsed):=(blk_cell kb7 11).trans rfl
        have fx11:=blk_frozen kb7 11
        clear kb7
        clear hCL7 hcL7
        have H8:=Aside0.mk (H6.out.elapsed 0)
        go_upto_region 8 with (fail)
        clear x11 fx11
        generalize w6.setCell ⟨b,11,none⟩ (.int .i64 0) = W8 at *
        have EA:=Aside0.mk (show elS ((drawS (changeS (viewS s x.view)))) 0 = awayS s x.view from by unfold awayS;rw [if_pos HLT.out])
        rw [EA.out] at H8
        have hcm : (awayS s x.view).commit = s.commit:=by rw [← EA.out];rfl
        obtain ⟨AL8,cL8,AM8,cM8,AK8,cK8,AB8,cB8,AD8,cD8,AO8,cO8,kb8,hCL8,hcL8⟩:=H8.out.cells
        have x6 : W8.cell? ⟨b,6,none⟩ = some (.int .i64 (awayS s x.view).commit):=(blk_cell kb8 6).trans rfl
        clear kb8
        clear hCL8 hcL8
        have y1 : W8.cell? ⟨w.heap.size,1,none⟩ = some (.int .i64 x.fro):=(blk_cell H8.out.box 1).trans rfl
        rw [hcm] at x6
        clear hcm
        have H5:=Aside0.mk H8.out.drew
        go_still_tail 9,(by kernel_rfl)
        change wpList _ _ _ _ _ W8.drew
        go_wp2_with ((go_at_call 46;refine(tell.calls b gd (fun k=>P k∧k ≠ w.heap.size) (awayS s x.view) ([]) (askForM x.fro s.commit) none 0 _ H5.out.mac H5.out.fresh H5.out.hg (Kd.R_nil _ _ _ _ _) (by simp)).mono ?_;rintro e w9 ⟨rfl,hk9,hm9⟩;have H9:=Aside0.mk (H5.out.step hk9.tells hm9);clear hk9 hm9))
        (first|go_end0|refine bodyPost_ret (results_none rfl _ _ _) rfl ?_)
        have e : onPrepareR s x = .ok (awayS s x.view,[tellM (awayS s x.view) (askForM x.fro s.commit)]):=by unfold onPrepareR;rw [if_pos HP.out,if_neg (by rw [HH.out];simp)]
        rw [e]
        exact⟨H9.out.keeps,rfl,H9.out.fin⟩
      · have d1 : decide (s.view < x.view) = false:=decide_eq_false hlt
        have HLT:=Aside0.mk (show ¬ (s.view < x.view)∧True from⟨hlt,trivial⟩)
        clear hlt
        go_quiet (fail)
        go_upto_region 7 with (fail)
        have H3:=Aside0.mk (H2.out.drewN nq)
        clear H1 H2 x2 y3
        generalize w1.drewN nq = W3 at *
        obtain ⟨AL7,cL7,AM7,cM7,AK7,cK7,AB7,cB7,AD7,cD7,AO7,cO7,kb7,hCL7,hcL7⟩:=H3.out.cells
        have x11 : W3.cell? ⟨b,11,none⟩ = some (.int .i64 s.elapsed):=(blk_cell kb7 11).trans rfl
        have fx11:=blk_frozen kb7 11
        clear kb7
        clear hCL7 hcL7
        have H8:=Aside0.mk (H3.out.elapsed 0)
        go_upto_region 8 with (fail)
        clear x11 fx11
        generalize W3.setCell ⟨b,11,none⟩ (.int .i64 0) = W8 at *
        have EA:=Aside0.mk (show elS (s) 0 = awayS s x.view from by unfold awayS;rw [if_neg HLT.out.1])
        rw [EA.out] at H8
        have hcm : (awayS s x.view).commit = s.commit:=by rw [← EA.out];rfl
        obtain ⟨AL8,cL8,AM8,cM8,AK8,cK8,AB8,cB8,AD8,cD8,AO8,cO8,kb8,hCL8,hcL8⟩:=H8.out.cells
        have x6 : W8.cell? ⟨b,6,none⟩ = some (.int .i64 (awayS s x.view).commit):=(blk_cell kb8 6).trans rfl
        clear kb8
        clear hCL8 hcL8
        have y1 : W8.cell? ⟨w.heap.size,1,none⟩ = some (.int .i64 x.fro):=(blk_cell H8.out.box 1).trans rfl
        rw [hcm] at x6
        clear hcm
        have H5:=Aside0.mk H8.out.drew
        go_still_tail 9,(by kernel_rfl)
        change wpList _ _ _ _ _ W8.drew
        go_wp2_with ((go_at_call 46;refine(tell.calls b gd (fun k=>P k∧k ≠ w.heap.size) (awayS s x.view) ([]) (askForM x.fro s.commit) none 0 _ H5.out.mac H5.out.fresh H5.out.hg (Kd.R_nil _ _ _ _ _) (by simp)).mono ?_;rintro e w9 ⟨rfl,hk9,hm9⟩;have H9:=Aside0.mk (H5.out.step hk9.tells hm9);clear hk9 hm9))
        (first|go_end0|refine bodyPost_ret (results_none rfl _ _ _) rfl ?_)
        have e : onPrepareR s x = .ok (awayS s x.view,[tellM (awayS s x.view) (askForM x.fro s.commit)]):=by unfold onPrepareR;rw [if_pos HP.out,if_neg (by rw [HH.out];simp)]
        rw [e]
        exact⟨H9.out.keeps,rfl,H9.out.fin⟩
  · have b0 : (x.view.tmod s.n == x.fro) = false:=beq_eq_false_iff_ne.mpr hp
    have b1 : (x.view.tmod s.n != x.fro) = true:=bne_iff_ne.mpr hp
    have HP:=Aside0.mk (show ¬ (x.view.tmod s.n = x.fro)∧True from⟨hp,trivial⟩)
    clear hp
    go_still_tail 12,(by kernel_rfl)
    change wpList _ _ _ _ _ W0.drew
    go_wp2_with ((go_at_call_of 44 (Value.bool true);refine(fail_bad.calls _ _ _).mono ?_;rintro e w' ⟨rfl,hw'⟩;have hw':=hw'.symm;subst hw'))
    have e : onPrepareR s x = .error 9:=by unfold onPrepareR;rw [if_neg HP.out.1]
    rw [e]
    exact⟨rfl,H1.out.keeps,rfl⟩
end Go.Proofs.Ytojjnifbnppliaa.T
end
section
namespace Go.Proofs.Ytojjnifbnppliaa.T
open Go.RowKit Go.Proofs.YtojjnifbnppliaaW.PrintWords Go.Proofs.YtojjnifbnppliaaW.PrintLast Go.Proofs.YtojjnifbnppliaaW.PrintMore
attribute [local go_sem] max2_int min2_int max_two min_two max_three min_three max_four min_four
set_option linter.unusedVariables false
set_option linter.unusedSimpArgs false
def bringL (s : St) (x : Ms) : List (List Int):=s.log.take x.prev.toNat ++ x.log
def bringS (s : St) (x : Ms) : St:=settledS (viewS s x.view) (bringL s x) x.commit
def onBringR (s : St) (x : Ms) : Except Int (St × List Ms):=if x.prev + (x.log.length : Int) < x.commit then .error 4 else if hereV s.status s.view x.view = true then(if x.view.tmod s.n = s.id then .error 9 else if x.prev ≤ s.log.length then(match extR s x with|.error c=>.error c|.ok y=>.ok (y.1,y.2 ++ [tellM y.1 (ansM y.1 x.fro)])) else .ok (s,[])) else if x.prev ≤ s.commit then(if x.view.tmod s.n = s.id then .error 9 else if 512 < (bringL s x).length then .error 51 else match settledE (viewS s x.view) (bringL s x) with|some c=>.error c|none=>.ok (bringS s x,[tellM (bringS s x) (ansM (bringS s x) (x.view.tmod s.n))])) else .ok (s,[])
set_option maxHeartbeats 8000000 in
set_option maxRecDepth 100000 in
theorem onBring.mac (b gd : Nat) (P : Nat→Prop) (s : St) (x : Ms) (AX : Option Addr) (cX : Nat) (w : World) (hM : Mac w b gd P s []) (hP : ∀ k,w.heap.size ≤ k→P k) (hg : ¬ P gd∧gd ≠ b) (hPb : ¬ P b) (hc : Chk s) (hx : MsgOk s.id s.n x) (hv : s.view ≤ x.view) (hX : ∀ W,Keeps w W (fun k=>k = b∨P k)→Kd.C (Kd.slice 5 (Kd.int .u8)) W AX x.log.length x.log) (hcX : x.log.length ≤ cX) :
    Calls Try.prog 53 #[.pointer (some ⟨b,0,none⟩),.agg #[.int .i64 x.kind,.int .i64 x.fro,.int .i64 x.dst,.int .i64 x.view,.int .i64 x.last,.int .i64 x.prev,.slice AX x.log.length cX,.int .i64 x.commit,.int .i64 x.mat]] w fun e w'=>Keeps w w' (fun k=>k = b∨P k)∧EndsR (onBringR s x) e (fun s' ms=>Mac w' b gd P s' ms):=by
  have H0:=Aside0.mk (HB.init hM hP hg hPb hX hcX)
  have HQ:=Aside0.mk (And.intro hc (And.intro hx hv))
  have hu29:=Try.underlying29
  have hu25:=Try.underlying25
  have hu26:=Try.underlying26
  have hu27:=Try.underlying27
  have hu61:=Try.underlying61
  have hu37:=Try.underlying37
  have hu69:=Try.underlying69
  have hu23:=Try.underlying23
  have ne1 : ¬ (b = w.heap.size):=H0.out.hne
  have ne2 : ¬ (w.heap.size = b):=fun e=>H0.out.hne e.symm
  clear hM hP hg hPb hc hx hv hX hcX
  have hn0 : s.n ≠ 0:=by have:=HQ.out.1.n;omega
  have c2b0 : (s.n == 0) = false:=beq_eq_false_iff_ne.mpr hn0
  have c2b1 : (s.n != 0) = true:=bne_iff_ne.mpr hn0
  go_enter Try.func53,Try.ntmps53
  go_upto_region 1 with (fail)
  generalize hW0 : (w.alloc (.cells #[.int .i64 x.kind,.int .i64 x.fro,.int .i64 x.dst,.int .i64 x.view,.int .i64 x.last,.int .i64 x.prev,.slice AX x.log.length cX,.int .i64 x.commit,.int .i64 x.mat] 37)) = W0 at *
  clear hW0
  have y5 : W0.cell? ⟨w.heap.size,5,none⟩ = some (.int .i64 x.prev):=(blk_cell H0.out.box 5).trans rfl
  have y6 : W0.cell? ⟨w.heap.size,6,none⟩ = some (.slice AX x.log.length cX):=(blk_cell H0.out.box 6).trans rfl
  have y7 : W0.cell? ⟨w.heap.size,7,none⟩ = some (.int .i64 x.commit):=(blk_cell H0.out.box 7).trans rfl
  have hx:=HQ.out.2.1
  have h5:=wi_le hx.prev
  have h6:=hx.len
  have hw : wrap64 (x.prev + (x.log.length : Int)) = x.prev + (x.log.length : Int):=by unfold wrap64;omega
  clear hx h5 h6
  by_cases hcm : x.prev + (x.log.length : Int) < x.commit
  · have d1 : decide (x.prev + (x.log.length : Int) < x.commit) = true:=decide_eq_true hcm
    have HCM:=Aside0.mk hcm
    clear hcm
    go_wp2_with ((go_at_call_of 44 (Value.bool true);refine(fail_bad.calls _ _ _).mono ?_;rintro e w' ⟨rfl,hw'⟩;have hw':=hw'.symm;subst hw'))
    have e : onBringR s x = .error 4:=by unfold onBringR;rw [if_pos HCM.out]
    rw [e]
    exact⟨rfl,H0.out.keeps,rfl⟩
  · have d1 : decide (x.prev + (x.log.length : Int) < x.commit) = false:=decide_eq_false hcm
    have HCM:=Aside0.mk (show ¬ (x.prev + (x.log.length : Int) < x.commit)∧True from⟨hcm,trivial⟩)
    clear hcm
    obtain ⟨AL,cL,AM,cM,AK,cK,AB,cB,AD,cD,AO,cO,kb,hCL,hcL⟩:=H0.out.cells
    have x1 : W0.cell? ⟨b,1,none⟩ = some (.int .i64 s.n):=(blk_cell kb 1).trans rfl
    clear kb
    clear hCL hcL
    have y3 : W0.cell? ⟨w.heap.size,3,none⟩ = some (.int .i64 x.view):=(blk_cell H0.out.box 3).trans rfl
    go_upto_region 2 with ((go_at_call_of 44 (Value.bool false);refine(fail_ok.calls _ _ _).mono ?_;rintro e w' ⟨rfl,hw'⟩;have hw':=hw'.symm;subst hw'))
    go_quiet (fail)
    go_upto_region 3 with (fail)
    have H1:=Aside0.mk (H0.out.drewN nq)
    clear H0 x1 y3 y5 y6 y7 d1 hw
    generalize W0.drewN nq = W1 at *
    obtain ⟨AL,cL,AM,cM,AK,cK,AB,cB,AD,cD,AO,cO,kb,hCL,hcL⟩:=H1.out.cells
    have x2 : W1.cell? ⟨b,2,none⟩ = some (.int .i64 s.view):=(blk_cell kb 2).trans rfl
    have x4 : W1.cell? ⟨b,4,none⟩ = some (.int .i64 s.status):=(blk_cell kb 4).trans rfl
    clear kb
    have y0 : W1.cell? ⟨w.heap.size,0,none⟩ = some (.int .i64 x.kind):=(blk_cell H1.out.box 0).trans rfl
    have y1 : W1.cell? ⟨w.heap.size,1,none⟩ = some (.int .i64 x.fro):=(blk_cell H1.out.box 1).trans rfl
    have y2 : W1.cell? ⟨w.heap.size,2,none⟩ = some (.int .i64 x.dst):=(blk_cell H1.out.box 2).trans rfl
    have y3 : W1.cell? ⟨w.heap.size,3,none⟩ = some (.int .i64 x.view):=(blk_cell H1.out.box 3).trans rfl
    have y4 : W1.cell? ⟨w.heap.size,4,none⟩ = some (.int .i64 x.last):=(blk_cell H1.out.box 4).trans rfl
    have y5 : W1.cell? ⟨w.heap.size,5,none⟩ = some (.int .i64 x.prev):=(blk_cell H1.out.box 5).trans rfl
    have y6 : W1.cell? ⟨w.heap.size,6,none⟩ = some (.slice AX x.log.length cX):=(blk_cell H1.out.box 6).trans rfl
    have y7 : W1.cell? ⟨w.heap.size,7,none⟩ = some (.int .i64 x.commit):=(blk_cell H1.out.box 7).trans rfl
    have y8 : W1.cell? ⟨w.heap.size,8,none⟩ = some (.int .i64 x.mat):=(blk_cell H1.out.box 8).trans rfl
    clear hCL hcL
    cases hh : hereV s.status s.view x.view with
    | true =>
      have HH:=Aside0.mk hh
      clear hh
      go_upto_region 4 with ((go_at_call 64;refine(here.calls b s.status s.view x (.slice AX x.log.length cX) W1 x2 x4 AX cX).mono ?_;rw [HH.out];rintro e w1 ⟨rfl,hb1⟩;have H2:=Aside0.mk (H1.out.below hb1);clear hb1))
      clear x2 x4 y0 y1 y2 y3 y4 y5 y6 y7 y8
      obtain ⟨AL2,cL2,AM2,cM2,AK2,cK2,AB2,cB2,AD2,cD2,AO2,cO2,kb2,hCL2,hcL2⟩:=H2.out.cells
      have x0 : w1.cell? ⟨b,0,none⟩ = some (.int .i64 s.id):=(blk_cell kb2 0).trans rfl
      clear kb2
      clear hCL2 hcL2
      by_cases hp : x.view.tmod s.n = s.id
      · have b0 : (x.view.tmod s.n == s.id) = true:=beq_iff_eq.mpr hp
        have HP:=Aside0.mk hp
        clear hp
        go_wp2_with ((go_at_call_of 44 (Value.bool true);refine(fail_bad.calls _ _ _).mono ?_;rintro e w' ⟨rfl,hw'⟩;have hw':=hw'.symm;subst hw'))
        have e : onBringR s x = .error 9:=by unfold onBringR;rw [if_neg (by have:=HCM.out.1;omega),if_pos HH.out,if_pos HP.out]
        rw [e]
        exact⟨rfl,H2.out.keeps,rfl⟩
      · have b0 : (x.view.tmod s.n == s.id) = false:=beq_eq_false_iff_ne.mpr hp
        have HP:=Aside0.mk (show ¬ (x.view.tmod s.n = s.id)∧True from⟨hp,trivial⟩)
        clear hp
        go_upto_region 5 with ((go_at_call_of 44 (Value.bool false);refine(fail_ok.calls _ _ _).mono ?_;rintro e w' ⟨rfl,hw'⟩;have hw':=hw'.symm;subst hw'))
        clear x0 b0
        obtain ⟨AL3,cL3,AM3,cM3,AK3,cK3,AB3,cB3,AD3,cD3,AO3,cO3,kb3,hCL3,hcL3⟩:=H2.out.cells
        have x5 : w1.cell? ⟨b,5,none⟩ = some (.slice AL3 s.log.length cL3):=(blk_cell kb3 5).trans rfl
        clear kb3
        clear hCL3 hcL3
        have y5 : w1.cell? ⟨w.heap.size,5,none⟩ = some (.int .i64 x.prev):=(blk_cell H2.out.box 5).trans rfl
        by_cases hlt : x.prev ≤ (s.log.length : Int)
        · have d1 : decide (x.prev ≤ (s.log.length : Int)) = true:=decide_eq_true hlt
          have HLT:=Aside0.mk hlt
          have EO:=Aside0.mk (HQ.out.1.ext HQ.out.2.1 (here_status HH.out) hlt)
          clear hlt
          go_quiet (fail)
          go_upto_region 6 with (fail)
          have H4:=Aside0.mk (H2.out.drewN nq)
          clear H1 H2 x5 y5
          generalize w1.drewN nq = W4 at *
          have y0 : W4.cell? ⟨w.heap.size,0,none⟩ = some (.int .i64 x.kind):=(blk_cell H4.out.box 0).trans rfl
          have y1 : W4.cell? ⟨w.heap.size,1,none⟩ = some (.int .i64 x.fro):=(blk_cell H4.out.box 1).trans rfl
          have y2 : W4.cell? ⟨w.heap.size,2,none⟩ = some (.int .i64 x.dst):=(blk_cell H4.out.box 2).trans rfl
          have y3 : W4.cell? ⟨w.heap.size,3,none⟩ = some (.int .i64 x.view):=(blk_cell H4.out.box 3).trans rfl
          have y4 : W4.cell? ⟨w.heap.size,4,none⟩ = some (.int .i64 x.last):=(blk_cell H4.out.box 4).trans rfl
          have y5 : W4.cell? ⟨w.heap.size,5,none⟩ = some (.int .i64 x.prev):=(blk_cell H4.out.box 5).trans rfl
          have y6 : W4.cell? ⟨w.heap.size,6,none⟩ = some (.slice AX x.log.length cX):=(blk_cell H4.out.box 6).trans rfl
          have y7 : W4.cell? ⟨w.heap.size,7,none⟩ = some (.int .i64 x.commit):=(blk_cell H4.out.box 7).trans rfl
          have y8 : W4.cell? ⟨w.heap.size,8,none⟩ = some (.int .i64 x.mat):=(blk_cell H4.out.box 8).trans rfl
          cases hr : extR s x with
          | error code =>
            have HR:=Aside0.mk hr
            clear hr
            go_wp2_with ((go_at_call 65;refine(extend.mac b gd (fun k=>P k∧k ≠ w.heap.size) (s) [] x AX cX _ H4.out.mac H4.out.fresh H4.out.hg H4.out.hPb EO.out rfl H4.out.hX H4.out.hcX).mono ?_;rw [HR.out];rintro e w6 ⟨hk6,he⟩;have H6:=Aside0.mk hk6;have he2 : e = .panicked [{ v:=.iface 30 (.int .i64 code),recovered:=false }]:=he;subst he2;clear hk6 he))
            have e : onBringR s x = .error code:=by unfold onBringR;rw [if_neg (by have:=HCM.out.1;omega),if_pos HH.out,if_neg HP.out.1,if_pos HLT.out,HR.out]
            rw [e]
            exact⟨rfl,H4.out.keeps.trans' H6.out (fun k hk=>.inl (hk.imp id (fun h=>h.1))),rfl⟩
          | ok y =>
            have HMS:=Aside0.mk (extR_ms hr)
            have HR:=Aside0.mk hr
            clear hr
            go_upto_region 7 with ((go_at_call 65;refine(extend.mac b gd (fun k=>P k∧k ≠ w.heap.size) (s) [] x AX cX _ H4.out.mac H4.out.fresh H4.out.hg H4.out.hPb EO.out rfl H4.out.hX H4.out.hcX).mono ?_;rw [HR.out];rintro e w6 ⟨hk6,he⟩;have H6:=Aside0.mk (And.intro hk6 he.2);have he2 : e = .returned (.tuple #[]):=he.1;subst he2;clear hk6 he))
            have H7:=Aside0.mk (H4.out.step H6.out.1 (s1:=y.1) (out1:=y.2) H6.out.2)
            clear H4 H6 y0 y1 y2 y3 y4 y5 y6 y7 y8
            have y1 : w6.cell? ⟨w.heap.size,1,none⟩ = some (.int .i64 x.fro):=(blk_cell H7.out.box 1).trans rfl
            go_wp2_with ((go_at_call 66;refine(answer.mac b gd (fun k=>P k∧k ≠ w.heap.size) (y.1) (y.2) x.fro _ H7.out.mac H7.out.fresh H7.out.hg (by rw [HMS.out];simp)).mono ?_;rintro e w9 ⟨rfl,hk9,hm9⟩;have H9:=Aside0.mk (H7.out.step hk9 hm9);clear hk9 hm9))
            (first|go_end0|refine bodyPost_ret (results_none rfl _ _ _) rfl ?_)
            have e : onBringR s x = .ok (y.1,y.2 ++ [tellM y.1 (ansM y.1 x.fro)]):=by unfold onBringR;rw [if_neg (by have:=HCM.out.1;omega),if_pos HH.out,if_neg HP.out.1,if_pos HLT.out,HR.out]
            rw [e]
            exact⟨H9.out.keeps,rfl,H9.out.fin⟩
        · have d1 : decide (x.prev ≤ (s.log.length : Int)) = false:=decide_eq_false hlt
          have HLT:=Aside0.mk (show ¬ (x.prev ≤ (s.log.length : Int))∧True from⟨hlt,trivial⟩)
          clear hlt
          go_quiet (fail)
          go_wp2
          (first|go_end0|refine bodyPost_ret (results_none rfl _ _ _) rfl ?_)
          have e : onBringR s x = .ok (s,[]):=by unfold onBringR;rw [if_neg (by have:=HCM.out.1;omega),if_pos HH.out,if_neg HP.out.1,if_neg (by have:=HLT.out.1;omega)]
          rw [e]
          exact⟨(H2.out.drewN _).keeps,rfl,(H2.out.drewN _).fin⟩
    | false =>
      have HH:=Aside0.mk hh
      clear hh
      go_upto_region 8 with ((go_at_call 64;refine(here.calls b s.status s.view x (.slice AX x.log.length cX) W1 x2 x4 AX cX).mono ?_;rw [HH.out];rintro e w1 ⟨rfl,hb1⟩;have H2:=Aside0.mk (H1.out.below hb1);clear hb1))
      clear x2 x4 y0 y1 y2 y3 y4 y5 y6 y7 y8
      obtain ⟨AL2,cL2,AM2,cM2,AK2,cK2,AB2,cB2,AD2,cD2,AO2,cO2,kb2,hCL2,hcL2⟩:=H2.out.cells
      have x6 : w1.cell? ⟨b,6,none⟩ = some (.int .i64 s.commit):=(blk_cell kb2 6).trans rfl
      clear kb2
      clear hCL2 hcL2
      have y5 : w1.cell? ⟨w.heap.size,5,none⟩ = some (.int .i64 x.prev):=(blk_cell H2.out.box 5).trans rfl
      by_cases hlt : x.prev ≤ s.commit
      · have d1 : decide (x.prev ≤ s.commit) = true:=decide_eq_true hlt
        have HLT:=Aside0.mk hlt
        clear hlt
        go_quiet (fail)
        go_upto_region 9 with (fail)
        have H3:=Aside0.mk (H2.out.drewN nq)
        clear H1 H2 x6 y5
        generalize w1.drewN nq = W3 at *
        obtain ⟨AL3,cL3,AM3,cM3,AK3,cK3,AB3,cB3,AD3,cD3,AO3,cO3,kb3,hCL3,hcL3⟩:=H3.out.cells
        have x0 : W3.cell? ⟨b,0,none⟩ = some (.int .i64 s.id):=(blk_cell kb3 0).trans rfl
        clear kb3
        clear hCL3 hcL3
        by_cases hp : x.view.tmod s.n = s.id
        · have b0 : (x.view.tmod s.n == s.id) = true:=beq_iff_eq.mpr hp
          have HP:=Aside0.mk hp
          clear hp
          go_wp2_with ((go_at_call_of 44 (Value.bool true);refine(fail_bad.calls _ _ _).mono ?_;rintro e w' ⟨rfl,hw'⟩;have hw':=hw'.symm;subst hw'))
          have e : onBringR s x = .error 9:=by unfold onBringR;rw [if_neg (by have:=HCM.out.1;omega),if_neg (by rw [HH.out];simp),if_pos HLT.out,if_pos HP.out]
          rw [e]
          exact⟨rfl,H3.out.keeps,rfl⟩
        · have b0 : (x.view.tmod s.n == s.id) = false:=beq_eq_false_iff_ne.mpr hp
          have HP:=Aside0.mk (show ¬ (x.view.tmod s.n = s.id)∧True from⟨hp,trivial⟩)
          clear hp
          go_upto_region 10 with ((go_at_call_of 44 (Value.bool false);refine(fail_ok.calls _ _ _).mono ?_;rintro e w' ⟨rfl,hw'⟩;have hw':=hw'.symm;subst hw'))
          clear x0 b0
          obtain ⟨AL4,cL4,AM4,cM4,AK4,cK4,AB4,cB4,AD4,cD4,AO4,cO4,kb4,hCL4,hcL4⟩:=H3.out.cells
          have x5 : W3.cell? ⟨b,5,none⟩ = some (.slice AL4 s.log.length cL4):=(blk_cell kb4 5).trans rfl
          clear kb4
          have y5 : W3.cell? ⟨w.heap.size,5,none⟩ = some (.int .i64 x.prev):=(blk_cell H3.out.box 5).trans rfl
          have y6 : W3.cell? ⟨w.heap.size,6,none⟩ = some (.slice AX x.log.length cX):=(blk_cell H3.out.box 6).trans rfl
          have HL:=Aside0.mk (And.intro hCL4 hcL4)
          obtain ⟨j0,hj0,_,hsz,_⟩:=info_parts info22
          have hpv:=wi_le HQ.out.2.1.prev
          have hcs:=HQ.out.1.commit
          have hple : x.prev ≤ (s.log.length : Int):=by have:=HLT.out;omega
          have hfit:=mayLog_fit HQ.out.1.log
          have hcut:=cut_to (P:=Try.prog) 25 22 .i64 Try.underlying25 hj0 AL4 s.log.length cL4 x.prev hpv.1 hple hcL4
          obtain ⟨ys,hys⟩ : ∃ ys,s.log.take x.prev.toNat = ys:=⟨_,rfl⟩
          have hyl : x.prev.toNat = ys.length:=by rw [← hys,List.length_take];omega
          rw [hyl] at hcut
          have HY:=Aside0.mk (show Kd.C (Kd.slice 5 (Kd.int .u8)) W3 AL4 ys.length ys∧FitsL ys∧bringL s x = ys ++ x.log∧ys.length ≤ 512 from⟨by
              have:=Kd.C_take (m:=x.prev.toNat) HL.out.1 (by omega)
              rw [hys] at this
              exact this,⟨by have:=hfit.2;omega,fun y hy=>hfit.1.2 y (by rw [← hys] at hy;exact List.mem_of_mem_take hy)⟩,by unfold bringL;rw [hys],by have:=hfit.2;omega⟩)
          clear hyl hys hj0 hsz hpv hfit HL hCL4 hcL4 hcs hple
          go_region_held3 (fun W'=>W'.cell? ⟨b,5,none⟩ = some (.slice AL4 s.log.length cL4)∧W'.cell? ⟨w.heap.size,5,none⟩ = some (.int .i64 x.prev)∧W'.cell? ⟨w.heap.size,6,none⟩ = some (.slice AX x.log.length cX)) (go_keep) ((first|(go_at_call_of 41 (Value.slice AL4 ys.length cL4);refine(cloneLog.calls AL4 cL4 ys W3.drew (Kd.C_drew HY.out.1) HY.out.2.1.1 HY.out.2.1.2).mono ?_;rintro e w2 ⟨v,rfl,hR2,hb2⟩;obtain ⟨A2,c2,rfl⟩:=Kd.R_slice hR2;have q5:=(hb2.cell (World.block_lt_of_cell? _ _ x5)).trans x5;have p5:=(hb2.cell (World.block_lt_of_cell? _ _ y5)).trans y5;have p6:=(hb2.cell (World.block_lt_of_cell? _ _ y6)).trans y6;have C2:=Aside0.mk (And.intro hR2 hb2);clear hR2 hb2)|(go_at_call_of 41 (Value.slice AX x.log.length cX);refine(cloneLog.calls AX cX x.log w2 (Kd.C_below (Kd.C_drew H3.out.xnow) C2.out.2) (mayLog_fit HQ.out.2.1.log).1.1 (mayLog_fit HQ.out.2.1.log).1.2).mono ?_;rintro e w3 ⟨v,rfl,hR3,hb3⟩;obtain ⟨A3,c3,rfl⟩:=Kd.R_slice hR3;have r5:=(hb3.cell (World.block_lt_of_cell? _ _ q5)).trans q5;have s5:=(hb3.cell (World.block_lt_of_cell? _ _ p5)).trans p5;have s6:=(hb3.cell (World.block_lt_of_cell? _ _ p6)).trans p6;have hrow:=Kd.R_mono (Kd.R_lower (Kd.R_bound hR3) (Nat.zero_le _)) (ok':=fun k=>w2.heap.size ≤ k) (fun k hk=>hk.2.1);have hrd:=R_readsRow hrow;have C3:=Aside0.mk (show ReadsRow ((Kd.slice 5 (Kd.int .u8)).M w3 0 (fun k=>w2.heap.size ≤ k∧some k ≠ (Value.slice A3 x.log.length c3).ownBlock)) 1 w3 A3 x.log.length x.log∧Below W3.heap.size W3 w3∧(Kd.slice 5 (Kd.int .u8)).R 22 w3 0 (fun k=>W3.heap.size ≤ k∧k < w2.heap.size) (.slice A2 ys.length c2) ys∧W3.heap.size ≤ w2.heap.size∧w2.heap.size ≤ w3.heap.size from⟨hrd,((below_drew (Below.refl W3.heap.size W3)).trans C2.out.2).trans (hb3.mono C2.out.2.size),Kd.R_mono (Kd.R_below (Kd.R_lower (Kd.R_bound C2.out.1) (Nat.zero_le _)) hb3) (fun k hk=>⟨by have:=hk.2.1;simpa using this,hk.2.2.1⟩),C2.out.2.size,hb3.size⟩);clear hR3 hb3 hrow hrd)|(refine Kd.R_append_rows_step (Kd.slice 5 (Kd.int .u8)) (Rr:=(Kd.slice 5 (Kd.int .u8)).M w3 0 (fun k=>w2.heap.size ≤ k∧some k ≠ (Value.slice A3 x.log.length c3).ownBlock)) (w0:=w3) 0 (by rfl) (.tmp 80) (.tmp 83) 25 22 (.slice none 0 0) 24 (by rfl) Try.underlying25 info22 rfl (by decide) (by omega) (.slice A2 ys.length c2) ys x.log A3 x.log.length c3 (fun k=>W3.heap.size ≤ k) (fun k=>w2.heap.size ≤ k∧some k ≠ (Value.slice A3 x.log.length c3).ownBlock) (by rfl) (by rfl) (Kd.R_mono C3.out.2.2.1 (fun k hk=>hk.1)) C3.out.1 (fun _ _ h=>h) (fun k hk=>⟨by have:=C3.out.2.2.2.1;have:=hk.1;omega,fun e=>by have:=(C3.out.2.2.1.1 k e.symm).2;have:=hk.1;omega⟩) (fun k hk=>by have:=C3.out.2.2.2;omega) (Below.refl _ _) (Nat.zero_le _) (by have:=HY.out.2.2.2;have:=HQ.out.2.1.len;omega) ?_;intro v1 w4 ho hb4 hg4 hat;obtain ⟨A4,c4,rfl⟩:=Kd.R_slice ho;have hb5:=C3.out.2.1.grown hg4 C3.out.2.1.size (fun k hk=>(C3.out.2.2.1.1 k hk).1);have t5:=(hb5.cell (World.block_lt_of_cell? _ _ x5)).trans x5;have u5:=(hb5.cell (World.block_lt_of_cell? _ _ y5)).trans y5;have u6:=(hb5.cell (World.block_lt_of_cell? _ _ y6)).trans y6;have G4:=Aside0.mk (And.intro ho hb5);clear ho hb4 hg4 hat hb5)))
          all_goals
            try (rename_i hHeld;clear hHeld)
            have eL : (ys ++ x.log).length = ys.length + x.log.length:=List.length_append
            have H4:=Aside0.mk (H3.out.below G4.out.2)
            have HR4:=Aside0.mk G4.out.1
            have HFL:=Aside0.mk (show ∀ y ∈ ys ++ x.log,y.length < 140737488355328 from fun y hy=>(List.mem_append.1 hy).elim (HY.out.2.1.2 y) ((mayLog_fit HQ.out.2.1.log).1.2 y))
            clear C2 C3 G4 H3 q5 p5 p6 r5 s5 s6 t5 u5 u6 x5 y5 y6 hcut
            obtain ⟨l,hl⟩ : ∃ l,bringL s x = l:=⟨_,rfl⟩
            have HLL:=Aside0.mk (And.intro hl HY.out.2.2.1)
            go_upto_region 11 with (fail)
            rw [← eL]
            rw [← HLL.out.2,hl] at HR4 HFL ⊢
            clear eL hl
            obtain ⟨AL5,cL5,AM5,cM5,AK5,cK5,AB5,cB5,AD5,cD5,AO5,cO5,kb5,hCL5,hcL5⟩:=H4.out.cells
            have x2 : w4.cell? ⟨b,2,none⟩ = some (.int .i64 s.view):=(blk_cell kb5 2).trans rfl
            have fx2:=blk_frozen kb5 2
            clear hCL5 hcL5
            have y3 : w4.cell? ⟨w.heap.size,3,none⟩ = some (.int .i64 x.view):=(blk_cell H4.out.box 3).trans rfl
            by_cases hbig : 512 < l.length
            · have d2 : decide (512 < (l.length : Int)) = true:=decide_eq_true (by omega)
              have d3 : decide (512 < l.length) = true:=decide_eq_true hbig
              have HB2:=Aside0.mk hbig
              clear hbig
              go_wp2_with ((go_at_call_of 44 (Value.bool true);refine(fail_bad.calls _ _ _).mono ?_;rintro e w' ⟨rfl,hw'⟩;have hw':=hw'.symm;subst hw'))
              have e : onBringR s x = .error 51:=by unfold onBringR;rw [if_neg (by have:=HCM.out.1;omega),if_neg (by rw [HH.out];simp),if_pos HLT.out,if_neg HP.out.1,HLL.out.1,if_pos HB2.out]
              rw [e]
              exact⟨rfl,H4.out.keeps,rfl⟩
            · have d2 : decide (512 < (l.length : Int)) = false:=decide_eq_false (by omega)
              have d3 : decide (512 < l.length) = false:=decide_eq_false hbig
              have HB2:=Aside0.mk (show ¬ (512 < l.length)∧True from⟨hbig,trivial⟩)
              have HFF:=Aside0.mk (show FitsL l from⟨by omega,HFL.out⟩)
              clear hbig
              have H5:=Aside0.mk (H4.out.view x.view)
              have HR5:=Aside0.mk (Kd.R_reads' (Kd.R_set HR4.out kb5 (by decide) 2 (.int .i64 x.view))).2.2
              go_upto_region 13 with ((go_at_call_of 44 (Value.bool false);refine(fail_ok.calls _ _ _).mono ?_;rintro e w' ⟨rfl,hw'⟩;have hw':=hw'.symm;subst hw'))
              clear x2 fx2 y3 kb5 H4 HR4 d2 d3
              generalize w4.setCell ⟨b,2,none⟩ (.int .i64 x.view) = W5 at *
              have y7 : W5.cell? ⟨w.heap.size,7,none⟩ = some (.int .i64 x.commit):=(blk_cell H5.out.box 7).trans rfl
              cases hse : settledE (viewS s x.view) l with
              | some code =>
                have HSE:=Aside0.mk hse
                clear hse
                go_wp2_with ((go_at_call 68;refine(settled.mac b gd (fun k=>P k∧k ≠ w.heap.size) (viewS s x.view) [] A4 c4 l x.commit _ H5.out.mac H5.out.fresh H5.out.hg HR5.out HFF.out HQ.out.1.commit).mono ?_;rw [HSE.out];rintro e w6 ⟨hk6,he⟩;have H6:=Aside0.mk hk6;have he2 : e = .panicked [{ v:=.iface 30 (.int .i64 code),recovered:=false }]:=he;subst he2;clear hk6 he))
                have e : onBringR s x = .error code:=by unfold onBringR;rw [if_neg (by have:=HCM.out.1;omega),if_neg (by rw [HH.out];simp),if_pos HLT.out,if_neg HP.out.1,HLL.out.1,if_neg (by have:=HB2.out.1;omega),HSE.out]
                rw [e]
                exact⟨rfl,H5.out.keeps.trans' H6.out (fun k hk=>.inl (hk.imp id (fun h=>h.1))),rfl⟩
              | none =>
                have HSE:=Aside0.mk hse
                clear hse
                have HBS:=Aside0.mk (show settledS (viewS s x.view) l x.commit = bringS s x from by unfold bringS;rw [HLL.out.1])
                go_upto_region 14 with ((go_at_call 68;refine(settled.mac b gd (fun k=>P k∧k ≠ w.heap.size) (viewS s x.view) [] A4 c4 l x.commit _ H5.out.mac H5.out.fresh H5.out.hg HR5.out HFF.out HQ.out.1.commit).mono ?_;rw [HSE.out];rintro e w6 ⟨hk6,he⟩;have H6:=Aside0.mk (And.intro hk6 he.2);have he2 : e = .returned (.tuple #[]):=he.1;subst he2;clear hk6 he))
                rw [HBS.out] at H6
                have H7:=Aside0.mk (H5.out.step H6.out.1 H6.out.2)
                clear y7 H5 H6
                go_wp2_with ((go_at_call 66;refine(answer.mac b gd (fun k=>P k∧k ≠ w.heap.size) (bringS s x) ([]) (x.view.tmod s.n) _ H7.out.mac H7.out.fresh H7.out.hg (by simp)).mono ?_;rintro e w9 ⟨rfl,hk9,hm9⟩;have H9:=Aside0.mk (H7.out.step hk9 hm9);clear hk9 hm9))
                (first|go_end0|refine bodyPost_ret (results_none rfl _ _ _) rfl ?_)
                have e : onBringR s x = .ok (bringS s x,[tellM (bringS s x) (ansM (bringS s x) (x.view.tmod s.n))]):=by unfold onBringR;rw [if_neg (by have:=HCM.out.1;omega),if_neg (by rw [HH.out];simp),if_pos HLT.out,if_neg HP.out.1,HLL.out.1,if_neg (by have:=HB2.out.1;omega),HSE.out]
                rw [e]
                exact⟨H9.out.keeps,rfl,H9.out.fin⟩
      · have d1 : decide (x.prev ≤ s.commit) = false:=decide_eq_false hlt
        have HLT:=Aside0.mk (show ¬ (x.prev ≤ s.commit)∧True from⟨hlt,trivial⟩)
        clear hlt
        go_quiet (fail)
        go_wp2
        (first|go_end0|refine bodyPost_ret (results_none rfl _ _ _) rfl ?_)
        have e : onBringR s x = .ok (s,[]):=by unfold onBringR;rw [if_neg (by have:=HCM.out.1;omega),if_neg (by rw [HH.out];simp),if_neg (by have:=HLT.out.1;omega)]
        rw [e]
        exact⟨(H2.out.drewN _).keeps,rfl,(H2.out.drewN _).fin⟩
end Go.Proofs.Ytojjnifbnppliaa.T
end
section
namespace Go.Proofs.Ytojjnifbnppliaa.T
open Go.RowKit Go.Proofs.YtojjnifbnppliaaW.PrintWords Go.Proofs.YtojjnifbnppliaaW.PrintLast Go.Proofs.YtojjnifbnppliaaW.PrintMore
attribute [local go_sem] max2_int min2_int max_two min_two max_three min_three max_four min_four
set_option linter.unusedVariables false
set_option linter.unusedSimpArgs false
/-- A call on its way, without a box. -/
structure TB (w W : World) (b gd : Nat) (P : Nat→Prop) (s : St) (out : List Ms) : Prop where
  keeps : Keeps w W (fun k=>k = b∨P k)
  mac : Mac W b gd P s out
  fresh : ∀ k,W.heap.size ≤ k→P k
section
variable {w W W1 : World} {b gd : Nat} {P : Nat→Prop} {s s1 : St} {out out1 : List Ms}
theorem TB.step (h : TB w W b gd P s out) (hk : Keeps W W1 (fun k=>k = b∨P k)) (hm : Mac W1 b gd P s1 out1) : TB w W1 b gd P s1 out1:=⟨h.keeps.trans hk,hm,fun k hk'=>h.fresh k (Nat.le_trans hk.size hk')⟩
theorem TB.below (h : TB w W b gd P s out) (hb : Below W.heap.size W W1) : TB w W1 b gd P s out:=h.step (Keeps.of_belows hb _) (h.mac.below hb)
theorem TB.drew (h : TB w W b gd P s out) : TB w W.drew b gd P s out:=h.below (below_drew (Below.refl _ _))
theorem TB.drewN (h : TB w W b gd P s out) (m : Nat) : TB w (W.drewN m) b gd P s out:=h.below (pw_below_drewN (Below.refl _ _) m)
theorem TB.elapsed (h : TB w W b gd P s out) (hg : gd ≠ b) (v : Int) : TB w (W.setCell ⟨b,11,none⟩ (.int .i64 v)) b gd P (elS s v) out:=h.step (Keeps.fld 11 _) (h.mac.set_elapsed hg v)
theorem TB.cells (h : TB w W b gd P s out) : ∃ (AL : Option Addr) (cL : Nat) (AM : Option Addr) (cM : Nat) (AK : Option Addr) (cK : Nat) (AB : Option Addr) (cB : Nat) (AD : Option Addr) (cD : Nat) (AO : Option Addr) (cO : Nat),W.heap[b]? = some (.cells #[.int .i64 s.id,.int .i64 s.n,.int .i64 s.view,.int .i64 s.last,.int .i64 s.status,.slice AL s.log.length cL,.int .i64 s.commit,.slice AM s.mat.length cM,.slice AK s.marks.length cK,.bool s.sent,.slice AB s.bals.length cB,.int .i64 s.elapsed,.int .i64 s.timeout,.slice AD s.draws.length cD,.slice AO out.length cO] 61 (0,0))∧Kd.C (Kd.slice 5 (Kd.int .u8)) W AL s.log.length s.log∧s.log.length ≤ cL:=by
  obtain ⟨_,AL,cL,AM,cM,AK,cK,AB,cB,AD,cD,AO,cO,hb,h1,_⟩:=h.mac
  exact⟨AL,cL,AM,cM,AK,cK,AB,cB,AD,cD,AO,cO,hb,(Kd.R_reads' h1).2.2,(Kd.R_reads' h1).2.1⟩
end
def elV (s : St) : Int:=min (s.elapsed + 1) 1073741824
def prevV (s : St) (i : Nat) : Int:=min (s.mat.getD i (0 : Int)) s.log.length
def tickP (s : St) (i : Nat) : Ms:={ kind:=1,fro:=0,dst:=i,view:=0,last:=0,prev:=prevV s i,log:=(s.log.take (min (prevV s i + 8) s.log.length).toNat).drop (prevV s i).toNat,commit:=s.commit,mat:=0 }
def tickM (s : St) (k : Nat) : List Ms:=(othersV s.id k).map fun i=>tellM s (tickP s i.toNat)
theorem tickM_eq {s : St} {k : Nat} (h : ((k : Int) == s.id) = true) : tickM s (k + 1) = tickM s k:=by
  unfold tickM;rw [othersV_step,if_pos h,List.append_nil]
theorem tickM_ne {s : St} {k : Nat} (h : ((k : Int) == s.id) = false) : tickM s (k + 1) = tickM s k ++ [tellM s (tickP s k)]:=by
  unfold tickM;rw [othersV_step,if_neg (by rw [h];simp),List.map_append];rfl
theorem tickM_len (s : St) (k : Nat) : (tickM s k).length ≤ k:=by
  unfold tickM;rw [List.length_map];exact othersV_len _ _
def tickR (s : St) : Except Int (St × List Ms):=if leadsV s.id s.n s.view s.status = true then(if 3 ≤ elV s then .ok (elS s 0,tickM (elS s 0) s.mat.length) else .ok (elS s (elV s),[])) else if s.timeout ≤ elV s then(if 1099511627776 ≤ s.view then .error 4 else enterR (elS s (elV s)) (s.view + 1) []) else .ok (elS s (elV s),[])
set_option maxHeartbeats 8000000 in
set_option maxRecDepth 100000 in
theorem tick.mac (b gd : Nat) (P : Nat→Prop) (s : St) (x : Ms) (AX : Option Addr) (cX : Nat) (A : Option Addr) (c : Nat) (data : List Int) (k : Int) (w : World) (hM : Mac w b gd P s []) (hP : ∀ k,w.heap.size ≤ k→P k) (hg : ¬ P gd∧gd ≠ b) (hPb : ¬ P b) (hc : Chk s) :
    Calls Try.prog 22 #[.pointer (some ⟨b,0,none⟩),.agg #[.int .i64 k,.int .i64 x.kind,.int .i64 x.fro,.int .i64 x.dst,.int .i64 x.view,.int .i64 x.last,.int .i64 x.prev,.slice AX x.log.length cX,.int .i64 x.commit,.int .i64 x.mat,.slice A data.length c]] w fun e w'=>Keeps w w' (fun k=>k = b∨P k)∧EndsR (tickR s) e (fun s' ms=>Mac w' b gd P s' ms):=by
  have H0:=Aside0.mk ((show TB w w b gd P s [] from⟨Keeps.refl w _,hM,hP⟩).below (below_alloc (Below.refl _ _) (.cells #[.int .i64 k,.int .i64 x.kind,.int .i64 x.fro,.int .i64 x.dst,.int .i64 x.view,.int .i64 x.last,.int .i64 x.prev,.slice AX x.log.length cX,.int .i64 x.commit,.int .i64 x.mat,.slice A data.length c] 39)))
  have HQ:=Aside0.mk (And.intro hc (And.intro hg hPb))
  have hu29:=Try.underlying29
  have hu25:=Try.underlying25
  have hu61:=Try.underlying61
  have hu37:=Try.underlying37
  have hu23:=Try.underlying23
  have hn0 : s.n ≠ 0:=by have:=hc.n;omega
  obtain ⟨el,hel⟩ : ∃ el,elV s = el:=⟨_,rfl⟩
  have HEL:=Aside0.mk (show elV s = el∧0 ≤ el∧el ≤ 1073741824 from⟨hel,by rw [← hel];unfold elV;have:=hc.elapsed;omega,by rw [← hel];unfold elV;omega⟩)
  have hw : wrap64 (s.elapsed + 1) = s.elapsed + 1:=by have:=hc.elapsed;unfold wrap64;omega
  have hmm : (if(1073741824 : Int) < s.elapsed + 1 then(1073741824 : Int) else s.elapsed + 1) = el:=by rw [← hel];unfold elV;split <;> omega
  clear hM hP hg hPb hc hel
  go_enter Try.func22,Try.ntmps22
  go_upto_region 1 with (fail)
  generalize hW0 : w.alloc (.cells #[.int .i64 k,.int .i64 x.kind,.int .i64 x.fro,.int .i64 x.dst,.int .i64 x.view,.int .i64 x.last,.int .i64 x.prev,.slice AX x.log.length cX,.int .i64 x.commit,.int .i64 x.mat,.slice A data.length c] 39) = W0 at *
  clear hW0
  obtain ⟨AL,cL,AM,cM,AK,cK,AB,cB,AD,cD,AO,cO,kb,hCL,hcL⟩:=H0.out.cells
  have x11 : W0.cell? ⟨b,11,none⟩ = some (.int .i64 s.elapsed):=(blk_cell kb 11).trans rfl
  have fx11:=blk_frozen kb 11
  clear kb
  clear hCL hcL
  go_upto_region 2 with (fail)
  have H1:=Aside0.mk (H0.out.elapsed HQ.out.2.1.2 el)
  clear x11 fx11 H0 hw hmm
  generalize W0.setCell ⟨b,11,none⟩ (.int .i64 el) = W1 at *
  obtain ⟨AL1,cL1,AM1,cM1,AK1,cK1,AB1,cB1,AD1,cD1,AO1,cO1,kb1,hCL1,hcL1⟩:=H1.out.cells
  have x0 : W1.cell? ⟨b,0,none⟩ = some (.int .i64 s.id):=(blk_cell kb1 0).trans rfl
  have x1 : W1.cell? ⟨b,1,none⟩ = some (.int .i64 s.n):=(blk_cell kb1 1).trans rfl
  have x2 : W1.cell? ⟨b,2,none⟩ = some (.int .i64 s.view):=(blk_cell kb1 2).trans rfl
  have x4 : W1.cell? ⟨b,4,none⟩ = some (.int .i64 s.status):=(blk_cell kb1 4).trans rfl
  have x11 : W1.cell? ⟨b,11,none⟩ = some (.int .i64 el):=(blk_cell kb1 11).trans rfl
  have x12 : W1.cell? ⟨b,12,none⟩ = some (.int .i64 s.timeout):=(blk_cell kb1 12).trans rfl
  clear hCL1 hcL1 kb1
  cases hld : leadsV s.id s.n s.view s.status with
  | false =>
    have HLD:=Aside0.mk hld
    clear hld
    by_cases hto : s.timeout ≤ el
    · have d1 : decide (s.timeout ≤ el) = true:=decide_eq_true hto
      have HTO:=Aside0.mk hto
      clear hto
      first|(go_region_held3 (fun W'=>W'.cell? ⟨b,0,none⟩ = some (.int .i64 s.id)∧W'.cell? ⟨b,1,none⟩ = some (.int .i64 s.n)∧W'.cell? ⟨b,2,none⟩ = some (.int .i64 s.view)∧W'.cell? ⟨b,4,none⟩ = some (.int .i64 s.status)∧W'.cell? ⟨b,11,none⟩ = some (.int .i64 el)∧W'.cell? ⟨b,12,none⟩ = some (.int .i64 s.timeout)) (go_keep) ((first|(go_at_call 16;refine(leads.calls b s.id s.n s.view s.status hn0 W1.drew x0 x1 x2 x4).mono ?_;rw [HLD.out];rintro e w' ⟨rfl,⟨m,rfl⟩⟩))))|fail
      all_goals
        try (rename_i hHeld;clear hHeld)
        go_upto_region 3 with (fail)
        have H2:=Aside0.mk (H1.out.drewN (1 + m))
        clear H1 x0 x1 x2 x4 x11 x12
        generalize W1.drewN (1 + m) = W2 at *
        obtain ⟨AL2,cL2,AM2,cM2,AK2,cK2,AB2,cB2,AD2,cD2,AO2,cO2,kb2,hCL2,hcL2⟩:=H2.out.cells
        have x2 : W2.cell? ⟨b,2,none⟩ = some (.int .i64 s.view):=(blk_cell kb2 2).trans rfl
        clear hCL2 hcL2 kb2
        by_cases hvw : (1099511627776 : Int) ≤ s.view
        · have d2 : decide ((1099511627776 : Int) ≤ s.view) = true:=decide_eq_true hvw
          have HVW:=Aside0.mk hvw
          clear hvw
          go_wp2_with ((go_at_call_of 44 (Value.bool true);refine(fail_bad.calls _ _ _).mono ?_;rintro e w' ⟨rfl,hw'⟩;have hw':=hw'.symm;subst hw'))
          have e : tickR s = .error 4:=by unfold tickR;rw [HEL.out.1,if_neg (by rw [HLD.out];simp),if_pos HTO.out,if_pos HVW.out]
          rw [e]
          exact⟨rfl,H2.out.keeps,rfl⟩
        · have d2 : decide ((1099511627776 : Int) ≤ s.view) = false:=decide_eq_false hvw
          have HVW:=Aside0.mk (show ¬ ((1099511627776 : Int) ≤ s.view)∧True from⟨hvw,trivial⟩)
          have hwv : wrap64 (s.view + 1) = s.view + 1:=by have:=HQ.out.1.view;unfold wrap64;omega
          have EO:=Aside0.mk (show EnterOk (elS s el) from⟨HQ.out.1.n,HQ.out.1.enter.id,HQ.out.1.commit,HQ.out.1.enter.fl⟩)
          clear hvw
          cases hr : enterR (elS s el) (s.view + 1) [] with
          | error code =>
            have HR:=Aside0.mk hr
            clear hr
            go_upto_region 4 with ((go_at_call_of 44 (Value.bool false);refine(fail_ok.calls _ _ _).mono ?_;rintro e w' ⟨rfl,hw'⟩;have hw':=hw'.symm;subst hw'))
            go_wp2_with (first|(rw [hwv];(go_at_call 45;refine(enter.mac b gd P (elS s el) [] (s.view + 1) none 0 [] _ H2.out.mac H2.out.fresh HQ.out.2.1 HQ.out.2.2 EO.out (Nat.zero_le _) (fun W _=>Kd.C_nil _ _) (Nat.zero_le _) (fun i hi=>by cases hi)).mono ?_;rw [HR.out];rintro e w6 ⟨hk6,he⟩;have H6:=Aside0.mk hk6;have he2 : e = .panicked [{ v:=.iface 30 (.int .i64 code),recovered:=false }]:=he;subst he2;clear hk6 he)))
            have e : tickR s = .error code:=by unfold tickR;rw [HEL.out.1,if_neg (by rw [HLD.out];simp),if_pos HTO.out,if_neg (by have:=HVW.out.1;omega),HR.out]
            rw [e]
            exact⟨rfl,H2.out.keeps.trans H6.out,rfl⟩
          | ok y =>
            have HR:=Aside0.mk hr
            clear hr
            go_upto_region 4 with ((go_at_call_of 44 (Value.bool false);refine(fail_ok.calls _ _ _).mono ?_;rintro e w' ⟨rfl,hw'⟩;have hw':=hw'.symm;subst hw'))
            go_wp2_with (first|(rw [hwv];(go_at_call 45;refine(enter.mac b gd P (elS s el) [] (s.view + 1) none 0 [] _ H2.out.mac H2.out.fresh HQ.out.2.1 HQ.out.2.2 EO.out (Nat.zero_le _) (fun W _=>Kd.C_nil _ _) (Nat.zero_le _) (fun i hi=>by cases hi)).mono ?_;rw [HR.out];rintro e w6 ⟨hk6,he⟩;have H6:=Aside0.mk (And.intro hk6 he.2);have he2 : e = .returned (.tuple #[]):=he.1;subst he2;clear hk6 he)))
            (first|go_end0|refine bodyPost_ret (results_none rfl _ _ _) rfl ?_)
            have e : tickR s = .ok y:=by unfold tickR;rw [HEL.out.1,if_neg (by rw [HLD.out];simp),if_pos HTO.out,if_neg (by have:=HVW.out.1;omega),HR.out]
            rw [e]
            exact⟨H2.out.keeps.trans H6.out.1,rfl,H6.out.2⟩
    · have d1 : decide (s.timeout ≤ el) = false:=decide_eq_false hto
      have HTO:=Aside0.mk (show ¬ (s.timeout ≤ el)∧True from⟨hto,trivial⟩)
      clear hto
      first|(go_region_held3 (fun W'=>W'.cell? ⟨b,0,none⟩ = some (.int .i64 s.id)∧W'.cell? ⟨b,1,none⟩ = some (.int .i64 s.n)∧W'.cell? ⟨b,2,none⟩ = some (.int .i64 s.view)∧W'.cell? ⟨b,4,none⟩ = some (.int .i64 s.status)∧W'.cell? ⟨b,11,none⟩ = some (.int .i64 el)∧W'.cell? ⟨b,12,none⟩ = some (.int .i64 s.timeout)) (go_keep) ((first|(go_at_call 16;refine(leads.calls b s.id s.n s.view s.status hn0 W1.drew x0 x1 x2 x4).mono ?_;rw [HLD.out];rintro e w' ⟨rfl,⟨m,rfl⟩⟩))))|fail
      all_goals
        try (rename_i hHeld;clear hHeld)
        go_upto_region 5 with (fail)
        have H2:=Aside0.mk (H1.out.drewN (1 + m))
        clear H1 x0 x1 x2 x4 x11 x12
        generalize W1.drewN (1 + m) = W2 at *
        obtain ⟨AL2,cL2,AM2,cM2,AK2,cK2,AB2,cB2,AD2,cD2,AO2,cO2,kb2,hCL2,hcL2⟩:=H2.out.cells
        have x0 : W2.cell? ⟨b,0,none⟩ = some (.int .i64 s.id):=(blk_cell kb2 0).trans rfl
        have x1 : W2.cell? ⟨b,1,none⟩ = some (.int .i64 s.n):=(blk_cell kb2 1).trans rfl
        have x2 : W2.cell? ⟨b,2,none⟩ = some (.int .i64 s.view):=(blk_cell kb2 2).trans rfl
        have x4 : W2.cell? ⟨b,4,none⟩ = some (.int .i64 s.status):=(blk_cell kb2 4).trans rfl
        have x11 : W2.cell? ⟨b,11,none⟩ = some (.int .i64 el):=(blk_cell kb2 11).trans rfl
        clear hCL2 hcL2 kb2
        go_wp2_with ((go_at_call 16;refine(leads.calls b s.id s.n s.view s.status hn0 W2 x0 x1 x2 x4).mono ?_;rw [HLD.out];rintro e w' ⟨rfl,⟨m2,rfl⟩⟩))
        (first|go_end0|refine bodyPost_ret (results_none rfl _ _ _) rfl ?_)
        have e : tickR s = .ok (elS s el,[]):=by unfold tickR;rw [HEL.out.1,if_neg (by rw [HLD.out];simp),if_neg (by have:=HTO.out.1;omega)]
        rw [e]
        exact⟨(H2.out.drewN _).keeps,rfl,(H2.out.drewN _).mac⟩
  | true =>
    have HLD:=Aside0.mk hld
    clear hld
    go_quiet (first|(go_at_call 16;refine(leads.calls b s.id s.n s.view s.status hn0 _ (by exact x0) (by exact x1) (by exact x2) (by exact x4)).mono ?_;rw [HLD.out];rintro e w' ⟨rfl,⟨m,rfl⟩⟩;(first|exact⟨rfl,_,rfl⟩|exact⟨rfl,_,World.drewN_drewN _ _ _⟩|(refine⟨rfl,_,?_⟩;simp;rfl))))
    go_upto_region 5 with (fail)
    have H2:=Aside0.mk (H1.out.drewN nq)
    clear H1 x0 x1 x2 x4 x11 x12
    generalize W1.drewN nq = W2 at *
    obtain ⟨AL2,cL2,AM2,cM2,AK2,cK2,AB2,cB2,AD2,cD2,AO2,cO2,kb2,hCL2,hcL2⟩:=H2.out.cells
    have x0 : W2.cell? ⟨b,0,none⟩ = some (.int .i64 s.id):=(blk_cell kb2 0).trans rfl
    have x1 : W2.cell? ⟨b,1,none⟩ = some (.int .i64 s.n):=(blk_cell kb2 1).trans rfl
    have x2 : W2.cell? ⟨b,2,none⟩ = some (.int .i64 s.view):=(blk_cell kb2 2).trans rfl
    have x4 : W2.cell? ⟨b,4,none⟩ = some (.int .i64 s.status):=(blk_cell kb2 4).trans rfl
    have x11 : W2.cell? ⟨b,11,none⟩ = some (.int .i64 el):=(blk_cell kb2 11).trans rfl
    clear hCL2 hcL2 kb2
    by_cases hbt : (3 : Int) ≤ el
    · have d1 : decide ((3 : Int) ≤ el) = true:=decide_eq_true hbt
      have HBT:=Aside0.mk hbt
      clear hbt
      go_upto_region 6 with ((go_at_call 16;refine(leads.calls b s.id s.n s.view s.status hn0 W2 x0 x1 x2 x4).mono ?_;rw [HLD.out];rintro e w' ⟨rfl,⟨m2,rfl⟩⟩))
      have H3:=Aside0.mk (show TB w ((W2.drewN m2).setCell ⟨b,11,none⟩ (.int .i64 0)) b gd P (elS s 0) [] from(H2.out.drewN m2).elapsed HQ.out.2.1.2 0)
      have x11' : (W2.drewN m2).cell? ⟨b,11,none⟩ = some (.int .i64 el):=x11
      obtain ⟨AL,cL,AM,cM,AK,cK,AB,cB,AD,cD,AO,cO,kbz,_⟩:=H2.out.cells
      have f11:=blk_frozen kbz 11
      clear kbz
      go_upto_region 7 with (fail)
      clear x0 x1 x2 x4 x11 x11' f11 H2
      generalize (W2.drewN m2).setCell ⟨b,11,none⟩ (.int .i64 0) = W3 at *
      obtain ⟨_,AL3,cL3,AM3,cM3,AK3,cK3,AB3,cB3,AD3,cD3,AO3,cO3,kb,_,h2,_⟩:=H3.out.mac
      have x7 : W3.cell? ⟨b,7,none⟩ = some (.slice AM3 s.mat.length cM3):=(blk_cell kb 7).trans rfl
      have HR3:=Aside0.mk (show(Kd.int .i64).R 3 W3 0 P (.slice AM3 s.mat.length cM3) s.mat from h2)
      have HMN:=Aside0.mk (show(s.mat.length : Int) = s.n∧1 ≤ s.n∧s.n ≤ 9 from⟨by rw [HQ.out.1.mat];unfold szM;rw [if_pos HLD.out],HQ.out.1.n⟩)
      clear kb h2
      go_wp2
      go_loopg [4,5,75] (s.mat.length + 1) (fun gg _ _ s75 wr=>∃ kk : Nat,s75 = .int .i64 (kk : Int)∧Aside0 (kk ≤ s.mat.length∧s.mat.length - kk < gg∧TB w wr b gd P (elS s 0) (tickM (elS s 0) kk)∧(Kd.int .i64).R 3 wr 0 P (.slice AM3 s.mat.length cM3) s.mat))
      case atStart=>exact⟨0,rfl,⟨Nat.zero_le _,by omega,H3.out,HR3.out⟩⟩
      case round =>
        obtain ⟨kk,rfl,A⟩:=hrel
        clear H3 HR3 x7
        have hw : wrap64 ((kk : Int) + 1) = ((kk + 1 : Nat) : Int):=by have:=HMN.out;have:=A.out.1;unfold wrap64;omega
        by_cases hlt : kk < s.mat.length
        · have c1 : decide ((kk : Int) < (s.mat.length : Int)) = true:=decide_eq_true (by omega)
          obtain ⟨ad,e,hx0⟩:=Kd.at_int (Kd.R_reads' A.out.2.2.2).2.2 (kk : Int) (by omega) (by omega)
          cases e
          rw [Int.toNat_natCast] at hx0
          have p1 : (0 ≤ (kk : Int)) = True:=eq_true (by omega)
          have p2 : ((kk : Int) < (s.mat.length : Int)) = True:=eq_true (by omega)
          have H4:=Aside0.mk A.out.2.2.1
          obtain ⟨AL,cL,AM,cM,AK,cK,AB,cB,AD,cD,AO,cO,kb,hCL,hcL⟩:=H4.out.cells
          have x0 : wr.cell? ⟨b,0,none⟩ = some (.int .i64 s.id):=(blk_cell kb 0).trans rfl
          have hrm : rd s.mat (kk : Int) = s.mat.getD kk (0 : Int):=by show s.mat.getD _ _ = _;rw [Int.toNat_natCast]
          cases hid : ((kk : Int) == s.id) with
          | true =>
            have HID:=Aside0.mk hid
            clear kb hCL hcL
            go_wp2
            rw [hw]
            obtain ⟨gg,rfl⟩ : ∃ m,gk = m + 1:=⟨gk - 1,by have:=A.out.2.1;omega⟩
            have hA:=A.out
            go_roundg gg
            case measure=>omega
            case rel=>exact⟨kk + 1,rfl,⟨by omega,by omega,by rw [tickM_eq (s:=elS s 0) HID.out];exact hA.2.2.1,hA.2.2.2⟩⟩
          | false =>
            have HID:=Aside0.mk hid
            have x5 : wr.cell? ⟨b,5,none⟩ = some (.slice AL s.log.length cL):=(blk_cell kb 5).trans rfl
            have x6 : wr.cell? ⟨b,6,none⟩ = some (.int .i64 s.commit):=(blk_cell kb 6).trans rfl
            have hmv : 0 ≤ s.mat.getD kk (0 : Int)∧s.mat.getD kk (0 : Int) ≤ 512:=by
              have hb:=HQ.out.1.mats (s.mat[kk]) (List.getElem_mem hlt)
              have hb2 : wi (s.mat[kk]) 0 512 = true:=by unfold badN at hb;simpa using hb
              have:=wi_le hb2
              rw [List.getD_eq_getElem?_getD,List.getElem?_eq_getElem hlt]
              exact this
            obtain ⟨mv,hmv2⟩ : ∃ mv,rd s.mat (kk : Int) = mv:=⟨_,rfl⟩
            rw [hmv2] at hx0
            rw [← hrm,hmv2] at hmv
            obtain ⟨kx,hkx⟩ : ∃ kx : Int,(if(s.log.length : Int) < mv then(s.log.length : Int) else mv) = kx:=⟨_,rfl⟩
            obtain ⟨hx',hhx⟩ : ∃ hx' : Int,(if(s.log.length : Int) < kx + 8 then(s.log.length : Int) else kx + 8) = hx':=⟨_,rfl⟩
            have hfit:=mayLog_fit HQ.out.1.log
            have e1 : prevV (elS s 0) kk = kx:=by unfold prevV;rw [← hkx];show min (s.mat.getD kk (0 : Int)) (s.log.length : Int) = _;rw [← hrm,hmv2];split <;> omega
            have e2 : min (prevV (elS s 0) kk + 8) (s.log.length : Int) = hx':=by rw [e1,← hhx];split <;> omega
            have hk0 : 0 ≤ kx∧kx ≤ (s.log.length : Int):=by rw [← hkx];split <;> omega
            have hh0 : kx ≤ hx'∧hx' ≤ (s.log.length : Int)∧hx' ≤ kx + 8:=by rw [← hhx];split <;> omega
            have hwk : wrap64 (kx + 8) = kx + 8:=by unfold wrap64;omega
            obtain ⟨j0,hj0,_,hsz,_⟩:=info_parts info22
            have hcut:=cut_mid (P:=Try.prog) 25 22 .i64 .i64 Try.underlying25 hj0 1 hsz AL s.log.length cL kx hx' hk0.1 hh0.1 hh0.2.1 hcL
            obtain ⟨ys,hys⟩ : ∃ ys,(s.log.take hx'.toNat).drop kx.toNat = ys:=⟨_,rfl⟩
            have hyl : hx'.toNat - kx.toNat = ys.length:=by rw [← hys,List.length_drop,List.length_take];omega
            obtain ⟨A9,hA9⟩ : ∃ A9,(if cL = kx.toNat then AL else AL.map (·.add (kx.toNat * 1))) = A9:=⟨_,rfl⟩
            obtain ⟨c9,hc9⟩ : ∃ c9,cL - kx.toNat = c9:=⟨_,rfl⟩
            rw [hyl,hA9,hc9] at hcut
            have HY:=Aside0.mk (show Kd.C (Kd.slice 5 (Kd.int .u8)) wr A9 ys.length ys∧FitsL ys∧tellM (elS s 0) (tickP (elS s 0) kk) = tellM (elS s 0) { kind:=1,fro:=0,dst:=(kk : Int),view:=0,last:=0,prev:=kx,log:=ys,commit:=s.commit,mat:=0 } from⟨by
                have:=Kd.C_mid (lo:=kx.toNat) (hi:=hx'.toNat) (c:=cL) hCL (by omega) (by have h1 : (elS s 0).log.length = s.log.length:=rfl;omega) hcL
                have e3 : ((elS s 0).log.take hx'.toNat).drop kx.toNat = ys:=hys
                rw [e3] at this
                rw [← hA9]
                exact this,⟨by have:=hfit.2;omega,fun y hy=>hfit.1.2 y (by rw [← hys] at hy;exact List.mem_of_mem_take (List.mem_of_mem_drop hy))⟩,by unfold tickP;rw [show(elS s 0).log.length = s.log.length from rfl,e2,e1,show((elS s 0).log.take hx'.toNat).drop kx.toNat = ys from hys];rfl⟩)
            clear hrm hmv2 kb hCL hcL hmv e1 e2 hk0 hh0 hj0 hsz hyl hA9 hc9 hys hfit
            go_upto_region 12 with (fail)
            have hwk2 : IntKind.i64.wrap (kx + 8) = kx + 8:=(by rw [IntKind.wrap_i64];unfold wrap64 at hwk;exact hwk)
            clear hx0 x0 hkx p1 p2
            obtain ⟨gg,rfl⟩ : ∃ m,gk = m + 1:=⟨gk - 1,by have:=A.out.2.1;omega⟩
            go_region_held3 (fun W'=>W'.cell? ⟨b,5,none⟩ = some (.slice AL s.log.length cL)∧W'.cell? ⟨b,6,none⟩ = some (.int .i64 s.commit)) (go_keep) ((first|(go_at_call 41;refine(cloneLog.calls A9 c9 ys _ (Kd.C_drew HY.out.1) HY.out.2.1.1 HY.out.2.1.2).mono ?_;rintro e w2 ⟨v,rfl,hR2,hb2⟩;obtain ⟨A2,c2,rfl⟩:=Kd.R_slice hR2;have H5:=Aside0.mk (H4.out.drew.below hb2);have q5:=(hb2.cell (World.block_lt_of_cell? _ _ x5)).trans x5;have q6:=(hb2.cell (World.block_lt_of_cell? _ _ x6)).trans x6;have C2:=Aside0.mk (And.intro (Kd.R_mono (Kd.R_lower (Kd.R_bound hR2) (Nat.zero_le _)) (ok':=P) (fun k hk=>H4.out.fresh k (by have:=hk.2.1;simpa using this))) (Kd.R_below (Kd.R_below A.out.2.2.2 (below_drew (Below.refl _ _))) hb2));clear hR2 hb2)|(go_at_call 46;refine(tell.calls2 b gd P (elS s 0) (tickM (elS s 0) kk) { kind:=1,fro:=0,dst:=(kk : Int),view:=0,last:=0,prev:=kx,log:=ys,commit:=s.commit,mat:=0 } A2 c2 _ H5.out.mac H5.out.fresh HQ.out.2.1 C2.out.1 (by have h1:=tickM_len (elS s 0) kk;have h2:=HMN.out;have h3:=A.out.1;omega)).mono ?_;rintro e w4 ⟨rfl,⟨hk4,hc4⟩,hm4⟩;have t5:=(hc4 5 (by decide)).trans q5;have t6:=(hc4 6 (by decide)).trans q6;have H6:=Aside0.mk (H5.out.step hk4.tells hm4);have HRM:=Aside0.mk (show(Kd.int .i64).R 3 w4 0 P (.slice (some ad) s.mat.length cM3) s.mat from(by obtain ⟨AL',cL',AM',cM',AK',cK',AB',cB',AD',cD',AO',cO',kb',_⟩:=H5.out.cells;exact R_tells C2.out.2 hk4 kb' (by decide)));clear hk4 hm4 hc4)))
            all_goals
              go_wp2
              rw [hw]
              have hA:=A.out
              go_roundg gg
              case measure=>omega
              case rel=>exact⟨kk + 1,rfl,⟨by omega,by omega,by rw [tickM_ne (s:=elS s 0) HID.out,HY.out.2.2];exact H6.out,HRM.out⟩⟩
        · have c1 : decide ((kk : Int) < (s.mat.length : Int)) = false:=decide_eq_false (by omega)
          have c1n : decide (kk < s.mat.length) = false:=decide_eq_false hlt
          have e : kk = s.mat.length:=by have:=A.out.1;omega
          subst e
          go_wp2
          (first|go_end0|refine bodyPost_ret (results_none rfl _ _ _) rfl ?_)
          have e : tickR s = .ok (elS s 0,tickM (elS s 0) s.mat.length):=by unfold tickR;rw [HEL.out.1,if_pos HLD.out,if_pos HBT.out]
          rw [e]
          exact⟨A.out.2.2.1.keeps,rfl,A.out.2.2.1.mac⟩
    · have d1 : decide ((3 : Int) ≤ el) = false:=decide_eq_false hbt
      have HBT:=Aside0.mk (show ¬ ((3 : Int) ≤ el)∧True from⟨hbt,trivial⟩)
      clear hbt
      go_wp2_with ((go_at_call 16;refine(leads.calls b s.id s.n s.view s.status hn0 W2 x0 x1 x2 x4).mono ?_;rw [HLD.out];rintro e w' ⟨rfl,⟨m2,rfl⟩⟩))
      (first|go_end0|refine bodyPost_ret (results_none rfl _ _ _) rfl ?_)
      have e : tickR s = .ok (elS s el,[]):=by unfold tickR;rw [HEL.out.1,if_pos HLD.out,if_neg (by have:=HBT.out.1;omega)]
      rw [e]
      exact⟨(H2.out.drewN _).keeps,rfl,(H2.out.drewN _).mac⟩
end Go.Proofs.Ytojjnifbnppliaa.T
end
section
namespace Go.Proofs.Ytojjnifbnppliaa.T
open Go.RowKit Go.Proofs.YtojjnifbnppliaaW.PrintWords Go.Proofs.YtojjnifbnppliaaW.PrintLast Go.Proofs.YtojjnifbnppliaaW.PrintMore
attribute [local go_sem] max2_int min2_int max_two min_two max_three min_three max_four min_four
set_option linter.unusedVariables false
set_option linter.unusedSimpArgs false
section
variable {P : Program} {ops : Array Oper} {w : World} {Q : Act→Prop} {l : List Oper} {a : Act}
theorem still_hide (h : ∀ (ops' : Array Oper) (Q' : Act→Prop),ops' = ops→(∀ a,Q a→Q' a)→wpStill P ops' w Q' l a) : wpStill P ops w Q l a:=h ops Q rfl (fun _ h=>h)
/-- An operation that is wanted and does nothing to the world. -/
theorem still_one {o : Oper} {rest : List Oper} {v : Value} (hg : Region.wanted o (yielded ops a.tmps) = true) (hv : (execOp a.eval o).run P w = .ok (.value v) w) (h : wpStill P ops w Q rest (a.put o.dst v)) : wpStill P ops w Q (o :: rest) a:=by
  unfold wpStill
  rw [if_pos hg]
  unfold Oper.still
  rw [hv]
  exact⟨rfl,h⟩
theorem still_un {o : Oper} {rest : List Oper} (hg : Region.wanted o (yielded ops a.tmps) = false) (h : wpStill P ops w Q rest (a.put o.dst undef)) : wpStill P ops w Q (o :: rest) a:=by
  unfold wpStill
  rw [if_neg (by rw [hg];simp)]
  exact h
theorem still_fn {o : Oper} {rest : List Oper} {v : Value} {f : FuncId} {args : Array Value} (hg : Region.wanted o (yielded ops a.tmps) = true) (hv : (execOp a.eval o).run P w = .ok (.enter f args) w) (hc : Calls P f args w (fun e w'=>e = .returned v∧w' = w)) (h : wpStill P ops w Q rest (a.put o.dst v)) : wpStill P ops w Q (o :: rest) a:=by
  unfold wpStill
  rw [if_pos hg]
  unfold Oper.still
  rw [hv]
  exact⟨rfl,v,hc,h⟩
end
end Go.Proofs.Ytojjnifbnppliaa.T
end
