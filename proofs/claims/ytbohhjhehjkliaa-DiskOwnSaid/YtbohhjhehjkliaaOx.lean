/- DiskOwn: the walk. -/
import Derived.Test.YtbohhjhehjkliaaOa
import Derived.Test.YtbohhjhehjkliaaTx11
import Derived.Test.YtbohhjhehjkliaaTx13
import Derived.Deep.DeepCutAuto
namespace Go.Proofs.Ytbohhjhehjkliaa.T
open Go.RowKit Go.Proofs.YtbohhjhehjkliaaW.PrintWords Go.Proofs.YtbohhjhehjkliaaW.PrintLast Go.Proofs.YtbohhjhehjkliaaW.PrintMore
attribute [local go_sem] max2_int min2_int max_two min_two max_three min_three max_four min_four   -- for this text's walks alone
set_option linter.unusedVariables false
set_option linter.unusedSimpArgs false
theorem Kd.R_max' {α : Type} {d : Kd α} {e : Nat} {w : World} {base : Nat} {ok : Nat → Prop} {v : Value} {xs : List α} (h : d.R e w base ok v xs) : xs.length ≤ 9223372036854775807 := by
  obtain ⟨A, c, rfl, _, hc⟩ := Kd.R_reads h
  exact hc.2.1
/-- Spoil ends. -/
theorem spoil_l0 : ∀ (d i : Nat) (l : List Int), l.length ≤ 9223372036854775807 → l.length ≤ i + d → ∃ r, undercroftplain_Spoil.l0 (d + 1) l (i : Int) = some r
  | 0, i, l, hm, h => ⟨l, by simp only [undercroftplain_Spoil.l0]; rw [if_neg (by omega)]⟩
  | d + 1, i, l, hm, h => by
    by_cases hi : i < l.length
    · have hw : wrap64 ((i : Int) + 1) = ((i + 1 : Nat) : Int) := by unfold wrap64; omega
      rw [undercroftplain_Spoil.l0, if_pos (by omega), if_pos (by omega), hw]
      exact spoil_l0 d (i + 1) _ (by rw [List.length_set]; exact hm) (by rw [List.length_set]; omega)
    · exact ⟨l, by simp only [undercroftplain_Spoil.l0]; rw [if_neg (by omega)]⟩
theorem spoil_all (l : List Int) (hm : l.length ≤ 9223372036854775807) : ∃ k r, undercroftplain_Spoil.f k l = some r := ⟨l.length + 1, spoil_l0 l.length 0 l hm (by omega)⟩
set_option maxHeartbeats 16000000 in
set_option maxRecDepth 100000 in
theorem DiskOwn.calls (k : Nat) (A0 : Option Addr) (c0 : Nat) (l0 : List (List Int)) (A1 : Option Addr) (c1 : Nat) (l : List S41) (A2 : Option Addr) (c2 : Nat) (d : List Int) (X1 : List S62) (P : List (List Int)) (C : List S41) (D1 : List S62) (er : Int) (w : World)
    (hr0 : Kd.C (Kd.slice 5 (Kd.int .u8)) w A0 l0.length l0) (hc0 : l0.length ≤ c0) (hr1 : Kd.C k41 w A1 l.length l) (hc1 : l.length ≤ c1) (hr2 : Kd.C (Kd.int .u8) w A2 d.length d) (hc2 : d.length ≤ c2)
    (hof : undercroftlaw03_Of.f k l0 l = some (l0, X1)) (hcp : undercroftplain_CopyBytes.f d = some d) (h1 : disk_PutAll.f l0 X1 0 d = some (P, D1, er)) (h2 : undercroftref03_PutAll.f k l0 l 0 d = some (P, C, er)) (g : undercroftlaw03_Alike.f k P D1 P C = some 0) :
    Calls Try.prog 7 #[.agg #[.slice A0 l0.length c0, .slice A1 l.length c1], .slice A2 d.length c2] w fun e w' => e = .returned (.bool true) ∧ Below w.heap.size w w' := by
  have hu30 := Try.underlying30
  have hu25 := Try.underlying25
  have hu62 := Try.underlying62
  have HR0 := Aside0.mk hr0
  have HR1 := Aside0.mk hr1
  have HR2 := Aside0.mk hr2
  have HL := Aside0.mk (And.intro hc0 (And.intro hc1 hc2))
  have HF := Aside0.mk (And.intro hof (And.intro hcp (And.intro h1 (And.intro h2 g))))
  have K2 := Aside0.mk (heap_alloc_new w (.cells #[.slice A0 l0.length c0, .slice A1 l.length c1] 25))
  have HB := Aside0.mk (below_alloc (Below.refl w.heap.size w) (.cells #[.slice A0 l0.length c0, .slice A1 l.length c1] 25))
  clear hr0 hc0 hr1 hc1 hr2 hc2 hof hcp h1 h2 g
  go_enter Try.func7, Try.ntmps7
  go_upto_region 4 with (first | (go_at_call 8; refine (undercroftlaw03_alive.calls true _ rfl).mono ?_; rintro e w1 ⟨rfl, hb⟩; replace K2 := Aside0.mk (blk_below K2.out hb); replace HB := Aside0.mk (HB.out.trans (hb.mono HB.out.size)); clear hb; have y0 := (blk_cell K2.out 0).trans rfl; have y1 := (blk_cell K2.out 1).trans rfl) | (go_at_call 10; refine (undercroftlaw03_Of.apart k A0 c0 l0 A1 c1 l l0 X1 _ (Kd.C_below HR0.out HB.out) HL.out.1 (Kd.C_below HR1.out HB.out) HL.out.2.1 HF.out.1).mono ?_; rintro e w2 ⟨v0, v1, N8, rfl, hs0, hs1, hb⟩; obtain ⟨Ax, cx, rfl⟩ := Kd.S_slice hs0; obtain ⟨Ay, cy, rfl⟩ := Kd.S_slice hs1; have SX := Aside0.mk (Kd.S_lower hs0 HB.out.size); have SY := Aside0.mk (Kd.S_lower hs1 HB.out.size); replace K2 := Aside0.mk (blk_below K2.out hb); replace HB := Aside0.mk (HB.out.trans (hb.mono HB.out.size)); clear hb hs0 hs1 y0 y1) | (go_at_call 14; refine (undercroftplain_CopyBytes.calls A2 c2 d d _ (Kd.C_below HR2.out HB.out) HL.out.2.2 HF.out.2.1).mono ?_; rintro e w3 ⟨v, rfl, hr, hb⟩; obtain ⟨Ao, co, rfl⟩ := Kd.R_slice hr; replace SX := Aside0.mk (Kd.S_alloc (Kd.S_elder' SX.out (Kd.R_base hr) hb) (.cells #[.slice Ax l0.length cx, .slice Ay X1.length cy] 30)); replace SY := Aside0.mk (Kd.S_alloc (Kd.S_elder' SY.out (Kd.R_base hr) hb) (.cells #[.slice Ax l0.length cx, .slice Ay X1.length cy] 30)); have RO := Aside0.mk (Kd.R_alloc (Kd.R_lower hr HB.out.size) (.cells #[.slice Ax l0.length cx, .slice Ay X1.length cy] 30)); have G5 := Aside0.mk (Nat.le_trans HB.out.size hb.size); replace K2 := Aside0.mk (blk_alloc (blk_below K2.out hb) (.cells #[.slice Ax l0.length cx, .slice Ay X1.length cy] 30)); have K5 := Aside0.mk (heap_alloc_new w3 (.cells #[.slice Ax l0.length cx, .slice Ay X1.length cy] 30)); replace HB := Aside0.mk (below_alloc (HB.out.trans (hb.mono HB.out.size)) (.cells #[.slice Ax l0.length cx, .slice Ay X1.length cy] 30)); clear hb hr))
  have y0 := (blk_cell K5.out 0).trans rfl
  have y1 := (blk_cell K5.out 1).trans rfl
  generalize w3.heap.size = b5 at *
  generalize (w3.alloc (.cells #[.slice Ax l0.length cx, .slice Ay X1.length cy] 30) : World) = W1 at *
  have SX1 := Aside0.mk (Kd.S_mono (Kd.S_bound (Kd.S_types SX.out K5.out (by decide))) (ok' := fun k => (k < N8 ∧ k < W1.heap.size ∧ k ≠ b5) ∧ some k ≠ (Value.slice Ao d.length co).ownBlock) (fun k hk => ⟨⟨hk.1.1.1, hk.2.2.1, hk.1.2⟩, hk.1.1.2⟩))
  have SY1 := Aside0.mk (Kd.S_mono (Kd.S_bound (Kd.S_types SY.out K5.out (by decide))) (ok' := fun k => (N8 ≤ k ∧ k < W1.heap.size ∧ k ≠ b5) ∧ some k ≠ (Value.slice Ao d.length co).ownBlock) (fun k hk => ⟨⟨hk.1.1.1, hk.2.2.1, hk.1.2⟩, hk.1.1.2⟩))
  have HO := Aside0.mk (show ∀ k, some k = (Value.slice Ao d.length co).ownBlock → k < W1.heap.size ∧ k ≠ b5 from fun k hk => ⟨Kd.R_lt RO.out k hk.symm, fun e => Kd.R_ne RO.out K5.out (by decide) (by rw [← e]; exact hk)⟩)
  have CX := Aside0.mk (Kd.S_reads' SX.out).2.2
  have LX := Aside0.mk (Kd.S_reads' SX.out).2.1
  have CY := Aside0.mk (Kd.S_reads' SY.out).2.2
  have LY := Aside0.mk (Kd.S_reads' SY.out).2.1
  have CO := Aside0.mk (Kd.R_reads' RO.out).2.2
  have LO := Aside0.mk (Kd.R_reads' RO.out).2.1
  have N5 := Aside0.mk (blk_lt K5.out)
  have z0 := (blk_cell K2.out 0).trans rfl
  have z1 := (blk_cell K2.out 1).trans rfl
  clear SX SY
  go_upto_region 6 with (first | (go_at_call 25; refine (disk_PutAll.calls Ax cx l0 Ay cy X1 0 Ao co d P D1 er _ CX.out LX.out CY.out LY.out CO.out LO.out HF.out.2.2.1).mono ?_; rintro e w4 ⟨v0, v1, rfl, hs0, hs1, hb⟩; obtain ⟨At, ct, rfl⟩ := Kd.S_slice hs0; obtain ⟨Au, cu, rfl⟩ := Kd.S_slice hs1; have ST := Aside0.mk (Kd.S_alloc hs0 (.cells #[.slice At P.length ct, .slice Au D1.length cu] 30)); have SU := Aside0.mk (Kd.S_alloc hs1 (.cells #[.slice At P.length ct, .slice Au D1.length cu] 30)); have G7 := Aside0.mk hb.size; have K7 := Aside0.mk (heap_alloc_new w4 (.cells #[.slice At P.length ct, .slice Au D1.length cu] 30)); have HW := Aside0.mk (below_alloc hb (.cells #[.slice At P.length ct, .slice Au D1.length cu] 30)); clear hb hs0 hs1 y0 y1 z0 z1; have z0 := (blk_cell (blk_below K2.out HW.out) 0).trans rfl; have z1 := (blk_cell (blk_below K2.out HW.out) 1).trans rfl) | (go_at_call 27; refine (undercroftref03_PutAll.calls k A0 c0 l0 A1 c1 l 0 A2 c2 d P C er _ (Kd.C_below (Kd.C_below HR0.out HB.out) HW.out) HL.out.1 (Kd.C_below (Kd.C_below HR1.out HB.out) HW.out) HL.out.2.1 (Kd.C_below (Kd.C_below HR2.out HB.out) HW.out) HL.out.2.2 HF.out.2.2.2.1).mono ?_; rintro e w5 ⟨v0, v1, rfl, hs0, hs1, hb⟩; obtain ⟨Aq, cq, rfl⟩ := Kd.S_slice hs0; obtain ⟨Ar, cr, rfl⟩ := Kd.S_slice hs1; have SQ := Aside0.mk (Kd.S_alloc (Kd.S_lower hs0 HW.out.size) (.cells #[.slice Aq P.length cq, .slice Ar C.length cr] 25)); have SR := Aside0.mk (Kd.S_alloc (Kd.S_lower hs1 HW.out.size) (.cells #[.slice Aq P.length cq, .slice Ar C.length cr] 25)); replace ST := Aside0.mk (Kd.S_alloc (Kd.S_below ST.out hb) (.cells #[.slice Aq P.length cq, .slice Ar C.length cr] 25)); replace SU := Aside0.mk (Kd.S_alloc (Kd.S_below SU.out hb) (.cells #[.slice Aq P.length cq, .slice Ar C.length cr] 25)); replace K7 := Aside0.mk (blk_alloc (blk_below K7.out hb) (.cells #[.slice Aq P.length cq, .slice Ar C.length cr] 25)); have G9 := Aside0.mk (Nat.le_trans HW.out.size hb.size); have K9 := Aside0.mk (heap_alloc_new w5 (.cells #[.slice Aq P.length cq, .slice Ar C.length cr] 25)); replace HW := Aside0.mk (below_alloc (HW.out.trans (hb.mono HW.out.size)) (.cells #[.slice Aq P.length cq, .slice Ar C.length cr] 25)); clear hb hs0 hs1 z0 z1))
  clear CX LX CY LY CO LO K2 HR0 HR1 HR2 HL
  generalize w4.heap.size = b7 at *
  generalize w5.heap.size = b9 at *
  generalize (w5.alloc (.cells #[.slice Aq P.length cq, .slice Ar C.length cr] 25) : World) = W4 at *
  replace SX1 := Aside0.mk (Kd.S_below SX1.out HW.out)
  replace SY1 := Aside0.mk (Kd.S_below SY1.out HW.out)
  replace RO := Aside0.mk (Kd.R_below RO.out HW.out)
  replace K5 := Aside0.mk (blk_below K5.out HW.out)
  replace HB := Aside0.mk (HB.out.trans (HW.out.mono HB.out.size))
  generalize W1.heap.size = N1 at *
  obtain ⟨sk, sr, hsp⟩ := spoil_all d (Kd.R_max' RO.out)
  have HSP := Aside0.mk hsp
  clear hsp
  go_upto_block 0 with (first | (go_at_call 28; refine (undercroftplain_Spoil.calls sk (fun k => some k = (Value.slice Ao d.length co).ownBlock) (.slice Ao d.length co) d sr w _ HB.out (Kd.R_tight rfl RO.out) HSP.out).mono ?_; rintro e w6 ⟨rfl, _, hb6, hk6⟩; have HK := Aside0.mk (hk6.mono HO.out); have SX := Aside0.mk (Kd.S_mono (Kd.S_kept SX1.out hk6 (fun k hk => hk.2)) (fun k hk => hk.1)); have SY := Aside0.mk (Kd.S_mono (Kd.S_kept SY1.out hk6 (fun k hk => hk.2)) (fun k hk => hk.1)); have K5' := Aside0.mk (blk_kept K5.out hk6 (Kd.R_ne RO.out K5.out (by decide))); have HB' := Aside0.mk hb6; clear hb6 hk6))
  clear SX1 SY1 RO K5 HB HW HSP HO
  have hb5 := N5.out
  go_cut [11] (fun v11 wx => Aside0 (Below w.heap.size w wx ∧ Kept W4 wx (fun k => k < N1 ∧ k ≠ b5) ∧ wx.heap[b5]? = some (.cells #[.slice Ax l0.length cx, .slice Ay X1.length cy] 30 (0, 0)) ∧ Kd.S k62 62 wx w.heap.size (fun k => N8 ≤ k ∧ k < N1 ∧ k ≠ b5) (.slice Ay X1.length cy) X1))
  case first => as_aux_lemma =>
    have hbig : l0.length ≤ 9223372036854775807 := by have := (Kd.S_reads' SX.out).2.2.2.1; simpa using this
    have HBG := Aside0.mk hbig
    clear hbig
    go_wp2_with fail
    go_loopg [11] (l0.length + 1) (fun gg s11 wr => ∃ i : Int, s11 = .int .i64 i ∧ Aside0 (0 ≤ i ∧ i ≤ l0.length ∧ l0.length - i < gg ∧ Below w.heap.size w wr ∧ Kept W4 wr (fun k => k < N1 ∧ k ≠ b5) ∧ wr.heap[b5]? = some (.cells #[.slice Ax l0.length cx, .slice Ay X1.length cy] 30 (0, 0)) ∧ Kd.S k62 62 wr w.heap.size (fun k => N8 ≤ k ∧ k < N1 ∧ k ≠ b5) (.slice Ay X1.length cy) X1 ∧ ∃ xs' : List (List Int), xs'.length = l0.length ∧ Kd.S (Kd.slice 5 (Kd.int .u8)) 36 wr w.heap.size (fun k => k < N8 ∧ k < N1 ∧ k ≠ b5) (.slice Ax l0.length cx) xs'))
    case atStart => exact ⟨0, rfl, ⟨by omega, by omega, by omega, HB'.out, HK.out, K5'.out, SY.out, l0, rfl, SX.out⟩⟩
    case round => as_aux_lemma =>
      obtain ⟨i, rfl, Z⟩ := hrel
      clear SX SY K5' HB' HK
      by_cases hlt : i < l0.length
      · as_aux_lemma =>
        have c1' : decide (i < (l0.length : Int)) = true := decide_eq_true hlt
        obtain ⟨h0, hle, hgk, hBW, hKW, k5, hSY, xs, hxl, hS⟩ := Z.out
        obtain ⟨g, cap, hv, hgb, hgl, _⟩ := Kd.S_form hS (by omega)
        simp only [Value.slice.injEq] at hv
        obtain ⟨rfl, hv9, rfl⟩ := hv
        clear hv9
        obtain ⟨oki, c, hcl, hM, hcc, hoki, hH⟩ := Kd.S_lend hS ([] : List Int) i h0 (by omega)
        obtain ⟨v2, rfl, hR2⟩ := hM
        obtain ⟨A9, c9, hv2⟩ := Kd.R_slice hR2
        obtain ⟨sk2, sr2, hsr⟩ := spoil_all _ (Kd.R_max' hR2)
        subst hv2
        have hx2 : wr.cell? ⟨g, i.toNat, none⟩ = some (.slice A9 (xs.getD i.toNat []).length c9) := by
          have h := hcc 0 _ rfl
          simpa [Kd.slice] using h
        have y0 := (blk_cell k5 0).trans rfl
        have y1 := (blk_cell k5 1).trans rfl
        have p1 := eq_true h0
        have p2 := eq_true hlt
        have X := Aside0.mk (And.intro hR2 (And.intro hsr (And.intro hH (And.intro hoki (And.intro hBW (And.intro hKW (And.intro k5 (And.intro hxl (And.intro hgk (And.intro hle hSY))))))))))
        clear hlt hS hcc hcl hR2 hsr hH hoki hBW hKW k5 hxl hgk hle h0 hgb hgl Z hSY
        go_wp2_with (first | (go_at_call 28; refine (undercroftplain_Spoil.calls sk2 oki _ _ sr2 w _ X.out.2.2.2.2.1 X.out.1 X.out.2.1).mono ?_; rintro e w6_ ⟨rfl, hR6, hB6, hK6⟩; have X6 := Aside0.mk (And.intro hR6 (And.intro hB6 hK6)); clear hR6 hB6 hK6))
        have h0 := of_eq_true p1
        have hlt := of_eq_true p2
        obtain ⟨hR2, hsr, hH, hoki, hBW, hKW, k5, hxl, hgk, hle, hSY⟩ := X.out
        obtain ⟨hR6, hB6, hK6⟩ := X6.out
        have hbb := HBG.out
        have hw : wrap64 (i + 1) = i + 1 := by unfold wrap64; omega
        obtain ⟨gg, rfl⟩ : ∃ m, gk = m + 1 := ⟨gk - 1, by omega⟩
        (try rw [hw])
        go_roundg gg
        case measure => omega
        case rel =>
          refine ⟨i + 1, rfl, ⟨by omega, by omega, by omega, hB6, hKW.then_ hK6 (fun k hk => .inl (hoki k hk).1.2), blk_kept k5 hK6 (fun hk => (hoki _ hk).1.2.2 rfl), Kd.S_kept hSY hK6 (fun k hk h2 => Nat.lt_irrefl _ (Nat.lt_of_lt_of_le (hoki k h2).1.1 hk.1)), xs.set i.toNat sr2, by rw [List.length_set]; exact hxl, ?_⟩⟩
          refine Kd.H_back (Kd.H_kept hH hK6 (fun k _ hn => hn)) ⟨_, rfl, Kd.R_tight rfl hR6⟩ (fun k hk => ?_)
          exact hR2.1 k hk.symm
      · as_aux_lemma =>
        have c1' : decide (i < (l0.length : Int)) = false := decide_eq_false hlt
        obtain ⟨h0, hle, hgk, hBW, hKW, k5, hSY, hxs⟩ := Z.out
        have y0 := (blk_cell k5 0).trans rfl
        have y1 := (blk_cell k5 1).trans rfl
        have R1 := Aside0.mk (And.intro hBW (And.intro hKW (And.intro k5 hSY)))
        clear hlt Z h0 hle hgk hBW hKW k5 hSY hxs
        go_wp2_with fail
        go_meet
        case rel => exact R1
  case rest => as_aux_lemma =>
    clear SX SY K5' HB' HK
    have hbig : X1.length ≤ 9223372036854775807 := by have := (Kd.S_reads' hcut.out.2.2.2).2.2.2.1; simpa using this
    have HBG := Aside0.mk hbig
    clear hbig
    go_wp2_with fail
    go_loopg [12] (X1.length + 1) (fun gg s12 wr => ∃ i : Int, s12 = .int .i64 i ∧ Aside0 (0 ≤ i ∧ i ≤ X1.length ∧ X1.length - i < gg ∧ Below w.heap.size w wr ∧ Kept W4 wr (fun k => k < N1 ∧ k ≠ b5) ∧ wr.heap[b5]? = some (.cells #[.slice Ax l0.length cx, .slice Ay X1.length cy] 30 (0, 0)) ∧ ∃ xs' : List S62, xs'.length = X1.length ∧ Kd.S k62 62 wr w.heap.size (fun k => N8 ≤ k ∧ k < N1 ∧ k ≠ b5) (.slice Ay X1.length cy) xs'))
    case atStart => exact ⟨0, rfl, ⟨by omega, by omega, by omega, hcut.out.1, hcut.out.2.1, hcut.out.2.2.1, X1, rfl, hcut.out.2.2.2⟩⟩
    case round => as_aux_lemma =>
      obtain ⟨i, rfl, Z⟩ := hrel
      clear hcut
      by_cases hlt : i < X1.length
      · as_aux_lemma =>
        have c1' : decide (i < (X1.length : Int)) = true := decide_eq_true hlt
        obtain ⟨h0, hle, hgk, hBW, hKW, k5, xs, hxl, hS⟩ := Z.out
        obtain ⟨g, cap, hv, hgb, hgl, _⟩ := Kd.S_form hS (by omega)
        simp only [Value.slice.injEq] at hv
        obtain ⟨rfl, hv9, rfl⟩ := hv
        clear hv9
        obtain ⟨oki, c, hcl, hM, hcc, hoki, hH⟩ := Kd.S_lend hS z62 i h0 (by omega)
        obtain ⟨v2, rfl, hR2⟩ := k62_openM hM
        obtain ⟨A9, c9, hv2⟩ := Kd.R_slice hR2
        obtain ⟨sk2, sr2, hsr⟩ := spoil_all _ (Kd.R_max' hR2)
        subst hv2
        have hx2 : wr.cell? ⟨g, i.toNat * 2 + 1, none⟩ = some (.slice A9 (xs.getD i.toNat z62).f1.length c9) := hcc 1 _ rfl
        have y0 := (blk_cell k5 0).trans rfl
        have y1 := (blk_cell k5 1).trans rfl
        have p1 := eq_true h0
        have p2 := eq_true hlt
        have X := Aside0.mk (And.intro hR2 (And.intro hsr (And.intro hH (And.intro hoki (And.intro hBW (And.intro hKW (And.intro k5 (And.intro hxl (And.intro hgk hle)))))))))
        clear hlt hS hM hcc hcl hR2 hsr hH hoki hBW hKW k5 hxl hgk hle h0 hgb hgl Z
        go_wp2_with (first | (go_at_call 28; refine (undercroftplain_Spoil.calls sk2 oki _ _ sr2 w _ X.out.2.2.2.2.1 X.out.1 X.out.2.1).mono ?_; rintro e w6_ ⟨rfl, hR6, hB6, hK6⟩; have X6 := Aside0.mk (And.intro hR6 (And.intro hB6 hK6)); clear hR6 hB6 hK6))
        have h0 := of_eq_true p1
        have hlt := of_eq_true p2
        obtain ⟨hR2, hsr, hH, hoki, hBW, hKW, k5, hxl, hgk, hle⟩ := X.out
        obtain ⟨hR6, hB6, hK6⟩ := X6.out
        have hbb := HBG.out
        have hw : wrap64 (i + 1) = i + 1 := by unfold wrap64; omega
        obtain ⟨gg, rfl⟩ : ∃ m, gk = m + 1 := ⟨gk - 1, by omega⟩
        (try rw [hw])
        go_roundg gg
        case measure => omega
        case rel =>
          refine ⟨i + 1, rfl, ⟨by omega, by omega, by omega, hB6, hKW.then_ hK6 (fun k hk => .inl (hoki k hk).1.2), blk_kept k5 hK6 (fun hk => (hoki _ hk).1.2.2 rfl), xs.set i.toNat ⟨(xs.getD i.toNat z62).f0, sr2⟩, by rw [List.length_set]; exact hxl, ?_⟩⟩
          refine Kd.H_back (Kd.H_kept hH hK6 (fun k _ hn => hn)) (k62_mkM _ _ _ ⟨(xs.getD i.toNat z62).f0, sr2⟩ (Kd.R_tight rfl hR6)) (fun k hk => ?_)
          exact hR2.1 k hk.symm
      · as_aux_lemma =>
        have c1' : decide (i < (X1.length : Int)) = false := decide_eq_false hlt
        obtain ⟨h0, hle, hgk, hBW, hKW, k5, hxs⟩ := Z.out
        have y0 := (blk_cell k5 0).trans rfl
        have y1 := (blk_cell k5 1).trans rfl
        have hge : ∀ b, N1 ≤ b → ¬ (b < N1 ∧ b ≠ b5) := fun b hb h => by omega
        have CT := Aside0.mk (Kd.S_reads' (Kd.S_kept (Kd.S_bound ST.out) hKW (fun k hk => hge k hk.2.1))).2
        have CU := Aside0.mk (Kd.S_reads' (Kd.S_kept (Kd.S_bound SU.out) hKW (fun k hk => hge k hk.2.1))).2
        have CQ := Aside0.mk (Kd.S_reads' (Kd.S_kept (Kd.S_bound SQ.out) hKW (fun k hk => hge k hk.2.1))).2
        have CR := Aside0.mk (Kd.S_reads' (Kd.S_kept (Kd.S_bound SR.out) hKW (fun k hk => hge k hk.2.1))).2
        replace K7 := Aside0.mk (blk_kept K7.out hKW (hge _ G7.out))
        replace K9 := Aside0.mk (blk_kept K9.out hKW (hge _ G9.out))
        have HBZ := Aside0.mk hBW
        have be : (er == er) = true := beq_self_eq_true er
        have HA := Aside0.mk HF.out.2.2.2.2
        clear ST SU SQ SR hge hlt Z h0 hle hgk hBW hKW k5 hxs
        go_wp2_with (first | (go_at_call 11; refine (undercroftlaw03_num.calls er er _ rfl).mono ?_; rintro e w7 ⟨rfl, hd⟩; have hb := hd.below; replace K7 := Aside0.mk (blk_below K7.out hb); replace K9 := Aside0.mk (blk_below K9.out hb); replace CT := Aside0.mk (And.intro CT.out.1 (Kd.C_below CT.out.2 hb)); replace CU := Aside0.mk (And.intro CU.out.1 (Kd.C_below CU.out.2 hb)); replace CQ := Aside0.mk (And.intro CQ.out.1 (Kd.C_below CQ.out.2 hb)); replace CR := Aside0.mk (And.intro CR.out.1 (Kd.C_below CR.out.2 hb)); replace HBZ := Aside0.mk (HBZ.out.trans (hb.mono HBZ.out.size)); clear hb hd; have z70 := (blk_cell K7.out 0).trans rfl; have z71 := (blk_cell K7.out 1).trans rfl; have z90 := (blk_cell K9.out 0).trans rfl; have z91 := (blk_cell K9.out 1).trans rfl) | (go_at_call 21; refine (undercroftlaw03_Alike.calls k At ct P Au cu D1 Aq cq P Ar cr C 0 _ CT.out.2 CT.out.1 CU.out.2 CU.out.1 CQ.out.2 CQ.out.1 CR.out.2 CR.out.1 HA.out).mono ?_; rintro e w8 ⟨rfl, hb⟩; replace HBZ := Aside0.mk (HBZ.out.trans (hb.mono HBZ.out.size)); clear hb))
        go_ret
        exact ⟨rfl, HBZ.out⟩
end Go.Proofs.Ytbohhjhehjkliaa.T
