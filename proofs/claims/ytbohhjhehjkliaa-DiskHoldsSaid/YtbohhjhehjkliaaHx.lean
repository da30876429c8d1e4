/- DiskHolds: the walk. -/
import Derived.Test.YtbohhjhehjkliaaHp
import Derived.Deep.DeepCutAuto
namespace Go.Proofs.Ytbohhjhehjkliaa.T
open Go.RowKit Go.Proofs.YtbohhjhehjkliaaW.PrintWords Go.Proofs.YtbohhjhehjkliaaW.PrintLast Go.Proofs.YtbohhjhehjkliaaW.PrintMore
attribute [local go_sem] max2_int min2_int max_two min_two max_three min_three max_four min_four   -- for this text's walks alone
set_option linter.unusedVariables false
set_option linter.unusedSimpArgs false
/-- Between two puts: the state in its box, and 'last'. -/
def HState (w wr : World) (n b9 g11 c11 : Nat) (C : List S62) (L : List (List Int)) : Prop :=
  ∃ v0 v1 : Value, wr.heap[b9]? = some (.cells #[v0, v1] 30 (0, 0)) ∧ Kd.S (Kd.slice 5 (Kd.int .u8)) 36 wr w.heap.size (fun k => k ≠ g11) v0 (Plain.zs n) ∧ Kd.S k62 62 wr w.heap.size (fun k => k ≠ g11) v1 C ∧
    Kd.S (Kd.slice 5 (Kd.int .u8)) 36 wr w.heap.size (fun _ => True) (.slice (some ⟨g11, 0, none⟩) n c11) L ∧ Below w.heap.size w wr
theorem infoS36 : (Try.prog.info? 36).map (fun i => (i.zero, i.size, i.bytes)) = some (some (.slice none 0 0), 1, 24) := by kernel_rfl
set_option maxHeartbeats 16000000 in
set_option maxRecDepth 100000 in
theorem DiskHolds.calls (n0 : Int) (n : Nat) (A1 : Option Addr) (c1 : Nat) (l1 : List Int) (A2 : Option Addr) (c2 : Nat) (l2 : List (List Int)) (A3 : Option Addr) (c3 : Nat) (l3 : List Bool) (w : World)
    (hr1 : Kd.C (Kd.int .i64) w A1 l1.length l1) (hl1 : l1.length ≤ c1) (hr2 : Kd.C (Kd.slice 5 (Kd.int .u8)) w A2 l2.length l2) (hl2 : l2.length ≤ c2) (hr3 : Kd.C Kd.bool w A3 l3.length l3) (hl3 : l3.length ≤ c3)
    (hlim : wrap64 (1 + (wrap64 (n0.tmod 20 + 20)).tmod 20) = (n : Int)) (hn1 : 1 ≤ n) (hn2 : n ≤ 20) :
    Calls Try.prog 5 #[.int .i64 n0, .slice A1 l1.length c1, .slice A2 l2.length c2, .slice A3 l3.length c3] w fun e w' => e = .returned (.bool true) ∧ Below w.heap.size w w' := by
  have HR1 := Aside0.mk hr1
  have HR2 := Aside0.mk hr2
  have HR3 := Aside0.mk hr3
  have HL := Aside0.mk (And.intro hl1 (And.intro hl2 hl3))
  have hu30 := Try.underlying30
  have HN := Aside0.mk (And.intro hn1 hn2)
  have NW := Aside0.mk (Plain.new_f n 100 hn1 (by omega) (by omega))
  clear hr1 hr2 hr3 hl1 hl2 hl3 hn1 hn2
  go_enter Try.func5, Try.ntmps5
  go_upto_block 0 with (first | (go_at_call 8; refine (undercroftlaw03_alive.calls true _ rfl).mono ?_; rintro e w1 ⟨rfl, hb1⟩; have HB := Aside0.mk hb1; clear hb1) | (go_at_call 24; refine (disk_New.calls 100 n (Plain.zs n) [] 0 _ NW.out).mono ?_; rintro e w2 ⟨v0, v1, rfl, hs0, hs1, hb⟩; obtain ⟨As, cs, rfl⟩ := Kd.S_slice hs0; obtain ⟨Aw, cw, rfl⟩ := Kd.S_slice hs1; rw [List.length_replicate] at hs0; have K9 := Aside0.mk (heap_alloc_new w2 (.cells #[.slice As n cs, .slice Aw 0 cw] 30)); have S0 := Aside0.mk (Kd.S_alloc (Kd.S_lower hs0 HB.out.size) (.cells #[.slice As n cs, .slice Aw 0 cw] 30)); have S1 := Aside0.mk (Kd.S_alloc (Kd.S_lower hs1 HB.out.size) (.cells #[.slice As n cs, .slice Aw 0 cw] 30)); have B9 := Aside0.mk (show w.heap.size ≤ w2.heap.size from Nat.le_trans HB.out.size hb.size); replace HB := Aside0.mk (below_alloc (HB.out.trans (hb.mono HB.out.size)) (.cells #[.slice As n cs, .slice Aw 0 cw] 30)); clear hb hs0 hs1) | (go_at_call 11; refine (undercroftlaw03_num.calls 0 0 _ rfl).mono ?_; rintro e w3 ⟨rfl, hd⟩; have hb := hd.below; replace K9 := Aside0.mk (blk_below K9.out hb); replace S0 := Aside0.mk (Kd.S_below S0.out hb); replace S1 := Aside0.mk (Kd.S_below S1.out hb); replace HB := Aside0.mk (HB.out.trans (hb.mono HB.out.size)); clear hb hd) | ((with_reducible refine gate_dst (N := 45) rfl ?_); refine Kd.S_make (Kd.slice 5 (Kd.int .u8)) (w0 := w) w.heap.size 36 rfl (N := 45) rfl 22 _ _ rfl (n : Int) rfl rfl Try.underlying22 (.slice none 0 0) 24 infoS36 rfl (by decide) (by omega) [] (ok := fun _ => True) (okp := fun _ => True) ⟨_, rfl, Kd.R_nil _ _ _ _ _⟩ (fun _ _ => trivial) trivial (by omega) (by have := HN.out.2; omega) HB.out HB.out.size ?_; intro v11 w4 ho hb hg hnew; rw [Int.toNat_natCast] at ho; have MK := Aside0.mk (And.intro ho (And.intro hb (And.intro hg hnew))); clear ho hb hg hnew))
  clear hlim NW
  obtain ⟨ho, hb, hg, hnew⟩ := MK.out
  obtain ⟨g11, c11, e11, hgb, hgl, _⟩ := Kd.S_form ho (by rw [List.length_replicate]; exact HN.out.1)
  rw [List.length_replicate] at e11
  subst e11
  have hfar : w3.heap.size ≤ g11 := by
    obtain ⟨b, e, h⟩ := hnew
    have : g11 = b := by simpa [Value.ownBlock] using e
    omega
  have W0 := Aside0.mk (show HState w w4 n w2.heap.size g11 c11 [] (List.replicate n []) from
    ⟨_, _, blk_grown K9.out hg (by simp), Kd.S_mono (Kd.S_grown (Kd.S_bound S0.out) hg (fun k _ => by simp)) (fun k hk => by have := hk.2.2.1; omega), Kd.S_mono (Kd.S_grown (Kd.S_bound S1.out) hg (fun k _ => by simp)) (fun k hk => by have := hk.2.2.1; omega), ho, hb⟩)
  have BG := Aside0.mk (And.intro B9.out hgb)
  clear MK ho hb hg hnew hfar hgl K9 S0 S1 HB B9 hgb
  generalize w2.heap.size = b9 at *
  go_cut [12] (fun v12 wx => Aside0 (∃ (C : List S62) (L : List (List Int)) (j : Nat), HState w wx n b9 g11 c11 C L ∧ Plain.PInv n C L j ∧ j ≤ 60))
  case rest => as_aux_lemma =>
    obtain ⟨C, L, j, ⟨v0, v1, k9, hs0, hs1, hsl, hBW⟩, hP, hj⟩ := hcut.out
    obtain ⟨Az, cz, rfl⟩ := Kd.S_slice hs0
    obtain ⟨Aw, cw, rfl⟩ := Kd.S_slice hs1
    rw [List.length_replicate] at k9 hs0
    obtain ⟨hff, hcf, hfl⟩ := Plain.fl_facts hP HN.out.1 HN.out.2 hj l3
    have HLLn := Aside0.mk hP.ll
    have hget := fun k hk => Plain.get_facts hP HN.out.1 HN.out.2 hj k hk
    obtain ⟨F, hF⟩ : ∃ F, F = Plain.fl n C := ⟨_, rfl⟩
    rw [← hF] at hff hcf hfl hget
    have CZ := Aside0.mk (show Kd.C (Kd.slice 5 (Kd.int .u8)) wc Az (Plain.zs n).length (Plain.zs n) from (Kd.S_reads' hs0).2.2)
    have LZ := Aside0.mk (show n ≤ cz from (Kd.S_reads' hs0).2.1)
    have CW := Aside0.mk (Kd.S_reads' hs1).2.2
    have LW := Aside0.mk (Kd.S_reads' hs1).2.1
    have CL := Aside0.mk (Kd.S_reads' hsl).2.2
    have LL := Aside0.mk (Kd.S_reads' hsl).1
    have K9 := Aside0.mk k9
    have HB := Aside0.mk hBW
    have HF := Aside0.mk (And.intro hff (And.intro hcf (And.intro hfl hget)))
    have hflush := disk_Flush.calls Az cz (Plain.zs n) Aw cw C F [] 0 wc CZ.out (by rw [List.length_replicate]; exact LZ.out) CW.out LW.out hff
    rw [List.length_replicate] at hflush
    have HFL := Aside0.mk hflush
    have y0 := (blk_cell k9 0).trans rfl
    have y1 := (blk_cell k9 1).trans rfl
    clear k9 hs0 hs1 hsl hBW hP hj hff hcf hfl hget hF hflush hcut HR1 HR2
    go_upto_block 2 with (first | (go_at_call 18; refine HFL.out.mono ?_; rintro e w5 ⟨v2, v3, rfl, hs2, hs3, hb⟩; obtain ⟨Af, cf, rfl⟩ := Kd.S_slice hs2; obtain ⟨Ag, cg, rfl⟩ := Kd.S_slice hs3; have CF := Aside0.mk (Kd.C_alloc (Kd.S_reads' hs2).2.2 (.cells #[.slice Af F.length cf, .slice Ag 0 cg] 30)); have LF := Aside0.mk (Kd.S_reads' hs2).2.1; have CG := Aside0.mk (Kd.C_alloc (Kd.S_reads' hs3).2.2 (.cells #[.slice Af F.length cf, .slice Ag 0 cg] 30)); replace CZ := Aside0.mk (Kd.C_alloc (Kd.C_below CZ.out hb) (.cells #[.slice Af F.length cf, .slice Ag 0 cg] 30)); replace CW := Aside0.mk (Kd.C_alloc (Kd.C_below CW.out hb) (.cells #[.slice Af F.length cf, .slice Ag 0 cg] 30)); replace CL := Aside0.mk (Kd.C_alloc (Kd.C_below CL.out hb) (.cells #[.slice Af F.length cf, .slice Ag 0 cg] 30)); replace K9 := Aside0.mk (blk_alloc (blk_below K9.out hb) (.cells #[.slice Af F.length cf, .slice Ag 0 cg] 30)); have K17 := Aside0.mk (heap_alloc_new w5 (.cells #[.slice Af F.length cf, .slice Ag 0 cg] 30)); replace HB := Aside0.mk (below_alloc (HB.out.trans (hb.mono HB.out.size)) (.cells #[.slice Af F.length cf, .slice Ag 0 cg] 30)); clear hb hs2 hs3 y0 y1; have y0 := (blk_cell K17.out 0).trans rfl; have y1 := (blk_cell K17.out 1).trans rfl) | (go_at_call 9; refine (disk_Crash.calls Af cf F Ag cg [] A3 c3 l3 F [] 0 _ CF.out LF.out CG.out (Nat.zero_le _) (Kd.C_below HR3.out HB.out) HL.out.2.2 HF.out.2.1).mono ?_; rintro e w6 ⟨v4, v5, rfl, hs2, hs3, hb⟩; obtain ⟨Ah, ch, rfl⟩ := Kd.S_slice hs2; obtain ⟨Ai, ci, rfl⟩ := Kd.S_slice hs3; have CH := Aside0.mk (Kd.C_alloc (Kd.S_reads' hs2).2.2 (.cells #[.slice Ah F.length ch, .slice Ai 0 ci] 30)); have LH := Aside0.mk (Kd.S_reads' hs2).2.1; have CI := Aside0.mk (Kd.C_alloc (Kd.S_reads' hs3).2.2 (.cells #[.slice Ah F.length ch, .slice Ai 0 ci] 30)); replace CF := Aside0.mk (Kd.C_alloc (Kd.C_below CF.out hb) (.cells #[.slice Ah F.length ch, .slice Ai 0 ci] 30)); replace CG := Aside0.mk (Kd.C_alloc (Kd.C_below CG.out hb) (.cells #[.slice Ah F.length ch, .slice Ai 0 ci] 30)); replace CZ := Aside0.mk (Kd.C_alloc (Kd.C_below CZ.out hb) (.cells #[.slice Ah F.length ch, .slice Ai 0 ci] 30)); replace CW := Aside0.mk (Kd.C_alloc (Kd.C_below CW.out hb) (.cells #[.slice Ah F.length ch, .slice Ai 0 ci] 30)); replace CL := Aside0.mk (Kd.C_alloc (Kd.C_below CL.out hb) (.cells #[.slice Ah F.length ch, .slice Ai 0 ci] 30)); replace K9 := Aside0.mk (blk_alloc (blk_below K9.out hb) (.cells #[.slice Ah F.length ch, .slice Ai 0 ci] 30)); replace K17 := Aside0.mk (blk_alloc (blk_below K17.out hb) (.cells #[.slice Ah F.length ch, .slice Ai 0 ci] 30)); have K19 := Aside0.mk (heap_alloc_new w6 (.cells #[.slice Ah F.length ch, .slice Ai 0 ci] 30)); replace HB := Aside0.mk (below_alloc (HB.out.trans (hb.mono HB.out.size)) (.cells #[.slice Ah F.length ch, .slice Ai 0 ci] 30)); clear hb hs2 hs3 y0 y1) | (go_at_call 11; refine (undercroftlaw03_num.calls 0 0 _ rfl).mono ?_; rintro e w7 ⟨rfl, hd⟩; have hb := hd.below; replace CF := Aside0.mk (Kd.C_below CF.out hb); replace CG := Aside0.mk (Kd.C_below CG.out hb); replace CH := Aside0.mk (Kd.C_below CH.out hb); replace CI := Aside0.mk (Kd.C_below CI.out hb); replace CZ := Aside0.mk (Kd.C_below CZ.out hb); replace CW := Aside0.mk (Kd.C_below CW.out hb); replace CL := Aside0.mk (Kd.C_below CL.out hb); replace K9 := Aside0.mk (blk_below K9.out hb); replace K17 := Aside0.mk (blk_below K17.out hb); replace K19 := Aside0.mk (blk_below K19.out hb); replace HB := Aside0.mk (HB.out.trans (hb.mono HB.out.size)); clear hb hd))
    clear HFL HR3 HL LL
    have HSM := Aside0.mk (show ∀ W : List Int, W.length = 64 → undercroftplain_SameBytes.f 100 W W = some true from fun W h => Plain.same_f W (by omega) 100 (by omega))
    have G1 := Aside0.mk (show ∀ (q : Nat) (W : List Int) (w' : World), Below w7.heap.size w7 w' → disk_Get.f (Plain.zs n) C (q : Int) = some (W, 0) → Calls Try.prog 12 #[.agg #[.slice Az n cz, .slice Aw C.length cw], .int .i64 (q : Int)] w' fun e w'' => ∃ v0_ : Value, e = .returned (.tuple #[v0_, .int .i64 0]) ∧ Kd.R (Kd.int .u8) 5 w'' w'.heap.size (fun _ => True) v0_ W ∧ Below w'.heap.size w' w'' from fun q W w' hb hg => by
      have := disk_Get.calls Az cz (Plain.zs n) Aw cw C (q : Int) W 0 w' (Kd.C_below CZ.out hb) (by rw [List.length_replicate]; exact LZ.out) (Kd.C_below CW.out hb) LW.out hg
      rwa [List.length_replicate] at this)
    have G2 := Aside0.mk (show ∀ (q : Nat) (W : List Int) (w' : World), Below w7.heap.size w7 w' → disk_Get.f F [] (q : Int) = some (W, 0) → Calls Try.prog 12 #[.agg #[.slice Af F.length cf, .slice Ag 0 cg], .int .i64 (q : Int)] w' fun e w'' => ∃ v0_ : Value, e = .returned (.tuple #[v0_, .int .i64 0]) ∧ Kd.R (Kd.int .u8) 5 w'' w'.heap.size (fun _ => True) v0_ W ∧ Below w'.heap.size w' w'' from fun q W w' hb hg =>
      disk_Get.calls Af cf F Ag cg [] (q : Int) W 0 w' (Kd.C_below CF.out hb) LF.out (Kd.C_below CG.out hb) (Nat.zero_le _) hg)
    have G3 := Aside0.mk (show ∀ (q : Nat) (W : List Int) (w' : World), Below w7.heap.size w7 w' → disk_Get.f F [] (q : Int) = some (W, 0) → Calls Try.prog 12 #[.agg #[.slice Ah F.length ch, .slice Ai 0 ci], .int .i64 (q : Int)] w' fun e w'' => ∃ v0_ : Value, e = .returned (.tuple #[v0_, .int .i64 0]) ∧ Kd.R (Kd.int .u8) 5 w'' w'.heap.size (fun _ => True) v0_ W ∧ Below w'.heap.size w' w'' from fun q W w' hb hg =>
      disk_Get.calls Ah ch F Ai ci [] (q : Int) W 0 w' (Kd.C_below CH.out hb) LH.out (Kd.C_below CI.out hb) (Nat.zero_le _) hg)
    have HLn := Aside0.mk (show L.length = n from HLLn.out)
    clear CF CG CH CI CZ CW LF LH LZ LW
    generalize w5.heap.size = b17 at *
    generalize w6.heap.size = b19 at *
    go_wp2_with fail
    go_loopg [21] (n + 1) (fun gg s21 wr => ∃ q : Nat, s21 = .int .i64 (q : Int) ∧ Aside0 (q ≤ n ∧ n - q < gg ∧ Below w7.heap.size w7 wr))
    case atStart => exact ⟨0, rfl, ⟨by omega, by omega, Below.refl _ _⟩⟩
    case round => as_aux_lemma =>
      obtain ⟨q, rfl, Z⟩ := hrel
      by_cases hlt : q < n
      · as_aux_lemma =>
        have d1 : decide (q < n) = true := decide_eq_true hlt
        have d2 : decide ((q : Int) < (n : Int)) = true := decide_eq_true (by omega)
        obtain ⟨hq, hgk, hBq⟩ := Z.out
        obtain ⟨W, hW, hg1, hg2, hc⟩ := HF.out.2.2.2 q hlt
        obtain ⟨ad, Al, cl, e, hx, hll, hCl⟩ := at_L1 CL.out (q : Int) (by omega) (by rw [HLn.out]; omega)
        cases e
        have erd : rd_L1 L (q : Int) = L.getD q [] := by unfold rd_L1; rw [Int.toNat_natCast]
        rw [erd] at hx hll hCl
        replace hx := (hBq.cell (World.block_lt_of_cell? w7 _ hx)).trans hx
        simp only [add_plain, Int.toNat_natCast] at hx
        replace G1 := Aside0.mk (fun w' hb => G1.out q W w' hb hg1)
        replace G2 := Aside0.mk (fun w' hb => G2.out q W w' hb hg2)
        replace G3 := Aside0.mk (fun w' hb => G3.out q W w' hb hg2)
        replace HSM := Aside0.mk (HSM.out W hW)
        have BZ := Aside0.mk hBq
        have y0 := (blk_cell (blk_below K9.out hBq) 0).trans rfl
        have y1 := (blk_cell (blk_below K9.out hBq) 1).trans rfl
        have p1 := eq_true (show (0 : Int) ≤ (q : Int) by omega)
        have p2 := eq_true (show (q : Int) < (n : Int) by omega)
        have X := Aside0.mk (And.intro hlt hgk)
        have HW := Aside0.mk hW
        have HCl := Aside0.mk (Kd.C_below hCl hBq)
        have HLl := Aside0.mk hll
        have HBq := Aside0.mk hBq
        clear hlt hq hgk hBq hW hg1 hg2 hll hCl erd Z
        rcases hc with ⟨h1, h2⟩ | ⟨h1, h2⟩
        · as_aux_lemma =>
          rw [h1] at hx
          have H2 := Aside0.mk h2
          clear h1 h2
          go_wp2_with (first | (go_at_call_of 12 (Value.agg #[Value.slice Az n cz, Value.slice Aw C.length cw]); refine (G1.out _ BZ.out).mono ?_; rintro e w22_ ⟨v, rfl, hr, hb⟩; obtain ⟨A22, c22, rfl⟩ := Kd.R_slice hr; have C22 := Aside0.mk (Kd.R_reads' hr).2.2; have L22 := Aside0.mk (Kd.R_reads' hr).2.1;  replace BZ := Aside0.mk (BZ.out.trans (hb.mono BZ.out.size)); replace hx := (hb.cell (World.block_lt_of_cell? _ _ hx)).trans hx; clear hb hr y0 y1; have y0 := (blk_cell (blk_below K17.out BZ.out) 0).trans rfl; have y1 := (blk_cell (blk_below K17.out BZ.out) 1).trans rfl) | (go_at_call_of 12 (Value.agg #[Value.slice Af F.length cf, Value.slice Ag 0 cg]); refine (G2.out _ BZ.out).mono ?_; rintro e w24_ ⟨v, rfl, hr, hb⟩; obtain ⟨A24, c24, rfl⟩ := Kd.R_slice hr; have C24 := Aside0.mk (Kd.R_reads' hr).2.2; have L24 := Aside0.mk (Kd.R_reads' hr).2.1; replace C22 := Aside0.mk (Kd.C_below C22.out hb); replace BZ := Aside0.mk (BZ.out.trans (hb.mono BZ.out.size)); replace hx := (hb.cell (World.block_lt_of_cell? _ _ hx)).trans hx; clear hb hr y0 y1; have y0 := (blk_cell (blk_below K19.out BZ.out) 0).trans rfl; have y1 := (blk_cell (blk_below K19.out BZ.out) 1).trans rfl) | (go_at_call_of 12 (Value.agg #[Value.slice Ah F.length ch, Value.slice Ai 0 ci]); refine (G3.out _ BZ.out).mono ?_; rintro e w26_ ⟨v, rfl, hr, hb⟩; obtain ⟨A26, c26, rfl⟩ := Kd.R_slice hr; have C26 := Aside0.mk (Kd.R_reads' hr).2.2; have L26 := Aside0.mk (Kd.R_reads' hr).2.1; replace C22 := Aside0.mk (Kd.C_below C22.out hb); replace C24 := Aside0.mk (Kd.C_below C24.out hb); replace BZ := Aside0.mk (BZ.out.trans (hb.mono BZ.out.size)); replace hx := (hb.cell (World.block_lt_of_cell? _ _ hx)).trans hx; clear hb hr y0 y1; have y0 := True.intro; have y1 := True.intro) | ((with_reducible refine gate_dst (N := 150) rfl ?_); refine Kd.R_make (Kd.int .u8) _ 5 rfl (N := 150) rfl 36 _ _ rfl 64 rfl rfl Try.underlying36 (.int .u8 0) 1 info5 rfl (by decide) (by omega) 0 (ok := fun _ => True) (okp := fun _ => True) rfl (fun _ hk => hk) trivial (by omega) (by omega) (Below.refl _ _) (Nat.le_refl _) ?_; intro v28 w8_ ho hb hg hnew; rw [show List.replicate (64 : Int).toNat (0 : Int) = W from H2.out.symm] at ho; obtain ⟨Av, cv, rfl⟩ := Kd.R_slice ho; have CV := Aside0.mk (Kd.R_reads' ho).2.2; have LV := Aside0.mk (Kd.R_reads' ho).2.1; replace C22 := Aside0.mk (Kd.C_below C22.out hb); replace C24 := Aside0.mk (Kd.C_below C24.out hb); replace C26 := Aside0.mk (Kd.C_below C26.out hb); replace BZ := Aside0.mk (BZ.out.trans (hb.mono BZ.out.size)); clear ho hb hg hnew) | (go_at_call 11; refine (undercroftlaw03_num.calls 0 0 _ rfl).mono ?_; rintro e w9_ ⟨rfl, hd⟩; have hb := hd.below; replace C22 := Aside0.mk (Kd.C_below C22.out hb); replace C24 := Aside0.mk (Kd.C_below C24.out hb); replace C26 := Aside0.mk (Kd.C_below C26.out hb); replace CV := Aside0.mk (Kd.C_below CV.out hb); replace BZ := Aside0.mk (BZ.out.trans (hb.mono BZ.out.size)); clear hb hd) | (go_at_call_of 13 (Value.slice A22 W.length c22); refine (undercroftplain_SameBytes.calls 100 A22 c22 W Av cv W true _ C22.out L22.out CV.out LV.out HSM.out).mono ?_; rintro e w22_ ⟨rfl, hd⟩; have hb := hd.below; replace C22 := Aside0.mk (Kd.C_below C22.out hb); replace C24 := Aside0.mk (Kd.C_below C24.out hb); replace C26 := Aside0.mk (Kd.C_below C26.out hb); replace CV := Aside0.mk (Kd.C_below CV.out hb); replace BZ := Aside0.mk (BZ.out.trans (hb.mono BZ.out.size)); clear hb hd) | (go_at_call_of 13 (Value.slice A24 W.length c24); refine (undercroftplain_SameBytes.calls 100 A24 c24 W Av cv W true _ C24.out L24.out CV.out LV.out HSM.out).mono ?_; rintro e w24_ ⟨rfl, hd⟩; have hb := hd.below; replace C22 := Aside0.mk (Kd.C_below C22.out hb); replace C24 := Aside0.mk (Kd.C_below C24.out hb); replace C26 := Aside0.mk (Kd.C_below C26.out hb); replace CV := Aside0.mk (Kd.C_below CV.out hb); replace BZ := Aside0.mk (BZ.out.trans (hb.mono BZ.out.size)); clear hb hd) | (go_at_call_of 13 (Value.slice A26 W.length c26); refine (undercroftplain_SameBytes.calls 100 A26 c26 W Av cv W true _ C26.out L26.out CV.out LV.out HSM.out).mono ?_; rintro e w26_ ⟨rfl, hd⟩; have hb := hd.below; replace C22 := Aside0.mk (Kd.C_below C22.out hb); replace C24 := Aside0.mk (Kd.C_below C24.out hb); replace C26 := Aside0.mk (Kd.C_below C26.out hb); replace CV := Aside0.mk (Kd.C_below CV.out hb); replace BZ := Aside0.mk (BZ.out.trans (hb.mono BZ.out.size)); clear hb hd))
          obtain ⟨hlt, hgk⟩ := X.out
          have hw : wrap64 ((q : Int) + 1) = ((q + 1 : Nat) : Int) := by have := HN.out.2; unfold wrap64; omega
          obtain ⟨gg, rfl⟩ : ∃ m, gk = m + 1 := ⟨gk - 1, by omega⟩
          (try rw [hw])
          go_roundg gg
          case measure => omega
          case rel => exact ⟨q + 1, rfl, ⟨by omega, by omega, BZ.out⟩⟩
        · as_aux_lemma =>
          rw [← h2] at hx h1
          have CV := Aside0.mk (show Kd.C (Kd.int .u8) wr Al W.length W by rw [h2]; exact HCl.out)
          have LV := Aside0.mk (show W.length ≤ cl by rw [h2]; exact HLl.out)
          have d3 : ((W.length : Int) == 0) = false := beq_eq_false_iff_ne.2 (by omega)
          clear h1 h2
          go_wp2_with (first | (go_at_call_of 12 (Value.agg #[Value.slice Az n cz, Value.slice Aw C.length cw]); refine (G1.out _ BZ.out).mono ?_; rintro e w22_ ⟨v, rfl, hr, hb⟩; obtain ⟨A22, c22, rfl⟩ := Kd.R_slice hr; have C22 := Aside0.mk (Kd.R_reads' hr).2.2; have L22 := Aside0.mk (Kd.R_reads' hr).2.1;  replace CV := Aside0.mk (Kd.C_below CV.out hb); replace BZ := Aside0.mk (BZ.out.trans (hb.mono BZ.out.size)); replace hx := (hb.cell (World.block_lt_of_cell? _ _ hx)).trans hx; clear hb hr y0 y1; have y0 := (blk_cell (blk_below K17.out BZ.out) 0).trans rfl; have y1 := (blk_cell (blk_below K17.out BZ.out) 1).trans rfl) | (go_at_call_of 12 (Value.agg #[Value.slice Af F.length cf, Value.slice Ag 0 cg]); refine (G2.out _ BZ.out).mono ?_; rintro e w24_ ⟨v, rfl, hr, hb⟩; obtain ⟨A24, c24, rfl⟩ := Kd.R_slice hr; have C24 := Aside0.mk (Kd.R_reads' hr).2.2; have L24 := Aside0.mk (Kd.R_reads' hr).2.1; replace C22 := Aside0.mk (Kd.C_below C22.out hb); replace CV := Aside0.mk (Kd.C_below CV.out hb); replace BZ := Aside0.mk (BZ.out.trans (hb.mono BZ.out.size)); replace hx := (hb.cell (World.block_lt_of_cell? _ _ hx)).trans hx; clear hb hr y0 y1; have y0 := (blk_cell (blk_below K19.out BZ.out) 0).trans rfl; have y1 := (blk_cell (blk_below K19.out BZ.out) 1).trans rfl) | (go_at_call_of 12 (Value.agg #[Value.slice Ah F.length ch, Value.slice Ai 0 ci]); refine (G3.out _ BZ.out).mono ?_; rintro e w26_ ⟨v, rfl, hr, hb⟩; obtain ⟨A26, c26, rfl⟩ := Kd.R_slice hr; have C26 := Aside0.mk (Kd.R_reads' hr).2.2; have L26 := Aside0.mk (Kd.R_reads' hr).2.1; replace C22 := Aside0.mk (Kd.C_below C22.out hb); replace C24 := Aside0.mk (Kd.C_below C24.out hb); replace CV := Aside0.mk (Kd.C_below CV.out hb); replace BZ := Aside0.mk (BZ.out.trans (hb.mono BZ.out.size)); replace hx := (hb.cell (World.block_lt_of_cell? _ _ hx)).trans hx; clear hb hr y0 y1; have y0 := True.intro; have y1 := True.intro) | (go_at_call 11; refine (undercroftlaw03_num.calls 0 0 _ rfl).mono ?_; rintro e w9_ ⟨rfl, hd⟩; have hb := hd.below; replace C22 := Aside0.mk (Kd.C_below C22.out hb); replace C24 := Aside0.mk (Kd.C_below C24.out hb); replace C26 := Aside0.mk (Kd.C_below C26.out hb); replace CV := Aside0.mk (Kd.C_below CV.out hb); replace BZ := Aside0.mk (BZ.out.trans (hb.mono BZ.out.size)); clear hb hd) | (go_at_call_of 13 (Value.slice A22 W.length c22); refine (undercroftplain_SameBytes.calls 100 A22 c22 W Al cl W true _ C22.out L22.out CV.out LV.out HSM.out).mono ?_; rintro e w22_ ⟨rfl, hd⟩; have hb := hd.below; replace C22 := Aside0.mk (Kd.C_below C22.out hb); replace C24 := Aside0.mk (Kd.C_below C24.out hb); replace C26 := Aside0.mk (Kd.C_below C26.out hb); replace CV := Aside0.mk (Kd.C_below CV.out hb); replace BZ := Aside0.mk (BZ.out.trans (hb.mono BZ.out.size)); clear hb hd) | (go_at_call_of 13 (Value.slice A24 W.length c24); refine (undercroftplain_SameBytes.calls 100 A24 c24 W Al cl W true _ C24.out L24.out CV.out LV.out HSM.out).mono ?_; rintro e w24_ ⟨rfl, hd⟩; have hb := hd.below; replace C22 := Aside0.mk (Kd.C_below C22.out hb); replace C24 := Aside0.mk (Kd.C_below C24.out hb); replace C26 := Aside0.mk (Kd.C_below C26.out hb); replace CV := Aside0.mk (Kd.C_below CV.out hb); replace BZ := Aside0.mk (BZ.out.trans (hb.mono BZ.out.size)); clear hb hd) | (go_at_call_of 13 (Value.slice A26 W.length c26); refine (undercroftplain_SameBytes.calls 100 A26 c26 W Al cl W true _ C26.out L26.out CV.out LV.out HSM.out).mono ?_; rintro e w26_ ⟨rfl, hd⟩; have hb := hd.below; replace C22 := Aside0.mk (Kd.C_below C22.out hb); replace C24 := Aside0.mk (Kd.C_below C24.out hb); replace C26 := Aside0.mk (Kd.C_below C26.out hb); replace CV := Aside0.mk (Kd.C_below CV.out hb); replace BZ := Aside0.mk (BZ.out.trans (hb.mono BZ.out.size)); clear hb hd))
          obtain ⟨hlt, hgk⟩ := X.out
          have hw : wrap64 ((q : Int) + 1) = ((q + 1 : Nat) : Int) := by have := HN.out.2; unfold wrap64; omega
          obtain ⟨gg, rfl⟩ : ∃ m, gk = m + 1 := ⟨gk - 1, by omega⟩
          (try rw [hw])
          go_roundg gg
          case measure => omega
          case rel => exact ⟨q + 1, rfl, ⟨by omega, by omega, BZ.out⟩⟩
      · as_aux_lemma =>
        have d1 : decide (q < n) = false := decide_eq_false hlt
        have d2 : decide ((q : Int) < (n : Int)) = false := decide_eq_false (by omega)
        have HBq := Aside0.mk Z.out.2.2
        clear hlt Z
        go_wp2_with fail
        go_ret
        exact ⟨rfl, HB.out.trans (HBq.out.mono HB.out.size)⟩
  case first => as_aux_lemma =>
    go_wp2_with fail
    go_loopg [12] (l1.length + 1) (fun gg s12 wr => ∃ i : Int, s12 = .int .i64 i ∧ Aside0 (0 ≤ i ∧ i ≤ l1.length ∧ i ≤ 60 ∧ l1.length - i < gg ∧ ∃ (C : List S62) (L : List (List Int)), HState w wr n b9 g11 c11 C L ∧ Plain.PInv n C L i.toNat))
    case atStart => exact ⟨0, rfl, ⟨by omega, by omega, by omega, by omega, [], _, W0.out, Plain.pinv_start n⟩⟩
    case round => as_aux_lemma =>
      obtain ⟨i, rfl, Z⟩ := hrel
      clear W0
      by_cases hlt : i < l1.length ∧ i < l2.length ∧ i < 60
      · as_aux_lemma =>
        obtain ⟨h0, hle, h60, hgk, C, L, ⟨v0, v1, k9, hs0, hs1, hsl, hBW⟩, hP⟩ := Z.out
        have c1' : decide (i < (l1.length : Int)) = true := decide_eq_true hlt.1
        have c2' : decide (i < (l2.length : Int)) = true := decide_eq_true hlt.2.1
        have c3' : decide (i < 60) = true := decide_eq_true hlt.2.2
        obtain ⟨ad, rfl, hx⟩ := Kd.at_int HR1.out i h0 hlt.1
        replace hx := (hBW.cell (World.block_lt_of_cell? w _ hx)).trans hx
        obtain ⟨ad2, Ab, cb, rfl, hx2, hlb, hCb⟩ := at_L1 HR2.out i h0 hlt.2.1
        replace hx2 := (hBW.cell (World.block_lt_of_cell? w _ hx2)).trans hx2
        have p1 := eq_true h0
        have p2 := eq_true hlt.1
        have p3 := eq_true hlt.2.1
        obtain ⟨s, hs, hq⟩ := Plain.mod_in (rd l1 i) n HN.out.1 (by have := HN.out.2; omega)
        have X := Aside0.mk (And.intro h0 (And.intro hlt (And.intro hgk hP)))
        have ST := Aside0.mk (And.intro k9 (And.intro hs0 (And.intro hs1 (And.intro hsl hBW))))
        have CB := Aside0.mk hCb
        have LB := Aside0.mk hlb
        have HS := Aside0.mk hs
        clear hlt h0 hle h60 hgk k9 hs0 hs1 hsl hBW hP hCb hlb hs Z
        have nz : ¬ n = 0 := by have := HN.out.1; omega
        obtain ⟨i5, hi5, hi5b⟩ := Option.map_eq_some_iff.1 info5
        clear hi5b
        obtain ⟨bl, hbl⟩ : ∃ bl, bl = (rd_L1 l2 i).length := ⟨_, rfl⟩
        rw [← hbl] at hx2
        have HBL := Aside0.mk hbl
        go_upto_region 12 with fail
        go_cut [14] (fun v14 wx => ∃ m : Nat, v14 = .slice Ab m cb ∧ Aside0 (m = min bl 64 ∧ Below wr.heap.size wr wx))
        case first => as_aux_lemma =>
          by_cases h64 : bl ≤ 64
          · have sl1 := cut_to (P := Try.prog) 36 5 .i64 Try.underlying36 hi5 Ab bl cb (bl : Int) (by omega) (by omega) (by rw [hbl]; exact LB.out)
            clear hbl
            go_quiet (fail)
            go_wp2_with fail
            go_meet
            case rel => exact ⟨bl, rfl, ⟨by omega, pw_below_drewN (Below.refl _ _) _⟩⟩
          · have sl1 := cut_to (P := Try.prog) 36 5 .i64 Try.underlying36 hi5 Ab bl cb 64 (by omega) (by omega) (by rw [hbl]; exact LB.out)
            clear hbl
            go_quiet (fail)
            go_wp2_with fail
            go_meet
            case rel => exact ⟨64, rfl, ⟨by omega, pw_below_drewN (Below.refl _ _) _⟩⟩
        case rest => as_aux_lemma =>
          obtain ⟨m, rfl, HM⟩ := hcut
          obtain ⟨hm, hbw⟩ := HM.out
          obtain ⟨k9, hs0, hs1, hsl, hBW⟩ := ST.out
          obtain ⟨b2, hb2⟩ : ∃ b2, b2 = (rd_L1 l2 i).take m := ⟨_, rfl⟩
          have hb2l : b2.length = m := by rw [hb2, List.length_take, hm, ← hbl]; omega
          have hC2 : Kd.C (Kd.int .u8) w Ab b2.length b2 := by rw [hb2]; exact Kd.C_take CB.out (by rw [hm, ← hbl]; omega)
          have hm64 : m ≤ 64 := by omega
          have hmc : m ≤ cb := by have := LB.out; omega
          obtain ⟨Az, cz, rfl⟩ := Kd.S_slice hs0
          obtain ⟨Aw, cw, rfl⟩ := Kd.S_slice hs1
          replace hs0 := Kd.S_below hs0 hbw
          replace hs1 := Kd.S_below hs1 hbw
          replace hsl := Kd.S_below hsl hbw
          replace k9 := blk_below k9 hbw
          replace hBW := hBW.trans (hbw.mono hBW.size)
          rw [List.length_replicate] at k9 hs0
          obtain ⟨C', hC'⟩ : ∃ C', C' = C ++ [(⟨(s : Int), padB b2⟩ : S62)] := ⟨_, rfl⟩
          have hPI := X.out.2.2.2
          have hputf : disk_Put.f (Plain.zs n) C (s : Int) b2 = some (Plain.zs n, C', 0) := by rw [hC']; exact Plain.put_f hPI HN.out.1 HN.out.2 (by have := X.out.2.1.2.2; have := X.out.1; omega) s HS.out b2 (by omega)
          have hput := disk_Put.calls Az cz (Plain.zs n) Aw cw C (s : Int) Ab cb b2 _ _ 0 wc (by rw [List.length_replicate]; exact (by have := (Kd.S_reads' hs0).2.2; rwa [List.length_replicate] at this)) (by rw [List.length_replicate]; exact (Kd.S_reads' hs0).2.1) (Kd.S_reads' hs1).2.2 (Kd.S_reads' hs1).2.1 (Kd.C_below hC2 hBW) (by omega) hputf
          rw [List.length_replicate, hb2l] at hput
          have hnext : Plain.PInv n C' (L.set s (padB b2)) (i.toNat + 1) := by rw [hC']; exact Plain.pinv_step hPI s HS.out b2
          have hpad : padB b2 = b2 ++ List.replicate (64 - m) 0 := by rw [← hb2l]; exact Plain.padB_eq b2 (by omega)
          have Y := Aside0.mk (And.intro hb2l (And.intro hC2 (And.intro hm64 (And.intro hmc (And.intro hnext hpad)))))
          have K9 := Aside0.mk k9
          have SL := Aside0.mk hsl
          have HB := Aside0.mk hBW
          have HPUT := Aside0.mk hput
          have X1 := Aside0.mk (And.intro X.out.1 (And.intro X.out.2.1 X.out.2.2.1))
          have y0 := (blk_cell k9 0).trans rfl
          have y1 := (blk_cell k9 1).trans rfl
          clear hbw k9 hs0 hs1 hsl hBW hb2 hb2l hC2 hm64 hmc hC' hPI hputf hput hnext hpad hm hbl X ST CB LB HBL hx hx2 hq HR1 HR2
          go_upto_region 17 with (first | (go_at_call 15; refine HPUT.out.mono ?_; rintro e w5 ⟨v2, v3, rfl, hs2, hs3, hb5⟩; obtain ⟨Az2, cz2, rfl⟩ := Kd.S_slice hs2; obtain ⟨Aw2, cw2, rfl⟩ := Kd.S_slice hs3; rw [List.length_replicate] at hs2; have hgl := Kd.S_lt SL.out g11 rfl; have S2 := Aside0.mk (Kd.S_alloc (Kd.S_lower (Kd.S_mono (Kd.S_bound hs2) (ok' := fun k => k ≠ g11) (fun k hk => by have := hk.2.1; omega)) HB.out.size) (.cells #[.slice Az2 n cz2, .slice Aw2 C'.length cw2] 30)); have S3 := Aside0.mk (Kd.S_alloc (Kd.S_lower (Kd.S_mono (Kd.S_bound hs3) (ok' := fun k => k ≠ g11) (fun k hk => by have := hk.2.1; omega)) HB.out.size) (.cells #[.slice Az2 n cz2, .slice Aw2 C'.length cw2] 30)); have N5 := Aside0.mk (Nat.ne_of_lt (blk_lt (blk_below K9.out hb5))); replace K9 := Aside0.mk (blk_alloc (blk_below K9.out hb5) (.cells #[.slice Az2 n cz2, .slice Aw2 C'.length cw2] 30)); have K15 := Aside0.mk (heap_alloc_new w5 (.cells #[.slice Az2 n cz2, .slice Aw2 C'.length cw2] 30)); replace SL := Aside0.mk (Kd.S_alloc (Kd.S_below SL.out hb5) (.cells #[.slice Az2 n cz2, .slice Aw2 C'.length cw2] 30)); replace HB := Aside0.mk (below_alloc (HB.out.trans (hb5.mono HB.out.size)) (.cells #[.slice Az2 n cz2, .slice Aw2 C'.length cw2] 30)); clear hb5 hs2 hs3 hgl y0 y1) | (go_at_call 11; refine (undercroftlaw03_num.calls 0 0 _ rfl).mono ?_; rintro e w6 ⟨rfl, hd⟩; have hb := hd.below; replace K9 := Aside0.mk (blk_below K9.out hb); replace K15 := Aside0.mk (blk_below K15.out hb); replace S2 := Aside0.mk (Kd.S_below S2.out hb); replace S3 := Aside0.mk (Kd.S_below S3.out hb); replace SL := Aside0.mk (Kd.S_below SL.out hb); replace HB := Aside0.mk (HB.out.trans (hb.mono HB.out.size)); clear hb hd; have e5 := (blk_cell K9.out 0).trans rfl; have e6 := (blk_cell K9.out 1).trans rfl; have e7 := (blk_cell K15.out 0).trans rfl; have e8 := (blk_cell K15.out 1).trans rfl; have e9 := blk_frozen K9.out 0; have e10 := blk_frozen K9.out 1; have n5 := N5.out; have n6 := N5.out.symm))
          have q0 := blk_put K9.out 0 (.slice Az2 n cz2) (cs' := #[.slice Az2 n cz2, .slice Aw C.length cw]) rfl
          have q1 := blk_put q0 1 (.slice Aw2 C'.length cw2) (cs' := #[.slice Az2 n cz2, .slice Aw2 C'.length cw2]) rfl
          have T2 := Aside0.mk (Kd.S_set (Kd.S_set S2.out K9.out (by decide) 0 (.slice Az2 n cz2)) q0 (by decide) 1 (.slice Aw2 C'.length cw2))
          have T3 := Aside0.mk (Kd.S_set (Kd.S_set S3.out K9.out (by decide) 0 (.slice Az2 n cz2)) q0 (by decide) 1 (.slice Aw2 C'.length cw2))
          have TL := Aside0.mk (Kd.S_set (Kd.S_set SL.out K9.out (by decide) 0 (.slice Az2 n cz2)) q0 (by decide) 1 (.slice Aw2 C'.length cw2))
          have TB := Aside0.mk (below_set (below_set HB.out BG.out.1 (j := 0) (v := .slice Az2 n cz2)) BG.out.1 (j := 1) (v := .slice Aw2 C'.length cw2))
          have TC := Aside0.mk (Kd.C_below Y.out.2.1 TB.out)
          have Q1 := Aside0.mk q1
          clear q0 q1 S2 S3 SL HB K9 K15 N5 e5 e6 e7 e8 e9 e10 n5 n6
          generalize ((w6.setCell ⟨b9, 0, none⟩ (.slice Az2 n cz2)).setCell ⟨b9, 1, none⟩ (.slice Aw2 C'.length cw2) : World) = W7 at *
          have hs0 : (0 : Int) ≤ (s : Int) := by omega
          have hs1 : (s : Int) < (n : Int) := by have := HS.out; omega
          obtain ⟨oki, cl, hcl, hM, hcc, hoki, hH0⟩ := Kd.S_lend TL.out ([] : List Int) (s : Int) hs0 hs1
          have hH := Kd.H_widen hH0
          have N9 := Aside0.mk (Kd.S_ne TL.out Q1.out (by decide))
          have HSG := Aside0.mk (show ∀ (w9 : World) (v9 : Value), (Kd.int .u8).R 5 w9 W7.heap.size (fun _ => True) v9 (b2 ++ List.replicate (64 - (m : Int)).toNat 0) → (Kd.slice 5 (Kd.int .u8)).M w9 w.heap.size (fun k => W7.heap.size ≤ k) (padB b2) (cl.take 0 ++ [v9] ++ cl.drop (0 + [v9].length)) from fun w9 v9 h9 => by
            have e : cl.take 0 ++ [v9] ++ cl.drop (0 + [v9].length) = [v9] := by
              rw [List.take_zero, List.nil_append, List.drop_of_length_le (by rw [hcl]; exact Nat.le_refl _), List.append_nil]
            rw [e, Y.out.2.2.2.2.2, show 64 - m = (64 - (m : Int)).toNat by omega]
            exact ⟨v9, rfl, Kd.R_lower (Kd.R_mono (Kd.R_bound h9) (fun k hk => hk.2.1)) TB.out.size⟩)
          have hcopy := undercroftplain_CopyBytes.calls Ab cb b2 b2 W7 TC.out (by have := Y.out.2.2.2.1; have := Y.out.1; omega) (Plain.copyb b2 (by have := Y.out.1; have := Y.out.2.2.1; omega))
          rw [Y.out.1] at hcopy
          have HCP := Aside0.mk hcopy
          have HH := Aside0.mk hH
          have HCL := Aside0.mk hcl
          have p4 := eq_true hs0
          have p5 := eq_true hs1
          have hm64 := Y.out.2.2.1
          clear hM hcc hoki hH0 hH hcopy hcl hs0 hs1 TL
          go_wp2_with (first | (go_at_call 14; refine HCP.out.mono ?_; rintro e w8 ⟨v8, rfl, hr8, hb8⟩; obtain ⟨A8, c8, rfl⟩ := Kd.R_slice hr8; have R8 := Aside0.mk hr8; have B8 := Aside0.mk hb8; clear hr8 hb8) | (at_builtin; refine Kd.R_append_zeros (Kd.int .u8) (w0 := W7) W7.heap.size rfl (.tmp 97) (.tmp 100) 36 3 5 (.int .u8 0) 1 rfl Try.underlying36 Try.underlying3 info5 rfl (by decide) (by omega) (.slice A8 b2.length c8) b2 0 (64 - (m : Int)) (fun _ => True) rfl rfl rfl (fun _ _ => trivial) R8.out (by omega) B8.out B8.out.size (by have := Y.out.1; omega) ?_; intro v9 w9 ho hb hg hat; have H9 := Aside0.mk (Kd.H_grown (Kd.H_below HH.out B8.out) hg (fun k hk => .inr ⟨trivial, Kd.R_base R8.out k hk⟩)); have R9 := Aside0.mk ho; have B9 := Aside0.mk hb; clear ho hb hg hat HH R8 B8) | ((with_reducible refine gate_store (t := 36) (p := 102) rfl ?_); refine Kd.H_store (Kd.slice 5 (Kd.int .u8)) (w0 := w) w.heap.size rfl rfl 36 (.tmp 102) (.tmp 101) rfl 36 (g := g11) (n := n) (cap := c11) (o' := s) (s : Int) 0 L (padB b2) v9 [v9] cl (fun _ => True) (fun k => oki k ∨ True ∧ W7.heap.size ≤ k) (fun k => W7.heap.size ≤ k) rfl (by show s = (s : Int).toNat * 1 + 0; omega) rfl ?sA ?sB ?sC H9.out ?sD ?sE ?sF ?sG (fun k hk => .inr ⟨trivial, hk⟩) ?sH ?_; (case sA => obtain ⟨A, c, rfl⟩ := Kd.R_slice R9.out; rfl); (case sB => kernel_rfl); (case sC => intro q hq; obtain ⟨A, c, e⟩ := Kd.R_slice R9.out; rw [List.mem_singleton.1 hq, e]; rfl); (case sD => exact of_eq_true p4); (case sE => exact of_eq_true p5); (case sF => exact Nat.le_refl _); (case sG => exact HSG.out _ _ R9.out); (case sH => exact TB.out.trans (B9.out.mono TB.out.size)); intro w10 hs hb hg; have E10 := Aside0.mk (And.intro hs (And.intro hb hg)); clear hs hb hg))
          obtain ⟨hsl, hb10, hg10⟩ := E10.out
          rw [Int.toNat_natCast] at hsl
          obtain ⟨hi0, hi1, hi2⟩ := X1.out
          have hw : wrap64 (i + 1) = i + 1 := by unfold wrap64; omega
          obtain ⟨gg, rfl⟩ : ∃ m, gk = m + 1 := ⟨gk - 1, by omega⟩
          (try rw [hw])
          have hne : b9 ≠ g11 := fun e => N9.out (by rw [e]; rfl)
          have hne2 : ∀ k, k ≠ g11 → some k ≠ some g11 := fun k hk e => hk (by injection e)
          have hPn : Plain.PInv n C' (L.set s (padB b2)) (i + 1).toNat := by
            rw [show (i + 1).toNat = i.toNat + 1 by omega]
            exact Y.out.2.2.2.2.1
          go_roundg gg
          case measure => omega
          case rel => exact ⟨i + 1, rfl, ⟨by omega, by omega, by omega, by omega, C', _, ⟨_, _, blk_grown (blk_below Q1.out B9.out) hg10 (hne2 _ hne), Kd.S_grown (Kd.S_below T2.out B9.out) hg10 hne2, Kd.S_grown (Kd.S_below T3.out B9.out) hg10 hne2, hsl, hb10⟩, hPn⟩⟩
      · as_aux_lemma =>
        have hst : ∃ (C : List S62) (L : List (List Int)) (j : Nat), HState w wr n b9 g11 c11 C L ∧ Plain.PInv n C L j ∧ j ≤ 60 := by
          obtain ⟨_, _, h60, _, C, L, h1, h2⟩ := Z.out
          exact ⟨C, L, i.toNat, h1, h2, by omega⟩
        have HST := Aside0.mk hst
        have c3 : ((decide (i < (l1.length : Int)) = true ∧ decide (i < (l2.length : Int)) = true ∧ decide (i < 60) = false) ∨ (decide (i < (l1.length : Int)) = true ∧ decide (i < (l2.length : Int)) = false)) ∨ decide (i < (l1.length : Int)) = false := by
          by_cases h : i < (l1.length : Int)
          · by_cases h2 : i < (l2.length : Int)
            · exact .inl (.inl ⟨decide_eq_true h, decide_eq_true h2, decide_eq_false (fun h3 => hlt ⟨h, h2, h3⟩)⟩)
            · exact .inl (.inr ⟨decide_eq_true h, decide_eq_false h2⟩)
          · exact .inr (decide_eq_false h)
        clear hlt Z hst
        rcases c3 with (⟨c1', c2', c3'⟩ | ⟨c1', c2'⟩) | c1'
        all_goals
          go_wp2_with fail
          go_meet
          case rel => exact HST
end Go.Proofs.Ytbohhjhehjkliaa.T
