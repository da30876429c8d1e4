/- NetCounts: the whole walk. -/
import Derived.Test.YtgglmibbbjallaaPg
import Derived.Deep.DeepCutAuto
namespace Go.Proofs.Ytgglmibbbjallaa.T
open Go.RowKit Go.Proofs.YtgglmibbbjallaaW.PrintWords Go.Proofs.YtgglmibbbjallaaW.PrintLast Go.Proofs.YtgglmibbbjallaaW.PrintMore
attribute [local go_sem] max2_int min2_int max_two min_two max_three min_three max_four min_four   -- for this text's walks alone
set_option linter.unusedVariables false
set_option linter.unusedSimpArgs false
/-- Between two rounds: what is there and what is wanted. -/
def CState (w wr : World) (b5 : Nat) (lim : Int) (v7 : Value) : Prop := ∃ (want : List Int) (P : List S40) (vP : Value), P = want.map Plain.pk ∧ want.length ≤ lim ∧ wr.heap[b5]? = some (.cells #[.int .i64 lim, vP] 32 (0, 0)) ∧ Kd.S k40 40 wr w.heap.size (fun k => some k ≠ v7.ownBlock) vP P ∧ (Kd.int .u8).R 5 wr w.heap.size (fun _ => True) v7 want
theorem lit_C (W : World) (b : Int) : (Kd.int .u8).C (W.alloc (.cells #[.int .u8 b] 5)) (some ⟨W.heap.size, 0, none⟩) [b].length [b] :=
  (Kd.R_reads' (e := 5) (base := W.heap.size) (ok := fun _ => True) (c := 1) (Kd.R_of_own (own_lit W W.heap.size 5 .u8 [b] (Nat.le_refl _) (by simp)) (fun _ _ => trivial))).2.2
/-- The state's box holds what a call has made. -/
theorem CState.stored {w w3 : World} {b5 n2 ca : Nat} {lim : Int} {x : Value} {Aa : Option Addr} {P2 : List S40} {v7 : Value} {want : List Int} (hK : w3.heap[b5]? = some (.cells #[.int .i64 lim, x] 32 (0, 0)))
    (hS : Kd.S k40 40 w3 w.heap.size (fun k => True ∧ some k ≠ v7.ownBlock) (.slice Aa n2 ca) P2) (hR : (Kd.int .u8).R 5 w3 w.heap.size (fun _ => True) v7 want) (hB : Below w.heap.size w w3) (h5 : w.heap.size ≤ b5) :
    ((w3.setCell ⟨b5, 0, none⟩ (.int .i64 lim)).setCell ⟨b5, 1, none⟩ (.slice Aa n2 ca)).heap[b5]? = some (.cells #[.int .i64 lim, .slice Aa n2 ca] 32 (0, 0)) ∧ Kd.S k40 40 ((w3.setCell ⟨b5, 0, none⟩ (.int .i64 lim)).setCell ⟨b5, 1, none⟩ (.slice Aa n2 ca)) w.heap.size (fun k => some k ≠ v7.ownBlock) (.slice Aa n2 ca) P2 ∧
      (Kd.int .u8).R 5 ((w3.setCell ⟨b5, 0, none⟩ (.int .i64 lim)).setCell ⟨b5, 1, none⟩ (.slice Aa n2 ca)) w.heap.size (fun _ => True) v7 want ∧ Below w.heap.size w ((w3.setCell ⟨b5, 0, none⟩ (.int .i64 lim)).setCell ⟨b5, 1, none⟩ (.slice Aa n2 ca)) := by
  have b1 := blk_put hK 0 (.int .i64 lim) (cs' := #[.int .i64 lim, x]) rfl
  exact ⟨blk_put b1 1 _ rfl, Kd.S_mono (Kd.S_set (Kd.S_set hS hK (by decide) 0 _) b1 (by decide) 1 _) (fun _ hk => hk.2), Kd.R_set (Kd.R_set hR hK (by decide) 0 _) b1 (by decide) 1 _, below_set (below_set hB h5) h5⟩
set_option maxHeartbeats 16000000 in
set_option maxRecDepth 100000 in
theorem NetCounts.calls (k : Nat) (lim0 lim : Int) (A1 : Option Addr) (c1 : Nat) (l1 : List S58) (w : World) (hr1 : Kd.C k58 w A1 l1.length l1) (hl1 : l1.length ≤ c1)
    (hlim : wrap64 (1 + (wrap64 (lim0.tmod 20 + 20)).tmod 20) = lim) (hl0 : 1 ≤ lim) (hl2 : lim ≤ 20) (g : undercroftlaw04_alive.f k = some true) :
    Calls Try.prog 5 #[.int .i64 lim0, .slice A1 l1.length c1] w fun e w' => e = .returned (.bool true) ∧ Below w.heap.size w w' := by
  have HR := Aside0.mk hr1
  have HL := Aside0.mk hl1
  have G := Aside0.mk g
  have hu32 := Try.underlying32
  have hu40 := Try.underlying40
  clear hr1 hl1 g
  go_enter Try.func5, Try.ntmps5
  have NW := Aside0.mk (show net_New.f lim = some (lim, [], 0) by unfold net_New.f; rw [if_neg (by omega), if_neg (by omega)])
  have HL0 := Aside0.mk (And.intro hl0 hl2)
  clear hl0 hl2
  go_wp2_with (first | (go_at_call 7; refine (undercroftlaw04_alive.calls k true _ G.out).mono ?_; rintro e w1 ⟨rfl, hb1⟩; have HB := Aside0.mk hb1; clear hb1) | (go_at_call 20; refine (net_New.calls _ _ _ _ _ NW.out).mono ?_; rintro e w2 ⟨v, rfl, hs, hb⟩; obtain ⟨As, cs, rfl⟩ := Kd.S_slice hs; have K5 := Aside0.mk (heap_alloc_new w2 (.cells #[.int .i64 lim, .slice As 0 cs] 32)); have S5 := Aside0.mk (Kd.S_alloc (Kd.S_lower hs HB.out.size) (.cells #[.int .i64 lim, .slice As 0 cs] 32)); have B5 := Aside0.mk (show w.heap.size ≤ w2.heap.size from Nat.le_trans HB.out.size hb.size); replace HB := Aside0.mk (below_alloc (HB.out.trans (hb.mono HB.out.size)) (.cells #[.int .i64 lim, .slice As 0 cs] 32)); clear hb hs) | (go_at_call 10; refine (undercroftlaw04_num.calls 0 0 _ rfl).mono ?_; rintro e w3 ⟨rfl, hd⟩; have hb := hd.below; replace K5 := Aside0.mk (blk_below K5.out hb); replace S5 := Aside0.mk (Kd.S_below S5.out hb); replace HB := Aside0.mk (HB.out.trans (hb.mono HB.out.size)); clear hb hd))
  clear hlim NW G
  have W0 := Aside0.mk (show CState w w3 w2.heap.size lim (.slice none 0 0) from
    ⟨[], [], _, rfl, by have := HL0.out; simp; omega, K5.out, Kd.S_mono S5.out (fun k _ => by simp [Value.ownBlock]), Kd.R_nil _ _ _ _ _⟩)
  have HB2 := Aside0.mk HB.out
  clear K5 S5 HB
  generalize w2.heap.size = b5 at *
  go_loopg [7, 8] (l1.length + 1) (fun gg v7 s8 wr => ∃ i : Int, s8 = .int .i64 i ∧ Aside0 (0 ≤ i ∧ i ≤ l1.length ∧ l1.length - i < gg ∧ Below w.heap.size w wr ∧ CState w wr b5 lim v7))
  case atStart => exact ⟨0, rfl, ⟨by omega, by omega, by omega, HB2.out, W0.out⟩⟩
  case round => as_aux_lemma =>
    obtain ⟨i, rfl, Z⟩ := hrel
    clear W0
    by_cases hlt : i < l1.length ∧ i < 200
    · obtain ⟨h0, hle, hgk, hBW, want, P, vP, hP, hwl, k5, hS, hW⟩ := Z.out
      have c1 : decide (i < (l1.length : Int)) = true := decide_eq_true hlt.1
      have c2 : decide (i < 200) = true := decide_eq_true hlt.2
      obtain ⟨ad, rfl, hx0, hx1⟩ := at_T58 HR.out i h0 hlt.1
      replace hx0 := (hBW.cell (World.block_lt_of_cell? w _ hx0)).trans hx0
      have p1 := eq_true h0
      have p2 := eq_true hlt.1
      have Q := Aside0.mk (Plain.mod4 (rd_T58 l1 i).f0)
      obtain ⟨q, hq⟩ : ∃ q, q = (wrap64 ((rd_T58 l1 i).f0.tmod 4 + 4)).tmod 4 := ⟨_, rfl⟩
      rw [← hq] at Q
      have hq' := hq.symm
      obtain ⟨A7, c7, rfl⟩ := Kd.R_slice hW
      obtain ⟨AP, cP, rfl⟩ := Kd.S_slice hS
      have X := Aside0.mk (And.intro h0 (And.intro hlt (And.intro hgk hP)))
      have HW1 := Aside0.mk hwl
      have K5 := Aside0.mk k5
      have SP := Aside0.mk hS
      have RW := Aside0.mk hW
      have HB := Aside0.mk hBW
      have X1 := Aside0.mk hx1
      clear hq hlt h0 hle hgk hBW k5 hS hW hwl Z hx1 hP HB2
      go_upto_if 60 with fail
      go_cut [7] (fun v7 wx => Aside0 (Below w.heap.size w wx ∧ CState w wx b5 lim v7))
      case rest => as_aux_lemma =>
        have X5 := Aside0.mk (And.intro X.out.1 (And.intro X.out.2.1 X.out.2.2.1))
        obtain ⟨gg0, rfl⟩ : ∃ m, gk = m + 1 := ⟨gk - 1, by have := X.out.2.2.1; have := X.out.2.1.1; omega⟩
        clear X HW1 K5 SP RW HB hx0 X1 hq' Q
        generalize want.length = n9
        clear want P A7 c7 AP cP
        obtain ⟨hBW, want, P, vP, hP, hwl, k5, hS, hW⟩ := hcut.out
        obtain ⟨A7, c7, rfl⟩ := Kd.R_slice hW
        obtain ⟨AP, cP, rfl⟩ := Kd.S_slice hS
        have hPl : P.length = want.length := by rw [hP, List.length_map]
        have l1e : ((P.length : Int) != (want.length : Int)) = false := by rw [hPl]; exact bne_self_eq_false _
        have HPL := Aside0.mk (And.intro hPl (And.intro hP hwl))
        have HB := Aside0.mk hBW
        have K5 := Aside0.mk k5
        have SP := Aside0.mk hS
        have RW := Aside0.mk hW
        have y0 := (blk_cell k5 0).trans rfl
        have y1 := (blk_cell k5 1).trans rfl
        clear hBW k5 hS hW hP hwl hPl hcut
        go_wp2_with fail
        clear y0 y1 l1e
        go_loopg [24] (want.length + 1) (fun gg s24 wr2 => ∃ j : Int, s24 = .int .i64 j ∧ Aside0 (0 ≤ j ∧ j ≤ want.length ∧ want.length - j < gg ∧ Below wc.heap.size wc wr2))
        case atStart => exact ⟨0, rfl, ⟨by omega, by omega, by omega, Below.refl _ _⟩⟩
        case round => as_aux_lemma =>
          obtain ⟨j, rfl, Y⟩ := hrel
          by_cases hj : j < want.length
          · as_aux_lemma =>
            have d1 : decide (j < (want.length : Int)) = true := decide_eq_true hj
            have hB2 := Y.out.2.2.2
            have hj0 := Y.out.1
            have y1 := (hB2.cell (p := ⟨b5, 1, none⟩) (blk_lt K5.out)).trans ((blk_cell K5.out 1).trans rfl)
            obtain ⟨gP, cP2, heP, hgP, _, _⟩ := Kd.S_form SP.out (by have := HPL.out.1; omega)
            simp only [Value.slice.injEq] at heP
            obtain ⟨rfl, heP2, rfl⟩ := heP
            clear heP2 hgP
            obtain ⟨gW, cW2, heW, hgW, _, _⟩ := Kd.R_form RW.out (by omega)
            simp only [Value.slice.injEq] at heW
            obtain ⟨rfl, heW2, rfl⟩ := heW
            clear heW2 hgW
            have hjP : j < P.length := by have := HPL.out.1; omega
            have hpk : P.getD j.toNat z40 = Plain.pk (rd want j) := by
              obtain ⟨m, rfl⟩ := Int.eq_ofNat_of_zero_le hj0
              have := Plain.rd40 P m (by omega)
              unfold rd_T40 at this
              rw [this]
              have e : P[m]? = (want.map Plain.pk)[m]? := by rw [HPL.out.2.1]
              rw [List.getElem?_eq_getElem (by omega), List.getElem?_eq_getElem (by simp; omega), List.getElem_map] at e
              rw [Option.some.inj e, Plain.rdI _ m (by omega)]
            obtain ⟨c, hcl, hM, hcc, _⟩ := Kd.R_elem (Kd.S_R SP.out) z40 j hj0 hjP
            rw [hpk] at hM
            obtain ⟨v2, rfl, hv2⟩ := k40_openM hM
            obtain ⟨gd, c2, rfl, _, _, _⟩ := Kd.R_form hv2 (by simp [Plain.pk])
            have x2 : wc.cell? ⟨gP, j.toNat * 3 + 2, none⟩ = some (.slice (some ⟨gd, 0, none⟩) 1 c2) := hcc 2 _ rfl
            have hx2 : wc.cell? ⟨gd, 0, none⟩ = some (.int .u8 (rd want j)) := (Kd.R_celln 0 hv2 0 (by omega) (by simp [Plain.pk])).1
            obtain ⟨aW, eW, hxW⟩ := Kd.at_int (Kd.R_reads' RW.out).2.2 j hj0 hj
            cases eW
            simp only [add_plain] at hxW
            replace x2 : wr.cell? ⟨gP, j.toNat * 3 + 2, none⟩ = some (.slice (some ⟨gd, 0, none⟩) 1 c2) := (hB2.cell (World.block_lt_of_cell? wc _ x2)).trans x2
            replace hx2 : wr.cell? ⟨gd, 0, none⟩ = some (.int .u8 (rd want j)) := (hB2.cell (World.block_lt_of_cell? wc _ hx2)).trans hx2
            replace hxW : wr.cell? ⟨gW, j.toNat, none⟩ = some (.int .u8 (rd want j)) := (hB2.cell (World.block_lt_of_cell? wc _ hxW)).trans hxW
            have nn1 : (rd want j != rd want j) = false := bne_self_eq_false _
            have p1 := eq_true hj0
            have p2 := eq_true hj
            have p3 := eq_true hjP
            have Y2 := Aside0.mk (And.intro Y.out.2.2.1 hB2)
            clear hcl hcc hM hv2 hpk hj hjP hB2 hj0 Y
            go_upto_region 48 with fail
            go_quiet (fail)
            go_wp2
            have hj0 := of_eq_true p1
            have hj := of_eq_true p2
            obtain ⟨hgk2, hB2⟩ := Y2.out
            have hbb : (want.length : Int) ≤ 20 := by have := HPL.out.2.2; have := HL0.out.2; omega
            have hw : wrap64 (j + 1) = j + 1 := by unfold wrap64; omega
            obtain ⟨gg, rfl⟩ : ∃ m, gk = m + 1 := ⟨gk - 1, by omega⟩
            (try rw [hw])
            go_roundg gg
            case measure => omega
            case rel => exact ⟨j + 1, rfl, ⟨by omega, by omega, by omega, pw_below_drewN hB2 _⟩⟩
          · as_aux_lemma =>
            have d1 : decide (j < (want.length : Int)) = false := decide_eq_false hj
            have hB2 := Aside0.mk Y.out.2.2.2
            have R1 := Aside0.mk (show Below w.heap.size w wr from HB.out.trans (hB2.out.mono HB.out.size))
            have R2 := Aside0.mk (show CState w wr b5 lim (.slice A7 want.length c7) from ⟨want, P, _, HPL.out.2.1, HPL.out.2.2, blk_below K5.out hB2.out, Kd.S_below SP.out hB2.out, Kd.R_below RW.out hB2.out⟩)
            clear hj Y
            go_wp2
            have hi0 := X5.out.1
            have hi1 := X5.out.2.1
            have hi2 := X5.out.2.2
            have hw : wrap64 (i + 1) = i + 1 := by unfold wrap64; omega
            (try rw [hw])
            go_roundg gg0
            case measure => push_cast at hi2; omega
            case rel => exact ⟨i + 1, rfl, ⟨by omega, by omega, by push_cast at hi2; omega, R1.out, R2.out⟩⟩
      case first => as_aux_lemma =>
        have y0 := (blk_cell K5.out 0).trans rfl
        have y1 := (blk_cell K5.out 1).trans rfl
        by_cases hq0 : q = 0
        · as_aux_lemma =>
          have t0 : (q == 0) = true := beq_iff_eq.2 hq0
          have CS := Aside0.mk (Kd.S_reads' SP.out).2.2
          have LS := Aside0.mk (Kd.S_reads' SP.out).2.1
          have CD := Aside0.mk (lit_C wr (i % 256))
          clear hq0 hq'
          by_cases hr : (want.length : Int) < lim
          · as_aux_lemma =>
            have d0 : decide ((want.length : Int) < lim) = true := decide_eq_true hr
            obtain ⟨P2, hP2⟩ : ∃ P2, P2 = (want ++ [i % 256]).map Plain.pk := ⟨_, rfl⟩
            obtain ⟨ks, hks⟩ := Plain.send_room (i % 256) HL0.out.1 HL0.out.2 hr
            rw [← hP2, ← X.out.2.2.2] at hks
            have HS := Aside0.mk hks
            have HP2 := Aside0.mk hP2
            have HRR := Aside0.mk hr
            clear hks hP2 hr
            go_upto_region 18 with (first | (go_at_call 13; refine (net_Send.calls ks lim AP cP P 1 2 (some ⟨wr.heap.size, 0, none⟩) 1 [i % 256] lim P2 true 0 _ (Kd.C_alloc CS.out _) LS.out CD.out (by simp) HS.out).mono ?_; rintro e w2 ⟨v, rfl, ho, hb⟩; obtain ⟨Aa, ca, rfl⟩ := Kd.S_slice ho; have SN := Aside0.mk (Kd.S_alloc (Kd.S_lower (Kd.S_new' (u := .slice A7 want.length c7) ho (fun k hk => Nat.lt_of_lt_of_le (Kd.R_lt RW.out k hk) (below_alloc (Below.refl _ wr) _).size)) (below_alloc HB.out _).size) (.cells #[.int .i64 lim, .slice Aa P2.length ca] 32)); have N5 := Aside0.mk (Nat.ne_of_lt (blk_lt (blk_below (blk_alloc K5.out (.cells #[.int .u8 (i % 256)] 5)) hb))); replace K5 := Aside0.mk (blk_alloc (blk_below (blk_alloc K5.out _) hb) (.cells #[.int .i64 lim, .slice Aa P2.length ca] 32)); replace RW := Aside0.mk (Kd.R_alloc (Kd.R_below (Kd.R_alloc RW.out _) hb) (.cells #[.int .i64 lim, .slice Aa P2.length ca] 32)); replace HB := Aside0.mk (below_alloc ((below_alloc HB.out _).trans (hb.mono (below_alloc HB.out _).size)) (.cells #[.int .i64 lim, .slice Aa P2.length ca] 32)); have K10 := Aside0.mk (heap_alloc_new w2 (.cells #[.int .i64 lim, .slice Aa P2.length ca] 32)); clear hb ho) | (go_at_call 10; refine (undercroftlaw04_num.calls 0 0 _ rfl).mono ?_; rintro e w3 ⟨rfl, hd⟩; have hb := hd.below; replace K5 := Aside0.mk (blk_below K5.out hb); replace K10 := Aside0.mk (blk_below K10.out hb); replace SN := Aside0.mk (Kd.S_below SN.out hb); replace RW := Aside0.mk (Kd.R_below RW.out hb); replace HB := Aside0.mk (HB.out.trans (hb.mono HB.out.size)); clear hb hd; have e5 := (blk_cell K5.out 0).trans rfl; have e6 := (blk_cell K5.out 1).trans rfl; have e7 := (blk_cell K10.out 0).trans rfl; have e8 := (blk_cell K10.out 1).trans rfl; have e9 := blk_frozen K5.out 0; have e10 := blk_frozen K5.out 1; have n5 := N5.out; have n6 := N5.out.symm))
            have M := CState.stored K5.out SN.out RW.out HB.out B5.out
            clear e5 e6 e7 e8 e9 e10 n5 n6 N5 K5 K10 SN RW HB CS LS CD HS
            generalize ((w3.setCell _ _).setCell _ _ : World) = W3 at M ⊢
            go_wp2_with (first | (at_builtin; refine Kd.R_append (Kd.int .u8) (w0 := w) w.heap.size rfl (.tmp 83) (.tmp 86) 36 5 (.int .u8 0) 1 rfl Try.underlying36 info5 rfl (by decide) (by omega) (.slice A7 want.length c7) want (i % 256) [.int .u8 (i % 256)] (fun _ => True) (fun _ => False) rfl rfl ?aP (fun _ hk => hk.elim) ?aF ?aO ?aB ?aS ?aL ?_; (case aP => exact rfl); (case aF => exact fun _ _ => trivial); (case aO => exact M.2.2.1); (case aB => exact M.2.2.2); (case aS => exact M.2.2.2.size); (case aL => have := HW1.out; have := HL0.out; omega); intro v1 w5 ho hb hg hat; have AP1 := Aside0.mk (And.intro ho (And.intro hb (And.intro (blk_grown M.1 hg (Kd.R_ne M.2.2.1 M.1 (by decide))) (Kd.S_after (Kd.S_mono M.2.1 (ok' := fun k => True ∧ some k ≠ _) (fun k hk => ⟨trivial, hk⟩)) hg hat)))); clear ho hb hg hat M))
            go_meet
            case rel => as_aux_lemma =>
              have hap := AP1.out
              exact ⟨hap.2.1, want ++ [i % 256], P2, _, HP2.out, by have := HRR.out; simp; omega, hap.2.2.1, Kd.S_mono hap.2.2.2 (fun k hk => hk.2), hap.1⟩
          · as_aux_lemma =>
            have d0 : decide ((want.length : Int) < lim) = false := decide_eq_false hr
            have hr2 : (want.length : Int) = lim := by have := HW1.out; omega
            obtain ⟨ks, hks⟩ := Plain.send_full (i % 256) HL0.out.1 HL0.out.2 hr2
            rw [← X.out.2.2.2] at hks
            have HS := Aside0.mk hks
            clear hks hr hr2
            go_wp2_with (first | (go_at_call 13; refine (net_Send.calls ks lim AP cP P 1 2 (some ⟨wr.heap.size, 0, none⟩) 1 [i % 256] lim P false 0 _ (Kd.C_alloc CS.out _) LS.out CD.out (by simp) HS.out).mono ?_; rintro e w2 ⟨v, rfl, ho, hb⟩; obtain ⟨Aa, ca, rfl⟩ := Kd.S_slice ho; have SN := Aside0.mk (Kd.S_alloc (Kd.S_lower (Kd.S_new' (u := .slice A7 want.length c7) ho (fun k hk => Nat.lt_of_lt_of_le (Kd.R_lt RW.out k hk) (below_alloc (Below.refl _ wr) _).size)) (below_alloc HB.out _).size) (.cells #[.int .i64 lim, .slice Aa P.length ca] 32)); have N5 := Aside0.mk (Nat.ne_of_lt (blk_lt (blk_below (blk_alloc K5.out (.cells #[.int .u8 (i % 256)] 5)) hb))); replace K5 := Aside0.mk (blk_alloc (blk_below (blk_alloc K5.out _) hb) (.cells #[.int .i64 lim, .slice Aa P.length ca] 32)); replace RW := Aside0.mk (Kd.R_alloc (Kd.R_below (Kd.R_alloc RW.out _) hb) (.cells #[.int .i64 lim, .slice Aa P.length ca] 32)); replace HB := Aside0.mk (below_alloc ((below_alloc HB.out _).trans (hb.mono (below_alloc HB.out _).size)) (.cells #[.int .i64 lim, .slice Aa P.length ca] 32)); have K10 := Aside0.mk (heap_alloc_new w2 (.cells #[.int .i64 lim, .slice Aa P.length ca] 32)); clear hb ho) | (go_at_call 10; refine (undercroftlaw04_num.calls 0 0 _ rfl).mono ?_; rintro e w3 ⟨rfl, hd⟩; have hb := hd.below; replace K5 := Aside0.mk (blk_below K5.out hb); replace K10 := Aside0.mk (blk_below K10.out hb); replace SN := Aside0.mk (Kd.S_below SN.out hb); replace RW := Aside0.mk (Kd.R_below RW.out hb); replace HB := Aside0.mk (HB.out.trans (hb.mono HB.out.size)); clear hb hd; have e5 := (blk_cell K5.out 0).trans rfl; have e6 := (blk_cell K5.out 1).trans rfl; have e7 := (blk_cell K10.out 0).trans rfl; have e8 := (blk_cell K10.out 1).trans rfl; have e9 := blk_frozen K5.out 0; have e10 := blk_frozen K5.out 1; have n5 := N5.out; have n6 := N5.out.symm))
            have M := CState.stored K5.out SN.out RW.out HB.out B5.out
            go_meet
            case rel => exact ⟨M.2.2.2, want, P, _, X.out.2.2.2, HW1.out, M.1, M.2.1, M.2.2.1⟩
        · as_aux_lemma =>
          have t0 : (q == 0) = false := beq_eq_false_iff_ne.2 hq0
          by_cases hz : want.length = 0
          · as_aux_lemma =>
            have d0 : decide (0 < (want.length : Int)) = false := decide_eq_false (by omega)
            go_wp2_with fail
            go_meet
            case rel => exact ⟨HB.out, want, P, _, X.out.2.2.2, HW1.out, K5.out, SP.out, RW.out⟩
          · as_aux_lemma =>
            have d0 : decide (0 < (want.length : Int)) = true := decide_eq_true (by omega)
            have hK := Plain.modn (rd_T58 l1 i).f1 want.length (by omega) (by have := HW1.out; have := HL0.out; omega)
            obtain ⟨kk, hkk⟩ : ∃ kk, kk = (wrap64 ((rd_T58 l1 i).f1.tmod want.length + want.length)).tmod want.length := ⟨_, rfl⟩
            rw [← hkk] at hK
            have hkk' := hkk.symm
            have hx1 := (HB.out.cell (World.block_lt_of_cell? w _ X1.out)).trans X1.out
            obtain ⟨g7, cc7, he7, hg7, hgl7, _⟩ := Kd.R_form RW.out (by omega)
            simp only [Value.slice.injEq] at he7
            obtain ⟨rfl, he8, rfl⟩ := he7
            clear he8
            obtain ⟨a7, ha7, hx7⟩ := Kd.at_int (Kd.R_reads' RW.out).2.2 kk hK.1 hK.2
            cases ha7
            simp only [add_plain] at hx7
            have hc7 : want.length ≤ c7 := (Kd.R_reads' RW.out).2.1
            obtain ⟨i5, hi5, hi5b⟩ := Option.map_eq_some_iff.1 info5
            simp only [Prod.mk.injEq] at hi5b
            have sl1 := cut_to (P := Try.prog) 36 5 .i64 Try.underlying36 hi5 (some ⟨g7, 0, none⟩) want.length c7 kk hK.1 (by have := hK.2; omega) hc7
            have sl2 := cut_from (P := Try.prog) 36 5 .i64 Try.underlying36 hi5 1 hi5b.2.1 (some ⟨g7, 0, none⟩) want.length c7 (kk + 1) (by have := hK.1; omega) (by have := hK.2; omega)
            have hCT1 := Kd.C_take (m := kk.toNat) (Kd.R_reads' RW.out).2.2 (by have := hK.2; omega)
            have hCT2 := Kd.C_drop (m := (kk + 1).toNat) (c := c7) (Kd.R_reads' RW.out).2.2 (by have := hK.1; have := hK.2; omega) hc7
            rw [show (want.take kk.toNat).length = kk.toNat by rw [List.length_take]; have := hK.1; have := hK.2; omega] at hCT1
            rw [List.length_drop] at hCT2
            rw [show (kk + 1).toNat * 1 = (kk + 1).toNat * (Kd.int .u8).sz from rfl] at sl2
            generalize (if c7 = (kk + 1).toNat then (some ⟨g7, 0, none⟩ : Option Addr) else Option.map (fun x : Addr => x.add ((kk + 1).toNat * (Kd.int .u8).sz)) (some (⟨g7, 0, none⟩ : Addr))) = AD at sl2 hCT2
            generalize want.length - (kk + 1).toNat = nD at sl2 hCT2
            generalize c7 - (kk + 1).toNat = cD at sl2
            have EE := Aside0.mk (Plain.erase_two want kk hK.1 hK.2)
            obtain ⟨T1, hT1⟩ : ∃ T1, T1 = want.take kk.toNat := ⟨_, rfl⟩
            obtain ⟨T2, hT2⟩ : ∃ T2, T2 = want.drop (kk + 1).toNat := ⟨_, rfl⟩
            rw [← hT1, ← hT2] at EE
            rw [← hT1] at hCT1
            rw [← hT2] at hCT2
            have CT1 := Aside0.mk hCT1
            have CT2 := Aside0.mk hCT2
            have HLL := Aside0.mk (show kk.toNat ≤ 20 ∧ T1.length ≤ 20 ∧ nD ≤ 20 by
              have e1 := hCT1.1
              have e2 := hCT2.1
              have := HW1.out
              have := HL0.out
              have e3 : T2.length ≤ want.length := by rw [hT2, List.length_drop]; omega
              have e4 := hK.2
              have e5 := hK.1
              omega)
            have KK := Aside0.mk hK
            have p5 := eq_true hK.1
            have p6 := eq_true hK.2
            have p7 : wrap64 (kk + 1) = kk + 1 := by have := hK.1; have := hK.2; have := HW1.out; have := HL0.out; unfold wrap64; omega
            have QQ := Aside0.mk (And.intro hq0 hz)
            have nz : ¬ (want.length : Int) = 0 := by omega
            clear hT1 hT2 hCT1 hCT2 hK hkk hc7 hi5 hi5b hq0 hz hg7 hgl7
            go_upto_region 26 with (first | ((with_reducible refine gate_builtin (b := .append) (xs := #[.tmp 105, .tmp 108]) rfl ?_); at_builtin; refine Kd.R_append_rows (Kd.int .u8) (Rr := (Kd.int .u8).K wr) (w0 := wr) wr.heap.size rfl (.tmp 105) (.tmp 108) 36 5 (.int .u8 0) 1 rfl Try.underlying36 info5 rfl (by decide) (by omega) (.slice none 0 0) [] T1 (some ⟨g7, 0, none⟩) kk.toNat c7 (fun _ => True) (fun _ => False) rfl rfl ?aO ?aR ?aK (fun _ hk => hk.elim) (fun _ _ => trivial) ?aB ?aS ?aL ?_; (case aO => exact Kd.R_nil _ _ _ _ _); (case aR => exact CT1.out); (case aK => intro x cs hx; exact hx); (case aB => exact Below.refl wr.heap.size wr); (case aS => exact (Below.refl wr.heap.size wr).size); (case aL => have := HLL.out; simp; omega); intro v1 w4 ho hb hg hat; obtain ⟨A15, c15, rfl⟩ := Kd.R_slice ho; rw [List.nil_append] at ho; have R15 := Aside0.mk ho; have H15 := Aside0.mk hb; clear ho hb hg hat) | ((with_reducible refine gate_builtin (b := .append) (xs := #[.tmp 110, .tmp 114]) rfl ?_); at_builtin; refine Kd.R_append_rows (Kd.int .u8) (Rr := (Kd.int .u8).K wr) (w0 := wr) wr.heap.size rfl (.tmp 110) (.tmp 114) 36 5 (.int .u8 0) 1 rfl Try.underlying36 info5 rfl (by decide) (by omega) (.slice A15 T1.length c15) T1 T2 AD nD cD (fun _ => True) (fun _ => False) rfl rfl ?aO ?aR ?aK (fun _ hk => hk.elim) (fun _ _ => trivial) ?aB ?aS ?aL ?_; (case aO => exact R15.out); (case aR => exact Kd.C_below CT2.out H15.out); (case aK => intro x cs hx; exact hx); (case aB => exact H15.out); (case aS => exact (H15.out).size); (case aL => have := HLL.out; omega); intro v2 w5 ho hb hg hat; have R16 := Aside0.mk ho; have H16 := Aside0.mk hb; clear ho hb hg hat R15 H15; have hx5 := (H16.out.cell (World.block_lt_of_cell? wr _ hx0)).trans hx0))
            have CS := Aside0.mk (Kd.C_below (Kd.S_reads' SP.out).2.2 H16.out)
            have LS := Aside0.mk (Kd.S_reads' SP.out).2.1
            have K50 := K5
            replace K5 := Aside0.mk (blk_below K5.out H16.out)
            have RW5 := Aside0.mk (Kd.R_below RW.out H16.out)
            have HB5 := Aside0.mk (HB.out.trans (H16.out.mono HB.out.size))
            have R16' := Aside0.mk (Kd.R_lower R16.out HB.out.size)
            clear HB R16 H16 SP RW K50 hx5 sl1 sl2 hx7 hx0 hx1 CT1 CT2 y0 y1
            have HB := HB5
            have e5 := (blk_cell K5.out 0).trans rfl
            have e6 := (blk_cell K5.out 1).trans rfl
            obtain ⟨TL, hTL⟩ : ∃ TL, TL = T1 ++ T2 := ⟨_, rfl⟩
            rw [← hTL] at R16' EE
            have hEE : TL = want.eraseIdx kk.toNat := EE.out
            have HTL := Aside0.mk hEE
            have HTN := Aside0.mk (show TL.length ≤ want.length by rw [hEE]; exact List.length_eraseIdx_le _ _)
            obtain ⟨P2, hP2⟩ : ∃ P2, P2 = TL.map Plain.pk := ⟨_, rfl⟩
            have HP2 := Aside0.mk hP2
            have hwl := Aside0.mk (show (want.length : Int) ≤ lim from HW1.out)
            clear hTL EE hEE hP2
            by_cases hq1 : q = 1
            · as_aux_lemma =>
              have t1 : (q == 1) = true := beq_iff_eq.2 hq1
              have HT := Aside0.mk (show net_Take.f lim P kk = some (lim, P2, 1, 2, [rd want kk], 0) by rw [X.out.2.2.2, Plain.take_pk HL0.out.1 HL0.out.2 hwl.out KK.out.1 KK.out.2, HP2.out, HTL.out])
              obtain ⟨A16, c16, rfl⟩ := Kd.R_slice R16'.out
              have LW := R16'
              clear R16' hq1 RW5 HB5
              go_wp2_with (first | (go_at_call 15; refine (net_Take.calls lim AP cP P kk lim P2 1 2 [rd want kk] 0 _ CS.out LS.out HT.out).mono ?_; rintro e w6 ⟨v, v4, rfl, ho, ho4, hb⟩; obtain ⟨Aa, ca, rfl⟩ := Kd.S_slice ho; obtain ⟨gq, cq, rfl, hgq, hgql, _⟩ := Kd.R_form ho4 (by simp); have SN := Aside0.mk (Kd.S_alloc (Kd.S_lower (Kd.S_new' (u := .slice A16 TL.length c16) (Kd.S_mono ho (fun _ _ => trivial : ∀ k, _ → True)) (fun k hk => Kd.R_lt LW.out k hk)) HB.out.size) (.cells #[.int .i64 lim, .slice Aa P2.length ca] 32)); replace SN := Aside0.mk (Kd.S_alloc SN.out (.cells #[.int .i64 1, .int .i64 2, .slice (some ⟨gq, 0, none⟩) 1 cq] 40)); have hcq : ((w6.alloc (.cells #[.int .i64 lim, .slice Aa P2.length ca] 32)).alloc (.cells #[.int .i64 1, .int .i64 2, .slice (some ⟨gq, 0, none⟩) 1 cq] 40)).cell? ⟨gq, 0, none⟩ = some (.int .u8 (rd want kk)) := (Kd.R_celln 0 (Kd.R_alloc (Kd.R_alloc ho4 (.cells #[.int .i64 lim, .slice Aa P2.length ca] 32)) (.cells #[.int .i64 1, .int .i64 2, .slice (some ⟨gq, 0, none⟩) 1 cq] 40)) 0 (by omega) (by simp)).1; have N5 := Aside0.mk (Nat.ne_of_lt (blk_lt (blk_below K5.out hb))); have K16 := Aside0.mk (blk_alloc (heap_alloc_new w6 (.cells #[.int .i64 lim, .slice Aa P2.length ca] 32)) (.cells #[.int .i64 1, .int .i64 2, .slice (some ⟨gq, 0, none⟩) 1 cq] 40)); have K17 := Aside0.mk (heap_alloc_new (w6.alloc (.cells #[.int .i64 lim, .slice Aa P2.length ca] 32)) (.cells #[.int .i64 1, .int .i64 2, .slice (some ⟨gq, 0, none⟩) 1 cq] 40)); simp only [World.size_alloc] at K17; replace K5 := Aside0.mk (blk_alloc (blk_alloc (blk_below K5.out hb) (.cells #[.int .i64 lim, .slice Aa P2.length ca] 32)) (.cells #[.int .i64 1, .int .i64 2, .slice (some ⟨gq, 0, none⟩) 1 cq] 40)); replace LW := Aside0.mk (Kd.R_alloc (Kd.R_alloc (Kd.R_below LW.out hb) (.cells #[.int .i64 lim, .slice Aa P2.length ca] 32)) (.cells #[.int .i64 1, .int .i64 2, .slice (some ⟨gq, 0, none⟩) 1 cq] 40)); replace HB := Aside0.mk (below_alloc (below_alloc (HB.out.trans (hb.mono HB.out.size)) (.cells #[.int .i64 lim, .slice Aa P2.length ca] 32)) (.cells #[.int .i64 1, .int .i64 2, .slice (some ⟨gq, 0, none⟩) 1 cq] 40)); have DQ := Aside0.mk hcq; clear hb ho ho4 hcq) | (go_at_call 10; refine (undercroftlaw04_num.calls 0 0 _ rfl).mono ?_; rintro e w7 ⟨rfl, hd⟩; have hb := hd.below; replace K5 := Aside0.mk (blk_below K5.out hb); replace K16 := Aside0.mk (blk_below K16.out hb); replace K17 := Aside0.mk (blk_below K17.out hb); replace SN := Aside0.mk (Kd.S_below SN.out hb); replace LW := Aside0.mk (Kd.R_below LW.out hb); replace HB := Aside0.mk (HB.out.trans (hb.mono HB.out.size)); have dq := (hb.cell (World.block_lt_of_cell? _ _ DQ.out)).trans DQ.out; clear hb hd; have e5 := (blk_cell K5.out 0).trans rfl; have e6 := (blk_cell K5.out 1).trans rfl; have e9 := blk_frozen K5.out 0; have e10 := blk_frozen K5.out 1; have n5 := N5.out; have n6 := N5.out.symm; have e7 := (blk_cell K16.out 0).trans rfl; have e8 := (blk_cell K16.out 1).trans rfl; have e17 := (blk_cell K17.out 2).trans rfl))
              have M := CState.stored K5.out SN.out LW.out HB.out B5.out
              go_meet
              case rel => exact ⟨M.2.2.2, TL, P2, _, HP2.out, by have := HTN.out; have := hwl.out; omega, M.1, M.2.1, M.2.2.1⟩
            · as_aux_lemma =>
              have t1 : (q == 1) = false := beq_eq_false_iff_ne.2 hq1
              by_cases hq2 : q = 2
              · as_aux_lemma =>
                have t2 : (q == 2) = true := beq_iff_eq.2 hq2
                have HT := Aside0.mk (show net_Drop.f lim P kk = some (lim, P2, 0) by rw [X.out.2.2.2, Plain.drop_pk HL0.out.1 HL0.out.2 hwl.out KK.out.1 KK.out.2, HP2.out, HTL.out])
                obtain ⟨A16, c16, rfl⟩ := Kd.R_slice R16'.out
                have LW := R16'
                clear R16' hq1 hq2 RW5 HB5
                go_wp2_with (first | (go_at_call 21; refine (net_Drop.calls lim AP cP P kk lim P2 0 _ CS.out LS.out HT.out).mono ?_; rintro e w6 ⟨v, rfl, ho, hb⟩; obtain ⟨Aa, ca, rfl⟩ := Kd.S_slice ho; have SN := Aside0.mk (Kd.S_alloc (Kd.S_lower (Kd.S_new' (u := .slice A16 TL.length c16) (Kd.S_mono ho (fun _ _ => trivial : ∀ k, _ → True)) (fun k hk => Kd.R_lt LW.out k hk)) HB.out.size) (.cells #[.int .i64 lim, .slice Aa P2.length ca] 32)); have N5 := Aside0.mk (Nat.ne_of_lt (blk_lt (blk_below K5.out hb))); have K16 := Aside0.mk (heap_alloc_new w6 (.cells #[.int .i64 lim, .slice Aa P2.length ca] 32)); replace K5 := Aside0.mk (blk_alloc (blk_below K5.out hb) (.cells #[.int .i64 lim, .slice Aa P2.length ca] 32)); replace LW := Aside0.mk (Kd.R_alloc (Kd.R_below LW.out hb) (.cells #[.int .i64 lim, .slice Aa P2.length ca] 32)); replace HB := Aside0.mk (below_alloc (HB.out.trans (hb.mono HB.out.size)) (.cells #[.int .i64 lim, .slice Aa P2.length ca] 32)); clear hb ho) | (go_at_call 10; refine (undercroftlaw04_num.calls 0 0 _ rfl).mono ?_; rintro e w7 ⟨rfl, hd⟩; have hb := hd.below; replace K5 := Aside0.mk (blk_below K5.out hb); replace K16 := Aside0.mk (blk_below K16.out hb); replace SN := Aside0.mk (Kd.S_below SN.out hb); replace LW := Aside0.mk (Kd.R_below LW.out hb); replace HB := Aside0.mk (HB.out.trans (hb.mono HB.out.size)); clear hb hd; have e5 := (blk_cell K5.out 0).trans rfl; have e6 := (blk_cell K5.out 1).trans rfl; have e9 := blk_frozen K5.out 0; have e10 := blk_frozen K5.out 1; have n5 := N5.out; have n6 := N5.out.symm; have e7 := (blk_cell K16.out 0).trans rfl; have e8 := (blk_cell K16.out 1).trans rfl))
                have M := CState.stored K5.out SN.out LW.out HB.out B5.out
                go_meet
                case rel => exact ⟨M.2.2.2, TL, P2, _, HP2.out, by have := HTN.out; have := hwl.out; omega, M.1, M.2.1, M.2.2.1⟩
              · as_aux_lemma =>
                have t2 : (q == 2) = false := beq_eq_false_iff_ne.2 hq2
                have hq3 : q = 3 := by have := Q.out; have := QQ.out.1; omega
                have t3 : (q == 3) = true := beq_iff_eq.2 hq3
                clear R16' hq1 hq2 hq3 HTL HTN HP2 HB5
                by_cases hr : (want.length : Int) < lim
                · as_aux_lemma =>
                  have d1 : decide ((want.length : Int) < lim) = true := decide_eq_true hr
                  clear P2
                  obtain ⟨P2, hP2⟩ : ∃ P2, P2 = (want ++ [rd want kk]).map Plain.pk := ⟨_, rfl⟩
                  obtain ⟨ks, hks⟩ := Plain.dbl_room HL0.out.1 HL0.out.2 hr KK.out.1 KK.out.2
                  rw [← hP2, ← X.out.2.2.2] at hks
                  have HT := Aside0.mk hks
                  have HP2 := Aside0.mk hP2
                  have HRR := Aside0.mk hr
                  have LW := RW5
                  clear hks hP2 hr RW5
                  go_upto_region 42 with (first | (go_at_call 22; refine (net_Double.calls ks lim AP cP P kk lim P2 true 0 _ CS.out LS.out HT.out).mono ?_; rintro e w6 ⟨v, rfl, ho, hb⟩; obtain ⟨Aa, ca, rfl⟩ := Kd.S_slice ho; have SN := Aside0.mk (Kd.S_alloc (Kd.S_lower (Kd.S_new' (u := .slice (some ⟨g7, 0, none⟩) want.length c7) (Kd.S_mono ho (fun _ _ => trivial : ∀ k, _ → True)) (fun k hk => Kd.R_lt LW.out k hk)) HB.out.size) (.cells #[.int .i64 lim, .slice Aa P2.length ca] 32)); have N5 := Aside0.mk (Nat.ne_of_lt (blk_lt (blk_below K5.out hb))); have K16 := Aside0.mk (heap_alloc_new w6 (.cells #[.int .i64 lim, .slice Aa P2.length ca] 32)); replace K5 := Aside0.mk (blk_alloc (blk_below K5.out hb) (.cells #[.int .i64 lim, .slice Aa P2.length ca] 32)); replace LW := Aside0.mk (Kd.R_alloc (Kd.R_below LW.out hb) (.cells #[.int .i64 lim, .slice Aa P2.length ca] 32)); replace HB := Aside0.mk (below_alloc (HB.out.trans (hb.mono HB.out.size)) (.cells #[.int .i64 lim, .slice Aa P2.length ca] 32)); clear hb ho) | (go_at_call 10; refine (undercroftlaw04_num.calls 0 0 _ rfl).mono ?_; rintro e w7 ⟨rfl, hd⟩; have hb := hd.below; replace K5 := Aside0.mk (blk_below K5.out hb); replace K16 := Aside0.mk (blk_below K16.out hb); replace SN := Aside0.mk (Kd.S_below SN.out hb); replace LW := Aside0.mk (Kd.R_below LW.out hb); replace HB := Aside0.mk (HB.out.trans (hb.mono HB.out.size)); clear hb hd; have e5 := (blk_cell K5.out 0).trans rfl; have e6 := (blk_cell K5.out 1).trans rfl; have e9 := blk_frozen K5.out 0; have e10 := blk_frozen K5.out 1; have n5 := N5.out; have n6 := N5.out.symm; have e7 := (blk_cell K16.out 0).trans rfl; have e8 := (blk_cell K16.out 1).trans rfl))
                  have M := CState.stored K5.out SN.out LW.out HB.out B5.out
                  clear e5 e6 e7 e8 e9 e10 n5 n6 N5 K5 K16 SN LW HB CS LS HT
                  generalize ((w7.setCell _ _).setCell _ _ : World) = W3 at M ⊢
                  go_wp2_with (first | (at_builtin; refine Kd.R_append (Kd.int .u8) (w0 := w) w.heap.size rfl (.tmp 186) (.tmp 188) 36 5 (.int .u8 0) 1 rfl Try.underlying36 info5 rfl (by decide) (by omega) (.slice (some ⟨g7, 0, none⟩) want.length c7) want (rd want kk) [.int .u8 (rd want kk)] (fun _ => True) (fun _ => False) rfl rfl ?aP (fun _ hk => hk.elim) ?aF ?aO ?aB ?aS ?aL ?_; (case aP => exact rfl); (case aF => exact fun _ _ => trivial); (case aO => exact M.2.2.1); (case aB => exact M.2.2.2); (case aS => exact M.2.2.2.size); (case aL => have := HW1.out; have := HL0.out; omega); intro v1 w5 ho hb hg hat; have AP1 := Aside0.mk (And.intro ho (And.intro hb (And.intro (blk_grown M.1 hg (Kd.R_ne M.2.2.1 M.1 (by decide))) (Kd.S_after (Kd.S_mono M.2.1 (ok' := fun k => True ∧ some k ≠ _) (fun k hk => ⟨trivial, hk⟩)) hg hat)))); clear ho hb hg hat M))
                  go_meet
                  case rel => as_aux_lemma =>
                    have hap := AP1.out
                    exact ⟨hap.2.1, want ++ [rd want kk], P2, _, HP2.out, by have := HRR.out; simp; omega, hap.2.2.1, Kd.S_mono hap.2.2.2 (fun k hk => hk.2), hap.1⟩
                · as_aux_lemma =>
                  have d1 : decide ((want.length : Int) < lim) = false := decide_eq_false hr
                  have hr2 : (want.length : Int) = lim := by have := hwl.out; omega
                  obtain ⟨ks, hks⟩ := Plain.dbl_full HL0.out.1 HL0.out.2 hr2 KK.out.1 KK.out.2
                  rw [← X.out.2.2.2] at hks
                  have HT := Aside0.mk hks
                  have LW := RW5
                  clear hks hr hr2 RW5
                  go_wp2_with (first | (go_at_call 22; refine (net_Double.calls ks lim AP cP P kk lim P false 0 _ CS.out LS.out HT.out).mono ?_; rintro e w6 ⟨v, rfl, ho, hb⟩; obtain ⟨Aa, ca, rfl⟩ := Kd.S_slice ho; have SN := Aside0.mk (Kd.S_alloc (Kd.S_lower (Kd.S_new' (u := .slice (some ⟨g7, 0, none⟩) want.length c7) (Kd.S_mono ho (fun _ _ => trivial : ∀ k, _ → True)) (fun k hk => Kd.R_lt LW.out k hk)) HB.out.size) (.cells #[.int .i64 lim, .slice Aa P.length ca] 32)); have N5 := Aside0.mk (Nat.ne_of_lt (blk_lt (blk_below K5.out hb))); have K16 := Aside0.mk (heap_alloc_new w6 (.cells #[.int .i64 lim, .slice Aa P.length ca] 32)); replace K5 := Aside0.mk (blk_alloc (blk_below K5.out hb) (.cells #[.int .i64 lim, .slice Aa P.length ca] 32)); replace LW := Aside0.mk (Kd.R_alloc (Kd.R_below LW.out hb) (.cells #[.int .i64 lim, .slice Aa P.length ca] 32)); replace HB := Aside0.mk (below_alloc (HB.out.trans (hb.mono HB.out.size)) (.cells #[.int .i64 lim, .slice Aa P.length ca] 32)); clear hb ho) | (go_at_call 10; refine (undercroftlaw04_num.calls 0 0 _ rfl).mono ?_; rintro e w7 ⟨rfl, hd⟩; have hb := hd.below; replace K5 := Aside0.mk (blk_below K5.out hb); replace K16 := Aside0.mk (blk_below K16.out hb); replace SN := Aside0.mk (Kd.S_below SN.out hb); replace LW := Aside0.mk (Kd.R_below LW.out hb); replace HB := Aside0.mk (HB.out.trans (hb.mono HB.out.size)); clear hb hd; have e5 := (blk_cell K5.out 0).trans rfl; have e6 := (blk_cell K5.out 1).trans rfl; have e9 := blk_frozen K5.out 0; have e10 := blk_frozen K5.out 1; have n5 := N5.out; have n6 := N5.out.symm; have e7 := (blk_cell K16.out 0).trans rfl; have e8 := (blk_cell K16.out 1).trans rfl))
                  have M := CState.stored K5.out SN.out LW.out HB.out B5.out
                  go_meet
                  case rel => exact ⟨M.2.2.2, want, P, _, X.out.2.2.2, HW1.out, M.1, M.2.1, M.2.2.1⟩
    · have HBZ := Aside0.mk Z.out.2.2.2.1
      have c3 : ((decide (i < (l1.length : Int)) = true ∧ decide (i < 200) = false) ∨ decide (i < (l1.length : Int)) = false) := by
        by_cases h : i < (l1.length : Int)
        · exact .inl ⟨decide_eq_true h, decide_eq_false (fun h2 => hlt ⟨h, h2⟩)⟩
        · exact .inr (decide_eq_false h)
      clear hlt Z HB2
      rcases c3 with ⟨c1, c2⟩ | c1
      all_goals
        go_wp2
        go_ret
        exact ⟨rfl, HBZ.out⟩
end Go.Proofs.Ytgglmibbbjallaa.T
