/- VrAgrees: the walk. -/
import Derived.Test.YtojjnifbnppliaaVp
import Derived.Deep.DeepCutAuto
namespace Go.Proofs.Ytojjnifbnppliaa.T
open Go.RowKit Go.Proofs.YtojjnifbnppliaaW.PrintWords Go.Proofs.YtojjnifbnppliaaW.PrintLast Go.Proofs.YtojjnifbnppliaaW.PrintMore
attribute [local go_sem] max2_int min2_int max_two min_two max_three min_three max_four min_four
set_option linter.unusedVariables false
set_option linter.unusedSimpArgs false
/-- The state's lists are read in every world that keeps all but S. -/
def RdK (w : World) (S : Nat → Prop) (s : St) (AL : Option Addr) (cL : Nat) (AM : Option Addr) (cM : Nat) (AK : Option Addr) (cK : Nat) (AB : Option Addr) (cB : Nat) (AD : Option Addr) (cD : Nat) : Prop := ∀ W, Keeps w W S → Rd W s AL cL AM cM AK cK AB cB AD cD
theorem RdK.step {w w1 : World} {S S' : Nat → Prop} {s : St} {AL AM AK AB AD : Option Addr} {cL cM cK cB cD : Nat} (h : RdK w S s AL cL AM cM AK cK AB cB AD cD) (k : Keeps w w1 S) (hs : ∀ i, S' i → S i ∨ w.heap.size ≤ i) : RdK w1 S' s AL cL AM cM AK cK AB cB AD cD := fun W hW => h W (k.trans' hW hs)
theorem RdK.now {w : World} {S : Nat → Prop} {s : St} {AL AM AK AB AD : Option Addr} {cL cM cK cB cD : Nat} (h : RdK w S s AL cL AM cM AK cK AB cB AD cD) : Rd w s AL cL AM cM AK cK AB cB AD cD := h w (Keeps.refl _ _)
/-- Between two rounds. -/
def VAs (w0 wr : World) (g7 gh nn ch : Nat) (d : List Int) (H : List Bool) : Prop := H.length = nn ∧ Below w0.heap.size w0 wr ∧ Kd.bool.R 4 wr 0 (fun k => k = gh) (.slice (some ⟨gh, 0, none⟩) nn ch) H ∧ ∃ (AL : Option Addr) (cL : Nat) (AM : Option Addr) (cM : Nat) (AK : Option Addr) (cK : Nat) (AB : Option Addr) (cB : Nat) (AD : Option Addr) (cD : Nat), wr.heap[g7]? = some (.cells #[.int .i64 (vaS nn d H).id, .int .i64 (vaS nn d H).n, .int .i64 (vaS nn d H).view, .int .i64 (vaS nn d H).last, .int .i64 (vaS nn d H).status, .slice AL (vaS nn d H).log.length cL, .int .i64 (vaS nn d H).commit, .slice AM (vaS nn d H).mat.length cM, .slice AK (vaS nn d H).marks.length cK, .bool (vaS nn d H).sent, .slice AB (vaS nn d H).bals.length cB, .int .i64 (vaS nn d H).elapsed, .int .i64 (vaS nn d H).timeout, .slice AD (vaS nn d H).draws.length cD] 29 (0, 0)) ∧ RdK wr (fun k => k = g7 ∨ k = gh) (vaS nn d H) AL cL AM cM AK cK AB cB AD cD
theorem bool_cell {w : World} {base g n cap : Nat} {ok : Nat → Prop} {H : List Bool} (h : Kd.bool.R 4 w base ok (.slice (some ⟨g, 0, none⟩) n cap) H) (i : Int) (h0 : 0 ≤ i) (h1 : i < n) : w.cell? ⟨g, i.toNat, none⟩ = some (.bool (H.getD i.toNat false)) ∧ w.frozen? ⟨g, i.toNat, none⟩ = false := by
  obtain ⟨c, hc, hM, hcell, hf⟩ := Kd.R_elem h false i h0 h1
  have h2 : c = [.bool (H.getD i.toNat false)] := hM
  refine ⟨?_, by simpa [Kd.bool, Kd.scalar] using hf 0⟩
  have := hcell 0 _ (by rw [h2]; rfl)
  simpa [Kd.bool, Kd.scalar] using this
theorem mod_n (x n : Int) (hn : 1 ≤ n ∧ n ≤ 9) : 0 ≤ (x.tmod n + n).tmod n ∧ (x.tmod n + n).tmod n < n ∧ wrap64 (x.tmod n + n) = x.tmod n + n := by
  have h1 : -n < x.tmod n ∧ x.tmod n < n := ⟨Int.lt_tmod_of_pos x (by omega), Int.tmod_lt_of_pos x (by omega)⟩
  refine ⟨Int.tmod_nonneg _ (by omega), Int.tmod_lt_of_pos _ (by omega), ?_⟩
  unfold wrap64; omega
set_option maxHeartbeats 16000000 in
set_option maxRecDepth 100000 in
theorem VrAgrees.calls (n0 : Int) (A1 : Option Addr) (c1 : Nat) (data : List Int) (A2 : Option Addr) (c2 : Nat) (order : List Int) (w : World) (hd : Kd.C (Kd.int .u8) w A1 data.length data) (hdc : data.length ≤ c1) (ho : Kd.C (Kd.int .i64) w A2 order.length order) :
    Calls Try.prog 3 #[.int .i64 n0, .slice A1 data.length c1, .slice A2 order.length c2] w fun e w' => e = .returned (.bool true) ∧ Below w.heap.size w w' := by
  have hu29 := Try.underlying29
  obtain ⟨r1, r2, r3⟩ := mod_n n0 9 (by omega)
  have r4 : wrap64 (1 + (n0.tmod 9 + 9).tmod 9) = 1 + (n0.tmod 9 + 9).tmod 9 := by generalize (n0.tmod 9 + 9).tmod 9 = y at *; unfold wrap64; omega
  have HD := Aside0.mk (And.intro hd hdc)
  have HO := Aside0.mk ho
  have R12 := Aside0.mk (And.intro r1 r2)
  clear hd hdc ho r1 r2
  go_enter Try.func3, Try.ntmps3
  go_upto_region 4 with (go_at_call 6; refine (alive.calls _).mono ?_; rintro e w1 ⟨rfl, hb⟩; have HB := Aside0.mk hb; clear hb)
  obtain ⟨n, hn⟩ : ∃ n, n = 1 + (n0.tmod 9 + 9).tmod 9 := ⟨_, rfl⟩
  have HN := Aside0.mk (show 1 ≤ n ∧ n ≤ 9 from by have := R12.out; omega)
  simp only [← hn] at *
  rw [r4]
  clear hn r3 r4 R12
  obtain ⟨m, hm⟩ : ∃ m : Nat, m = min data.length 256 := ⟨_, rfl⟩
  have HD2 := Aside0.mk (show Kd.C (Kd.int .u8) w A1 (data.take m).length (data.take m) ∧ m ≤ c1 ∧ (data.take m).length = m ∧ m ≤ 256 from ⟨Kd.C_take HD.out.1 (by omega), by have := HD.out.2; omega, by rw [List.length_take]; omega, by omega⟩)
  have hmin : (if (256 : Int) < (data.length : Int) then (256 : Int) else (data.length : Int)) = (m : Int) := by split <;> omega
  have hm1 : (0 : Int) ≤ (m : Int) := by omega
  have hm2 : (m : Int) ≤ (c1 : Int) := by have := HD2.out.2.1; omega
  have hm3 : m ≤ c1 := HD2.out.2.1
  clear hm HD
  obtain ⟨d, hd⟩ : ∃ d, d = data.take m := ⟨_, rfl⟩
  rw [← hd] at HD2
  clear hd
  obtain rfl : d.length = m := HD2.out.2.2.1
  go_upto_region 6 with (first | (go_at_call 7; refine (New0.calls n HN.out _).mono ?_; rintro e w2 ⟨AL1, cL1, AM1, cM1, AK1, cK1, AB1, cB1, AD1, cD1, rfl, hr, hb⟩; have HR := Aside0.mk hr; replace HB := Aside0.mk (HB.out.trans (hb.mono HB.out.size)); clear hr hb) | ((with_reducible refine gate_ (.store 29 (.tmp 7) (.tmp 34)) rfl ?_); refine wpList_store_row rfl 29 (.tmp 7) (.tmp 34) rfl w2.heap.size #[.int .i64 (new0 n).id, .int .i64 (new0 n).n, .int .i64 (new0 n).view, .int .i64 (new0 n).last, .int .i64 (new0 n).status, .slice AL1 (new0 n).log.length cL1, .int .i64 (new0 n).commit, .slice AM1 (new0 n).mat.length cM1, .slice AK1 (new0 n).marks.length cK1, .bool (new0 n).sent, .slice AB1 (new0 n).bals.length cB1, .int .i64 (new0 n).elapsed, .int .i64 (new0 n).timeout, .slice AD1 (new0 n).draws.length cD1] rfl rfl 29 #[.int .i64 0, .int .i64 0, .int .i64 0, .int .i64 0, .int .i64 0, .slice none 0 0, .int .i64 0, .slice none 0 0, .slice none 0 0, .bool false, .slice none 0 0, .int .i64 0, .int .i64 0, .slice none 0 0] (heap_alloc_new _ _) (by kernel_rfl) rfl (by kernel_rfl) ?_))
  have HB1S := Aside0.mk HB.out.size
  obtain ⟨k7, hb7⟩ := laid29 w2 #[.int .i64 (new0 n).id, .int .i64 (new0 n).n, .int .i64 (new0 n).view, .int .i64 (new0 n).last, .int .i64 (new0 n).status, .slice AL1 (new0 n).log.length cL1, .int .i64 (new0 n).commit, .slice AM1 (new0 n).mat.length cM1, .slice AK1 (new0 n).marks.length cK1, .bool (new0 n).sent, .slice AB1 (new0 n).bals.length cB1, .int .i64 (new0 n).elapsed, .int .i64 (new0 n).timeout, .slice AD1 (new0 n).draws.length cD1]
  have K7 := Aside0.mk k7
  replace HR := Aside0.mk (Rd.below HR.out hb7)
  replace HB := Aside0.mk (HB.out.trans (hb7.mono HB.out.size))
  clear k7 hb7 hmin hm1 hm2 hm3
  obtain ⟨g7, hg7⟩ : ∃ g, g = w2.heap.size := ⟨_, rfl⟩
  have HG7 := Aside0.mk (show w.heap.size ≤ g7 from by have := HB1S.out; omega)
  simp only [← hg7] at *
  clear hg7 HB1S
  generalize (w2.alloc (.cells #[.int .i64 0, .int .i64 0, .int .i64 0, .int .i64 0, .int .i64 0, .slice none 0 0, .int .i64 0, .slice none 0 0, .slice none 0 0, .bool false, .slice none 0 0, .int .i64 0, .int .i64 0, .slice none 0 0] 29)).setRow g7 #[.int .i64 (new0 n).id, .int .i64 (new0 n).n, .int .i64 (new0 n).view, .int .i64 (new0 n).last, .int .i64 (new0 n).status, .slice AL1 (new0 n).log.length cL1, .int .i64 (new0 n).commit, .slice AM1 (new0 n).mat.length cM1, .slice AK1 (new0 n).marks.length cK1, .bool (new0 n).sent, .slice AB1 (new0 n).bals.length cB1, .int .i64 (new0 n).elapsed, .int .i64 (new0 n).timeout, .slice AD1 (new0 n).draws.length cD1] = W2 at *
  have V0 := Aside0.mk (va0 HN.out d (by have := HD2.out; omega))
  go_upto_region 7 with (first | ((with_reducible refine gate_ (.load 29 (.tmp 7)) rfl ?_); refine wpList_load_row rfl 29 (.tmp 7) rfl g7 rfl 29 _ (0, 0) _ K7.out hu29 rfl (by kernel_rfl) ?_) | (go_at_call 8; refine (Step3ok.calls (new0 n) (vaS n d (vaH0 n)) AL1 cL1 AM1 cM1 AK1 cK1 AB1 cB1 AD1 cD1 zX none 0 A1 c1 d 3 rfl _ V0.out.1 V0.out.2 HR.out (new0_chk HN.out) rfl (Kd.C_below HD2.out.1 HB.out)).mono ?_; rintro e w3 ⟨AL2, cL2, AM2, cM2, AK2, cK2, AB2, cB2, AD2, cD2, AO2, cO2, rfl, hr, hb⟩; have HR2 := Aside0.mk hr; have HS2 := Aside0.mk (And.intro (blk_lt K7.out) HB.out.size); have HS3x := Aside0.mk hb.size; replace K7 := Aside0.mk (blk_below K7.out hb); replace HB := Aside0.mk (HB.out.trans (hb.mono HB.out.size)); clear hr hb) | ((with_reducible refine gate_ (.store 29 (.tmp 7) (.tmp 41)) rfl ?_); refine wpList_store_row rfl 29 (.tmp 7) (.tmp 41) rfl g7 #[.int .i64 (vaS n d (vaH0 n)).id, .int .i64 (vaS n d (vaH0 n)).n, .int .i64 (vaS n d (vaH0 n)).view, .int .i64 (vaS n d (vaH0 n)).last, .int .i64 (vaS n d (vaH0 n)).status, .slice AL2 (vaS n d (vaH0 n)).log.length cL2, .int .i64 (vaS n d (vaH0 n)).commit, .slice AM2 (vaS n d (vaH0 n)).mat.length cM2, .slice AK2 (vaS n d (vaH0 n)).marks.length cK2, .bool (vaS n d (vaH0 n)).sent, .slice AB2 (vaS n d (vaH0 n)).bals.length cB2, .int .i64 (vaS n d (vaH0 n)).elapsed, .int .i64 (vaS n d (vaH0 n)).timeout, .slice AD2 (vaS n d (vaH0 n)).draws.length cD2] rfl rfl 29 _ K7.out (by kernel_rfl) rfl (by kernel_rfl) ?_))
  replace HB := Aside0.mk (below_row HB.out HG7.out #[.int .i64 (vaS n d (vaH0 n)).id, .int .i64 (vaS n d (vaH0 n)).n, .int .i64 (vaS n d (vaH0 n)).view, .int .i64 (vaS n d (vaH0 n)).last, .int .i64 (vaS n d (vaH0 n)).status, .slice AL2 (vaS n d (vaH0 n)).log.length cL2, .int .i64 (vaS n d (vaH0 n)).commit, .slice AM2 (vaS n d (vaH0 n)).mat.length cM2, .slice AK2 (vaS n d (vaH0 n)).marks.length cK2, .bool (vaS n d (vaH0 n)).sent, .slice AB2 (vaS n d (vaH0 n)).bals.length cB2, .int .i64 (vaS n d (vaH0 n)).elapsed, .int .i64 (vaS n d (vaH0 n)).timeout, .slice AD2 (vaS n d (vaH0 n)).draws.length cD2])
  have HRK : Aside0 (RdK (w3.setRow g7 #[.int .i64 (vaS n d (vaH0 n)).id, .int .i64 (vaS n d (vaH0 n)).n, .int .i64 (vaS n d (vaH0 n)).view, .int .i64 (vaS n d (vaH0 n)).last, .int .i64 (vaS n d (vaH0 n)).status, .slice AL2 (vaS n d (vaH0 n)).log.length cL2, .int .i64 (vaS n d (vaH0 n)).commit, .slice AM2 (vaS n d (vaH0 n)).mat.length cM2, .slice AK2 (vaS n d (vaH0 n)).marks.length cK2, .bool (vaS n d (vaH0 n)).sent, .slice AB2 (vaS n d (vaH0 n)).bals.length cB2, .int .i64 (vaS n d (vaH0 n)).elapsed, .int .i64 (vaS n d (vaH0 n)).timeout, .slice AD2 (vaS n d (vaH0 n)).draws.length cD2]) (fun k => k < W2.heap.size) (vaS n d (vaH0 n)) AL2 cL2 AM2 cM2 AK2 cK2 AB2 cB2 AD2 cD2) := ⟨RdK.step (S := fun k => k < W2.heap.size) HR2.out (Keeps.row (g := g7) (Keeps.refl w3 _) (by exact HS2.out.1) _) (fun k hk => .inl hk)⟩
  have HS3 := Aside0.mk (And.intro HS2.out.1 (show W2.heap.size ≤ (w3.setRow g7 #[.int .i64 (vaS n d (vaH0 n)).id, .int .i64 (vaS n d (vaH0 n)).n, .int .i64 (vaS n d (vaH0 n)).view, .int .i64 (vaS n d (vaH0 n)).last, .int .i64 (vaS n d (vaH0 n)).status, .slice AL2 (vaS n d (vaH0 n)).log.length cL2, .int .i64 (vaS n d (vaH0 n)).commit, .slice AM2 (vaS n d (vaH0 n)).mat.length cM2, .slice AK2 (vaS n d (vaH0 n)).marks.length cK2, .bool (vaS n d (vaH0 n)).sent, .slice AB2 (vaS n d (vaH0 n)).bals.length cB2, .int .i64 (vaS n d (vaH0 n)).elapsed, .int .i64 (vaS n d (vaH0 n)).timeout, .slice AD2 (vaS n d (vaH0 n)).draws.length cD2]).heap.size from by have := HS3x.out; simpa using this))
  replace K7 := Aside0.mk (setRow_heap w3 g7 _ #[.int .i64 (vaS n d (vaH0 n)).id, .int .i64 (vaS n d (vaH0 n)).n, .int .i64 (vaS n d (vaH0 n)).view, .int .i64 (vaS n d (vaH0 n)).last, .int .i64 (vaS n d (vaH0 n)).status, .slice AL2 (vaS n d (vaH0 n)).log.length cL2, .int .i64 (vaS n d (vaH0 n)).commit, .slice AM2 (vaS n d (vaH0 n)).mat.length cM2, .slice AK2 (vaS n d (vaH0 n)).marks.length cK2, .bool (vaS n d (vaH0 n)).sent, .slice AB2 (vaS n d (vaH0 n)).bals.length cB2, .int .i64 (vaS n d (vaH0 n)).elapsed, .int .i64 (vaS n d (vaH0 n)).timeout, .slice AD2 (vaS n d (vaH0 n)).draws.length cD2] 29 (0, 0) K7.out)
  clear HR HR2 HS2 HS3x V0
  generalize w3.setRow g7 #[.int .i64 (vaS n d (vaH0 n)).id, .int .i64 (vaS n d (vaH0 n)).n, .int .i64 (vaS n d (vaH0 n)).view, .int .i64 (vaS n d (vaH0 n)).last, .int .i64 (vaS n d (vaH0 n)).status, .slice AL2 (vaS n d (vaH0 n)).log.length cL2, .int .i64 (vaS n d (vaH0 n)).commit, .slice AM2 (vaS n d (vaH0 n)).mat.length cM2, .slice AK2 (vaS n d (vaH0 n)).marks.length cK2, .bool (vaS n d (vaH0 n)).sent, .slice AB2 (vaS n d (vaH0 n)).bals.length cB2, .int .i64 (vaS n d (vaH0 n)).elapsed, .int .i64 (vaS n d (vaH0 n)).timeout, .slice AD2 (vaS n d (vaH0 n)).draws.length cD2] = W3 at *
  generalize W2.heap.size = N2 at *
  go_upto_region 9 with (go_at_call 9; refine (Num.calls _ _).mono ?_; rintro e w' ⟨rfl, rfl⟩)
  obtain ⟨nn, rfl⟩ : ∃ nn : Nat, n = (nn : Int) := ⟨n.toNat, by have := HN.out; omega⟩
  go_upto_region 10 with ((with_reducible refine gate_dst (N := 51) rfl ?_); refine Kd.R_make Kd.bool (w0 := w') w'.heap.size 4 rfl rfl 26 (.tmp 50) (.tmp 50) rfl (nn : Int) rfl rfl Try.underlying26 (.bool false) 1 info4 rfl (by decide) (by omega) false (ok := fun _ => True) (okp := fun _ => False) rfl (fun _ hk => hk.elim) trivial (by omega) (by have := HN.out; omega) (Below.refl _ _) (Nat.le_refl _) ?_; intro v1 w5 hr hb1 hg hown; have RM := Aside0.mk (And.intro hr (And.intro hb1 hown)); clear hr hb1 hg hown)
  obtain ⟨hr, hb1, hown⟩ := RM.out
  rw [Int.toNat_natCast] at hr
  obtain ⟨gh, ch, hv, hgs, hgl, cells, hcg⟩ := Kd.R_form hr (by rw [List.length_replicate]; have := HN.out; omega)
  rw [List.length_replicate] at hv
  subst hv
  have HRH := Aside0.mk (Kd.R_tight rfl hr)
  replace K7 := Aside0.mk (blk_below K7.out hb1)
  replace HB := Aside0.mk (HB.out.trans (hb1.mono HB.out.size))
  have HGH := Aside0.mk (show w.heap.size ≤ gh ∧ gh ≠ g7 ∧ g7 < gh from by have h1 := HS3.out; have h2 := HG7.out; exact ⟨by omega, by omega, by omega⟩)
  have HRK2 : Aside0 (RdK w5 (fun k => k = g7 ∨ k = gh) (vaS nn d (vaH0 nn)) AL2 cL2 AM2 cM2 AK2 cK2 AB2 cB2 AD2 cD2) := ⟨RdK.step HRK.out (Keeps.of_belows hb1 _) (fun k hk => by have h1 := HS3.out; rcases hk with rfl | rfl; exact .inl h1.1; exact .inr hgs)⟩
  obtain ⟨xg0, fg0⟩ := bool_cell hr 0 (Int.le_refl _) (by have := HN.out; omega)
  obtain ⟨vb, xg⟩ : ∃ vb, w5.cell? ⟨gh, 0, none⟩ = some (.bool vb) := ⟨_, xg0⟩
  have fg : w5.frozen? ⟨gh, 0, none⟩ = false := fg0
  have i1 : (0 < nn) = True := eq_true (by have := HN.out; omega)
  have i2 : (0 < (nn : Int)) = True := eq_true (by have := HN.out; omega)
  clear RM hr hb1 hown hgs hgl hcg HRK HS3 xg0 fg0
  go_wp2_with fail
  have Z0 := Aside0.mk (show VAs w (w5.setCell ⟨gh, 0, none⟩ (.bool true)) g7 gh nn ch d (vaH0 nn) from by
    refine ⟨by have := vaH0_len (n := (nn : Int)) HN.out.1; omega, HB.out.setCell (by exact HGH.out.1) _, ?_, AL2, cL2, AM2, cM2, AK2, cK2, AB2, cB2, AD2, cD2, blk_far K7.out (p := ⟨gh, 0, none⟩) (fun e => HGH.out.2.1 e.symm) _, RdK.step HRK2.out ((Keeps.refl w5 _).setCell (p := ⟨gh, 0, none⟩) (.inl (.inr rfl)) _) (fun k hk => .inl hk)⟩
    have h1 := Kd.R_putn (Kd.R_lower HRH.out (Nat.zero_le _)) 0 true
    have h2 : (List.replicate nn false).set (0 : Int).toNat true = vaH0 nn := by
      obtain ⟨m, hm⟩ : ∃ m, nn = m + 1 := ⟨nn - 1, by have := HN.out; omega⟩
      unfold vaH0
      rw [hm, List.replicate_succ]
      simp
    rw [h2] at h1
    refine Kd.R_mono h1 (fun k hk => ?_)
    have : some k = some gh := hk
    injection this)
  have HGG := Aside0.mk (And.intro HG7.out HGH.out)
  clear xg fg i1 i2 HRH K7 HB HGH HRK2 HG7
  go_loopg [12] (order.length + 1) (fun gg s12 wr => ∃ i : Int, s12 = .int .i64 i ∧ Aside0 (0 ≤ i ∧ i ≤ order.length ∧ order.length - i < gg) ∧ Aside0 (∃ H, VAs w wr g7 gh nn ch d H))
  case atStart => exact ⟨0, rfl, ⟨by omega, by omega, by omega⟩, ⟨_, Z0.out⟩⟩
  case round =>
    obtain ⟨i, rfl, Z, ZH⟩ := hrel
    clear Z0
    obtain ⟨H, hHl, hB, hR, AL3, cL3, AM3, cM3, AK3, cK3, AB3, cB3, AD3, cD3, k7, hrk⟩ := ZH.out
    by_cases hlt : i < order.length ∧ i < 40
    · have d1 : decide (i < (order.length : Int)) = true := decide_eq_true hlt.1
      have d2 : decide (i < 40) = true := decide_eq_true hlt.2
      have n1 := HN.out.1
      have n2 := HN.out.2
      have Y := Aside0.mk (And.intro hHl (And.intro hB (And.intro hR (And.intro k7 (And.intro hrk hlt)))))
      clear hHl hB hR k7 hrk hlt ZH
      go_wp2_with fail
      obtain ⟨wo, rfl⟩ : ∃ wo : World, wo = wr := ⟨_, rfl⟩
      obtain ⟨gko, rfl⟩ : ∃ g : Nat, g = gk := ⟨_, rfl⟩
      go_loopg [13, 14] (nn + 1) (fun gg s13 s14 wr => ∃ j : Int, s14 = .int .i64 j ∧ s13 = .int .i64 (cnt (fun b => b) (H.take j.toNat)) ∧ wr = wo ∧ Aside0 (0 ≤ j ∧ j ≤ nn ∧ nn - j < gg))
      case atStart => exact ⟨0, rfl, by simp [cnt], rfl, ⟨by omega, by omega, by omega⟩⟩
      case round =>
        obtain ⟨j, rfl, rfl, rfl, ZJ⟩ := hrel
        by_cases hj : j < nn
        · have e1 : decide (j < (nn : Int)) = true := decide_eq_true hj
          obtain ⟨xj, _⟩ := bool_cell Y.out.2.2.1 j ZJ.out.1 hj
          have i0 := eq_true ZJ.out.1
          have i1 := eq_true hj
          have hjn : j.toNat < H.length := by have := Y.out.1; have := ZJ.out.1; omega
          have hct := cnt_take (fun b => b) H j.toNat hjn
          have hle := cnt_le (fun b => b) (H.take j.toNat)
          have hle2 : (H.take j.toNat).length ≤ nn := by rw [List.length_take]; have := Y.out.1; omega
          have hget : H.getD j.toNat false = H[j.toNat] := by rw [List.getD_eq_getElem?_getD, List.getElem?_eq_getElem hjn]; rfl
          have hj1 : (j + 1).toNat = j.toNat + 1 := by have := ZJ.out.1; omega
          have HC := Aside0.mk (And.intro hct hj1)
          rw [hget] at xj
          generalize hcc : cnt (fun b => b) (H.take j.toNat) = cc at *
          have hwc : wrap64 (cc + 1) = cc + 1 := by unfold wrap64; omega
          have hwj : wrap64 (j + 1) = j + 1 := by have := ZJ.out.1; unfold wrap64; omega
          clear hct hle hle2 hget hj1 hj hcc
          cases hb : H[j.toNat] with
          | true =>
            rw [hb] at xj
            have HB2 := Aside0.mk hb
            clear hb
            go_wp2_with fail
            obtain ⟨gg, rfl⟩ : ∃ m, gk = m + 1 := ⟨gk - 1, by have := ZJ.out; have := of_eq_true i1; omega⟩
            go_roundg gg
            case measure => omega
            case rel => exact ⟨j + 1, by rw [hwj], by rw [hwc, HC.out.2, HC.out.1, HB2.out, if_pos rfl], rfl, ⟨by have := ZJ.out; omega, by have := of_eq_true i1; omega, by have := ZJ.out; have := of_eq_true i1; omega⟩⟩
          | false =>
            rw [hb] at xj
            have HB2 := Aside0.mk hb
            clear hb
            go_wp2_with fail
            obtain ⟨gg, rfl⟩ : ∃ m, gk = m + 1 := ⟨gk - 1, by have := ZJ.out; have := of_eq_true i1; omega⟩
            go_roundg gg
            case measure => omega
            case rel => exact ⟨j + 1, by rw [hwj], by rw [HC.out.2, HC.out.1, HB2.out, if_neg (by decide)]; simp, rfl, ⟨by have := ZJ.out; omega, by have := of_eq_true i1; omega, by have := ZJ.out; have := of_eq_true i1; omega⟩⟩
        · have e1 : decide (j < (nn : Int)) = false := decide_eq_false hj
          have htk : H.take j.toNat = H := List.take_of_length_le (by have := Y.out.1; omega)
          rw [htk]
          clear htk hj ZJ
          have hwi : wrap64 (i + 1) = i + 1 := by have := Y.out.2.2.2.2.2; have := Z.out.1; unfold wrap64; omega
          have HWI := Aside0.mk hwi
          clear hwi
          obtain ⟨kk, hkk⟩ : ∃ kk, kk = cnt (fun b => b) H := ⟨_, rfl⟩
          rw [← hkk]
          have hk0 := cnt_le (fun b => b) H
          rw [← hkk] at hk0
          obtain ⟨cm, bb, q3⟩ : ∃ (cm : Int) (b : Bool), (vaS nn d H).commit = cm ∧ (cm == 1) = b ∧ decide ((nn : Int) < 2 * kk) = b := by
            have hv : (vaS nn d H).commit = if 2 * kk > (nn : Int) then 1 else 0 := by rw [hkk]; rfl
            by_cases hq : 2 * kk > (nn : Int)
            · exact ⟨1, true, by rw [hv, if_pos hq], rfl, decide_eq_true hq⟩
            · exact ⟨0, false, by rw [hv, if_neg hq], rfl, decide_eq_false hq⟩
          obtain ⟨hcm, q2, q3⟩ := q3
          have x6 : wr.cell? ⟨g7, 6, none⟩ = some (.int .i64 cm) := (blk_cell Y.out.2.2.2.1 6).trans (by show some (Value.int .i64 (vaS nn d H).commit) = _; rw [hcm])
          have x5 : wr.cell? ⟨g7, 5, none⟩ = some (.slice AL3 1 cL3) := (blk_cell Y.out.2.2.2.1 5).trans rfl
          obtain ⟨ad, rfl, hxo⟩ := Kd.at_int HO.out i Z.out.1 Y.out.2.2.2.2.2.1
          have xo := (Y.out.2.1.cell (World.block_lt_of_cell? _ _ hxo)).trans hxo
          have hw2 : wrap64 (2 * kk) = 2 * kk := by have := Y.out.1; unfold wrap64; omega
          obtain ⟨m1, m2, m3⟩ := mod_n (rd order i) nn HN.out
          have hn0 : ((nn : Int) == 0) = false := beq_eq_false_iff_ne.2 (by omega)
          have o0 := eq_true Z.out.1
          have o1 := eq_true Y.out.2.2.2.2.2.1
          clear hkk hk0 hxo hcm
          obtain ⟨y, hy⟩ : ∃ y, y = (rd order i).tmod nn + nn := ⟨_, rfl⟩
          obtain ⟨f, hf⟩ : ∃ f, f = y.tmod nn := ⟨_, rfl⟩
          rw [← hy] at m1 m2 m3
          rw [← hf] at m1 m2
          have HF := Aside0.mk (And.intro m1 m2)
          have hy2 := hy.symm
          have hf2 := hf.symm
          clear hy hf m1 m2 n2
          cases hf0 : (f == 0) with
          | true =>
            go_wp2_with fail
            obtain ⟨gg, rfl⟩ : ∃ m, gko = m + 1 := ⟨gko - 1, by have := Z.out; have := Y.out.2.2.2.2.2; omega⟩
            go_roundg gg
            case measure => omega
            case rel => exact ⟨i + 1, by rw [HWI.out], ⟨by have := Z.out; omega, by have := Y.out.2.2.2.2.2; omega, by have := Z.out; have := Y.out.2.2.2.2.2; omega⟩, ⟨H, Y.out.1, Y.out.2.1, Y.out.2.2.1, AL3, cL3, AM3, cM3, AK3, cK3, AB3, cB3, AD3, cD3, Y.out.2.2.2.1, Y.out.2.2.2.2.1⟩⟩
          | false =>
            have hf1 : 1 ≤ f := by have h1 := HF.out.1; have h2 : f ≠ 0 := beq_eq_false_iff_ne.1 hf0; omega
            have FF := Aside0.mk (And.intro hf1 HF.out.2)
            have V1 := Aside0.mk (va1 (n := (nn : Int)) HN.out d H f)
            have K7 := Aside0.mk Y.out.2.2.2.1
            clear hf1 HF
            go_upto_region 25 with (first | ((with_reducible refine gate_ (.load 29 (.tmp 7)) rfl ?_); refine wpList_load_row rfl 29 (.tmp 7) rfl g7 rfl 29 _ (0, 0) _ K7.out hu29 rfl (by kernel_rfl) ?_) | (go_at_call 8; refine (Step2ok.calls (vaS nn d H) (vaS nn d (H.set f.toNat true)) AL3 cL3 AM3 cM3 AK3 cK3 AB3 cB3 AD3 cD3 (vaX f) none 0 none 0 [] 2 rfl rfl _ V1.out.1 V1.out.2 (RdK.now Y.out.2.2.2.2.1) (vaS_chk HN.out d (by have := HD2.out; omega) H (by have := Y.out.1; omega)) (vaX_ok FF.out) (by kernel_rfl) (Kd.C_nil _ _)).mono ?_; rintro e w6 ⟨AL4, cL4, AM4, cM4, AK4, cK4, AB4, cB4, AD4, cD4, AO4, cO4, rfl, hr, hb⟩; have ST := Aside0.mk (And.intro hr hb); replace K7 := Aside0.mk (blk_below K7.out hb); clear hr hb) | ((with_reducible refine gate_ (.store 29 (.tmp 16) (.tmp 107)) rfl ?_); refine wpList_store_row rfl 29 (.tmp 16) (.tmp 107) rfl w6.heap.size #[.int .i64 (vaS nn d (H.set f.toNat true)).id, .int .i64 (vaS nn d (H.set f.toNat true)).n, .int .i64 (vaS nn d (H.set f.toNat true)).view, .int .i64 (vaS nn d (H.set f.toNat true)).last, .int .i64 (vaS nn d (H.set f.toNat true)).status, .slice AL4 (vaS nn d (H.set f.toNat true)).log.length cL4, .int .i64 (vaS nn d (H.set f.toNat true)).commit, .slice AM4 (vaS nn d (H.set f.toNat true)).mat.length cM4, .slice AK4 (vaS nn d (H.set f.toNat true)).marks.length cK4, .bool (vaS nn d (H.set f.toNat true)).sent, .slice AB4 (vaS nn d (H.set f.toNat true)).bals.length cB4, .int .i64 (vaS nn d (H.set f.toNat true)).elapsed, .int .i64 (vaS nn d (H.set f.toNat true)).timeout, .slice AD4 (vaS nn d (H.set f.toNat true)).draws.length cD4] rfl rfl 29 #[.int .i64 0, .int .i64 0, .int .i64 0, .int .i64 0, .int .i64 0, .slice none 0 0, .int .i64 0, .slice none 0 0, .slice none 0 0, .bool false, .slice none 0 0, .int .i64 0, .int .i64 0, .slice none 0 0] (heap_alloc_new _ _) (by kernel_rfl) rfl (by kernel_rfl) ?_))
            obtain ⟨k16, hb16⟩ := laid29 w6 #[.int .i64 (vaS nn d (H.set f.toNat true)).id, .int .i64 (vaS nn d (H.set f.toNat true)).n, .int .i64 (vaS nn d (H.set f.toNat true)).view, .int .i64 (vaS nn d (H.set f.toNat true)).last, .int .i64 (vaS nn d (H.set f.toNat true)).status, .slice AL4 (vaS nn d (H.set f.toNat true)).log.length cL4, .int .i64 (vaS nn d (H.set f.toNat true)).commit, .slice AM4 (vaS nn d (H.set f.toNat true)).mat.length cM4, .slice AK4 (vaS nn d (H.set f.toNat true)).marks.length cK4, .bool (vaS nn d (H.set f.toNat true)).sent, .slice AB4 (vaS nn d (H.set f.toNat true)).bals.length cB4, .int .i64 (vaS nn d (H.set f.toNat true)).elapsed, .int .i64 (vaS nn d (H.set f.toNat true)).timeout, .slice AD4 (vaS nn d (H.set f.toNat true)).draws.length cD4]
            have K16 := Aside0.mk k16
            have L7 := blk_lt Y.out.2.2.2.1
            have LH : gh < wr.heap.size := Kd.R_lt Y.out.2.2.1 gh rfl
            have hbl := ST.out.2.trans (hb16.mono ST.out.2.size)
            have HB6 := Aside0.mk (Y.out.2.1.trans (hbl.mono Y.out.2.1.size))
            replace K7 := Aside0.mk (blk_below K7.out hb16)
            have RH6 := Kd.R_below Y.out.2.2.1 hbl
            have RK6 : RdK ((w6.alloc (.cells #[.int .i64 0, .int .i64 0, .int .i64 0, .int .i64 0, .int .i64 0, .slice none 0 0, .int .i64 0, .slice none 0 0, .slice none 0 0, .bool false, .slice none 0 0, .int .i64 0, .int .i64 0, .slice none 0 0] 29)).setRow w6.heap.size #[.int .i64 (vaS nn d (H.set f.toNat true)).id, .int .i64 (vaS nn d (H.set f.toNat true)).n, .int .i64 (vaS nn d (H.set f.toNat true)).view, .int .i64 (vaS nn d (H.set f.toNat true)).last, .int .i64 (vaS nn d (H.set f.toNat true)).status, .slice AL4 (vaS nn d (H.set f.toNat true)).log.length cL4, .int .i64 (vaS nn d (H.set f.toNat true)).commit, .slice AM4 (vaS nn d (H.set f.toNat true)).mat.length cM4, .slice AK4 (vaS nn d (H.set f.toNat true)).marks.length cK4, .bool (vaS nn d (H.set f.toNat true)).sent, .slice AB4 (vaS nn d (H.set f.toNat true)).bals.length cB4, .int .i64 (vaS nn d (H.set f.toNat true)).elapsed, .int .i64 (vaS nn d (H.set f.toNat true)).timeout, .slice AD4 (vaS nn d (H.set f.toNat true)).draws.length cD4]) (fun k => k = g7 ∨ k = gh) (vaS nn d (H.set f.toNat true)) AL4 cL4 AM4 cM4 AK4 cK4 AB4 cB4 AD4 cD4 := RdK.step (S := fun k => k < wr.heap.size) ST.out.1 (Keeps.of_belows hb16 _) (fun k hk => by rcases hk with rfl | rfl; exact .inl L7; exact .inl LH)
            clear k16 hb16 hbl L7 LH ST
            obtain ⟨g16, hg16⟩ : ∃ g, g = w6.heap.size := ⟨_, rfl⟩
            simp only [← hg16] at *
            clear hg16
            generalize (w6.alloc (.cells #[.int .i64 0, .int .i64 0, .int .i64 0, .int .i64 0, .int .i64 0, .slice none 0 0, .int .i64 0, .slice none 0 0, .slice none 0 0, .bool false, .slice none 0 0, .int .i64 0, .int .i64 0, .slice none 0 0] 29)).setRow g16 #[.int .i64 (vaS nn d (H.set f.toNat true)).id, .int .i64 (vaS nn d (H.set f.toNat true)).n, .int .i64 (vaS nn d (H.set f.toNat true)).view, .int .i64 (vaS nn d (H.set f.toNat true)).last, .int .i64 (vaS nn d (H.set f.toNat true)).status, .slice AL4 (vaS nn d (H.set f.toNat true)).log.length cL4, .int .i64 (vaS nn d (H.set f.toNat true)).commit, .slice AM4 (vaS nn d (H.set f.toNat true)).mat.length cM4, .slice AK4 (vaS nn d (H.set f.toNat true)).marks.length cK4, .bool (vaS nn d (H.set f.toNat true)).sent, .slice AB4 (vaS nn d (H.set f.toNat true)).bals.length cB4, .int .i64 (vaS nn d (H.set f.toNat true)).elapsed, .int .i64 (vaS nn d (H.set f.toNat true)).timeout, .slice AD4 (vaS nn d (H.set f.toNat true)).draws.length cD4] = W6 at *
            have RH7 := Kd.R_step RH6 (w1 := W6.setRow g7 #[.int .i64 (vaS nn d (H.set f.toNat true)).id, .int .i64 (vaS nn d (H.set f.toNat true)).n, .int .i64 (vaS nn d (H.set f.toNat true)).view, .int .i64 (vaS nn d (H.set f.toNat true)).last, .int .i64 (vaS nn d (H.set f.toNat true)).status, .slice AL4 (vaS nn d (H.set f.toNat true)).log.length cL4, .int .i64 (vaS nn d (H.set f.toNat true)).commit, .slice AM4 (vaS nn d (H.set f.toNat true)).mat.length cM4, .slice AK4 (vaS nn d (H.set f.toNat true)).marks.length cK4, .bool (vaS nn d (H.set f.toNat true)).sent, .slice AB4 (vaS nn d (H.set f.toNat true)).bals.length cB4, .int .i64 (vaS nn d (H.set f.toNat true)).elapsed, .int .i64 (vaS nn d (H.set f.toNat true)).timeout, .slice AD4 (vaS nn d (H.set f.toNat true)).draws.length cD4]) (fun k hk _ => setRow_other W6 g7 k _ (by have h1 := HGG.out; have h2 : k = gh := hk; omega))
            have k7s := setRow_heap W6 g7 _ #[.int .i64 (vaS nn d (H.set f.toNat true)).id, .int .i64 (vaS nn d (H.set f.toNat true)).n, .int .i64 (vaS nn d (H.set f.toNat true)).view, .int .i64 (vaS nn d (H.set f.toNat true)).last, .int .i64 (vaS nn d (H.set f.toNat true)).status, .slice AL4 (vaS nn d (H.set f.toNat true)).log.length cL4, .int .i64 (vaS nn d (H.set f.toNat true)).commit, .slice AM4 (vaS nn d (H.set f.toNat true)).mat.length cM4, .slice AK4 (vaS nn d (H.set f.toNat true)).marks.length cK4, .bool (vaS nn d (H.set f.toNat true)).sent, .slice AB4 (vaS nn d (H.set f.toNat true)).bals.length cB4, .int .i64 (vaS nn d (H.set f.toNat true)).elapsed, .int .i64 (vaS nn d (H.set f.toNat true)).timeout, .slice AD4 (vaS nn d (H.set f.toNat true)).draws.length cD4] 29 (0, 0) K7.out
            have RK7 := RdK.step (S' := fun k => k = g7 ∨ k = gh) RK6 (Keeps.row (g := g7) (Keeps.refl W6 _) (.inl rfl) #[.int .i64 (vaS nn d (H.set f.toNat true)).id, .int .i64 (vaS nn d (H.set f.toNat true)).n, .int .i64 (vaS nn d (H.set f.toNat true)).view, .int .i64 (vaS nn d (H.set f.toNat true)).last, .int .i64 (vaS nn d (H.set f.toNat true)).status, .slice AL4 (vaS nn d (H.set f.toNat true)).log.length cL4, .int .i64 (vaS nn d (H.set f.toNat true)).commit, .slice AM4 (vaS nn d (H.set f.toNat true)).mat.length cM4, .slice AK4 (vaS nn d (H.set f.toNat true)).marks.length cK4, .bool (vaS nn d (H.set f.toNat true)).sent, .slice AB4 (vaS nn d (H.set f.toNat true)).bals.length cB4, .int .i64 (vaS nn d (H.set f.toNat true)).elapsed, .int .i64 (vaS nn d (H.set f.toNat true)).timeout, .slice AD4 (vaS nn d (H.set f.toNat true)).draws.length cD4]) (fun k hk => .inl hk)
            have HB7 := below_row HB6.out HGG.out.1 #[.int .i64 (vaS nn d (H.set f.toNat true)).id, .int .i64 (vaS nn d (H.set f.toNat true)).n, .int .i64 (vaS nn d (H.set f.toNat true)).view, .int .i64 (vaS nn d (H.set f.toNat true)).last, .int .i64 (vaS nn d (H.set f.toNat true)).status, .slice AL4 (vaS nn d (H.set f.toNat true)).log.length cL4, .int .i64 (vaS nn d (H.set f.toNat true)).commit, .slice AM4 (vaS nn d (H.set f.toNat true)).mat.length cM4, .slice AK4 (vaS nn d (H.set f.toNat true)).marks.length cK4, .bool (vaS nn d (H.set f.toNat true)).sent, .slice AB4 (vaS nn d (H.set f.toNat true)).bals.length cB4, .int .i64 (vaS nn d (H.set f.toNat true)).elapsed, .int .i64 (vaS nn d (H.set f.toNat true)).timeout, .slice AD4 (vaS nn d (H.set f.toNat true)).draws.length cD4]
            obtain ⟨xg, fg⟩ := bool_cell RH7 f (by have := FF.out.1; omega) FF.out.2
            have Z7 := Aside0.mk (show VAs w ((W6.setRow g7 #[.int .i64 (vaS nn d (H.set f.toNat true)).id, .int .i64 (vaS nn d (H.set f.toNat true)).n, .int .i64 (vaS nn d (H.set f.toNat true)).view, .int .i64 (vaS nn d (H.set f.toNat true)).last, .int .i64 (vaS nn d (H.set f.toNat true)).status, .slice AL4 (vaS nn d (H.set f.toNat true)).log.length cL4, .int .i64 (vaS nn d (H.set f.toNat true)).commit, .slice AM4 (vaS nn d (H.set f.toNat true)).mat.length cM4, .slice AK4 (vaS nn d (H.set f.toNat true)).marks.length cK4, .bool (vaS nn d (H.set f.toNat true)).sent, .slice AB4 (vaS nn d (H.set f.toNat true)).bals.length cB4, .int .i64 (vaS nn d (H.set f.toNat true)).elapsed, .int .i64 (vaS nn d (H.set f.toNat true)).timeout, .slice AD4 (vaS nn d (H.set f.toNat true)).draws.length cD4]).setCell ⟨gh, f.toNat, none⟩ (.bool true)) g7 gh nn ch d (H.set f.toNat true) from
              ⟨by rw [List.length_set]; exact Y.out.1, HB7.setCell (by exact HGG.out.2.1) _, Kd.R_putn RH7 f true, AL4, cL4, AM4, cM4, AK4, cK4, AB4, cB4, AD4, cD4, blk_far k7s (p := ⟨gh, f.toNat, none⟩) (fun e => HGG.out.2.2.1 e.symm) _, RdK.step RK7 ((Keeps.refl _ _).setCell (p := ⟨gh, f.toNat, none⟩) (.inl (.inr rfl)) _) (fun k hk => .inl hk)⟩)
            have p0 : (0 ≤ f) = True := eq_true (by have := FF.out.1; omega)
            have p1 : (f < (nn : Int)) = True := eq_true FF.out.2
            clear RH6 RK6 RH7 k7s RK7 HB7 HB6
            go_upto_region 27 with (go_at_call 9; refine (Num.calls _ _).mono ?_; rintro e w' ⟨rfl, rfl⟩)
            go_wp2_with (first | ((with_reducible refine gate_ (.load 29 (.tmp 16)) rfl ?_); refine wpList_load_row rfl 29 (.tmp 16) rfl g16 rfl 29 _ (0, 0) _ K16.out hu29 rfl (by kernel_rfl) ?_) | (((with_reducible refine gate_ (.store 29 (.tmp 7) (.tmp 120)) rfl ?_); refine wpList_store_row rfl 29 (.tmp 7) (.tmp 120) rfl g7 #[.int .i64 (vaS nn d (H.set f.toNat true)).id, .int .i64 (vaS nn d (H.set f.toNat true)).n, .int .i64 (vaS nn d (H.set f.toNat true)).view, .int .i64 (vaS nn d (H.set f.toNat true)).last, .int .i64 (vaS nn d (H.set f.toNat true)).status, .slice AL4 (vaS nn d (H.set f.toNat true)).log.length cL4, .int .i64 (vaS nn d (H.set f.toNat true)).commit, .slice AM4 (vaS nn d (H.set f.toNat true)).mat.length cM4, .slice AK4 (vaS nn d (H.set f.toNat true)).marks.length cK4, .bool (vaS nn d (H.set f.toNat true)).sent, .slice AB4 (vaS nn d (H.set f.toNat true)).bals.length cB4, .int .i64 (vaS nn d (H.set f.toNat true)).elapsed, .int .i64 (vaS nn d (H.set f.toNat true)).timeout, .slice AD4 (vaS nn d (H.set f.toNat true)).draws.length cD4] rfl rfl 29 _ K7.out (by kernel_rfl) rfl (by kernel_rfl) ?_); generalize w'.setRow g7 #[.int .i64 (vaS nn d (H.set f.toNat true)).id, .int .i64 (vaS nn d (H.set f.toNat true)).n, .int .i64 (vaS nn d (H.set f.toNat true)).view, .int .i64 (vaS nn d (H.set f.toNat true)).last, .int .i64 (vaS nn d (H.set f.toNat true)).status, .slice AL4 (vaS nn d (H.set f.toNat true)).log.length cL4, .int .i64 (vaS nn d (H.set f.toNat true)).commit, .slice AM4 (vaS nn d (H.set f.toNat true)).mat.length cM4, .slice AK4 (vaS nn d (H.set f.toNat true)).marks.length cK4, .bool (vaS nn d (H.set f.toNat true)).sent, .slice AB4 (vaS nn d (H.set f.toNat true)).bals.length cB4, .int .i64 (vaS nn d (H.set f.toNat true)).elapsed, .int .i64 (vaS nn d (H.set f.toNat true)).timeout, .slice AD4 (vaS nn d (H.set f.toNat true)).draws.length cD4] = W7 at *))
            obtain ⟨gg, rfl⟩ : ∃ m, gko = m + 1 := ⟨gko - 1, by have := Z.out; have := Y.out.2.2.2.2.2; omega⟩
            go_roundg gg
            case measure => omega
            case rel => exact ⟨i + 1, by rw [HWI.out], ⟨by have := Z.out; omega, by have := Y.out.2.2.2.2.2; omega, by have := Z.out; have := Y.out.2.2.2.2.2; omega⟩, ⟨_, Z7.out⟩⟩
    · clear ZH hHl hR k7 hrk
      have HB8 := Aside0.mk hB
      clear hB
      by_cases hl1 : i < order.length
      · have d1 : decide (i < (order.length : Int)) = true := decide_eq_true hl1
        have d2 : decide (i < 40) = false := decide_eq_false (fun h => hlt ⟨hl1, h⟩)
        clear hlt hl1
        go_wp2_with fail
        go_ret
        exact ⟨rfl, HB8.out⟩
      · have d1 : decide (i < (order.length : Int)) = false := decide_eq_false hl1
        clear hlt hl1
        go_wp2_with fail
        go_ret
        exact ⟨rfl, HB8.out⟩
end Go.Proofs.Ytojjnifbnppliaa.T
