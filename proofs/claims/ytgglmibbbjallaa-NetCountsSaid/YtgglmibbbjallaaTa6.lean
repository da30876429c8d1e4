/- This text tells functions of the seat as plain functions, with their contracts, as the machine's calls meet them. -/
import Derived.Test.YtgglmibbbjallaaTa5
namespace Go.Proofs.Ytgglmibbbjallaa.T
open Go.RowKit Go.Proofs.YtgglmibbbjallaaW.PrintWords Go.Proofs.YtgglmibbbjallaaW.PrintLast Go.Proofs.YtgglmibbbjallaaW.PrintMore
attribute [local go_sem] max2_int min2_int max_two min_two max_three min_three max_four min_four   -- for this text's walks alone
set_option linter.unusedVariables false
set_option linter.unusedSimpArgs false

/-! ### net_Take: function 15 -/
/-- Cells behind the row's end are written: the row stays. -/
theorem own_tail {w : World} {base g n cap size : Nat} {e : TypeId} {xs : List Value} (h : w.ownsRow base e size (.slice (some ⟨g,0,none⟩) n cap) n xs) (j : Nat) (hj : n * size ≤ j) (u : Value) :
    (w.setCell ⟨g,j,none⟩ u).ownsRow base e size (.slice (some ⟨g,0,none⟩) n cap) n xs:=by
  obtain ⟨h1,h2⟩:=h
  refine⟨h1,?_⟩
  rcases h2 with ⟨h2,_⟩|⟨g',cap',cur,he,hb,hh,hnc,hm,hs,ht⟩
  · cases h2
  · injection he with ha _ hc
    injection ha with ha
    injection ha with ha
    subst ha hc
    refine .inr ⟨g,cap,cur.setIfInBounds j u,rfl,hb,blk_set hh j u,hnc,hm,by simpa using hs,?_⟩
    rw [← ht,Array.toList_setIfInBounds,List.take_set_of_le (by omega)]
theorem R_tail {α : Type} {d : Kd α} {e : Nat} {w : World} {base g n cap : Nat} {ok : Nat→Prop} {xs : List α} (h : d.R e w base ok (.slice (some ⟨g,0,none⟩) n cap) xs) (j : Nat) (hj : n * d.sz ≤ j) (u : Value) :
    d.R e (w.setCell ⟨g,j,none⟩ u) base ok (.slice (some ⟨g,0,none⟩) n cap) xs:=by
  have hn : n = xs.length:=(Kd.R_reads' h).1
  obtain ⟨h0,inner,ho,hr⟩:=h
  subst hn
  refine⟨h0,inner,own_tail ho j hj u,hr.imp_ (fun _ _ hp=>Kd.M_far (p:=⟨g,j,none⟩) hp (fun k hk e=>hk.2 (by rw [e];rfl)) u)⟩
theorem S_tail {α : Type} {d : Kd α} {e : Nat} {w : World} {base g n cap : Nat} {ok : Nat→Prop} {xs : List α} (h : Kd.S d e w base ok (.slice (some ⟨g,0,none⟩) n cap) xs) (j : Nat) (hj : n * d.sz ≤ j) (u : Value) :
    Kd.S d e (w.setCell ⟨g,j,none⟩ u) base ok (.slice (some ⟨g,0,none⟩) n cap) xs:=by
  obtain ⟨f,h⟩:=h
  exact⟨f,R_tail h j hj u⟩

theorem grown_setCell (w : World) (a : Addr) (u : Value) : w.grownBy (w.setCell a u) (some a.block) :=
  ⟨rfl,rfl,rfl,by simp,fun i _ hi=>Below.heap_setCell w a u i (fun e=>hi (by rw [e]))⟩

theorem clear_one (w : World) (g o m cc : Nat) (hm : m = 1) (hc : ∀ j,j < 3→(w.cell? ⟨g,o + j,none⟩).isSome = true) (hf : ∀ j,j < 3→w.frozen? ⟨g,o + j,none⟩ = false) :
    (Builtin.clear_ #[30] 0 #[.slice (some ⟨g,o,none⟩) m cc]).run Try.prog w = .ok (.tuple #[]) (w.setCells g o [.int .i64 0,.int .i64 0,.slice none 0 0]):=by
  subst hm
  have hst:=run_storeCells_cells (P:=Try.prog) g o [.int .i64 0,.int .i64 0,.slice none 0 0] 0 w (by simpa using hc) (by simpa using hf) (by simp [Value.oneCell'])
  have hz : ∀ W,(zeroValue 40).run Try.prog W = .ok (.agg #[.int .i64 0,.int .i64 0,.slice none 0 0]) W:=fun W=>by kernel_rfl
  have hzc : (Builtin.zeroCells (Value.agg #[.int .i64 0,.int .i64 0,.slice none 0 0]).cells 1).toList = [.int .i64 0,.int .i64 0,.slice none 0 0]:=by
    simp [Builtin.zeroCells,Value.cells]
    rfl
  simp only [Nat.add_zero] at hst
  simp [Builtin.clear_,run_underlying Try.underlying30,hz,hzc,hst]

/-- Behind the last element's place zeros are laid. -/
theorem Delete1.fin {f : Nat→Nat} {g c : Nat} {l' : List (S40 × Nat)} {B n : Nat} {ok : Nat→Prop} {w w1 : World} (hS : (Kd.tag f k40).R 40 w1 B ok (.slice (some ⟨g,0,none⟩) n c) l') (hg : w.drew.grownBy w1 (some g)) :
    (Kd.tag f k40).R 40 (w1.setCells g (n * 3) [.int .i64 0,.int .i64 0,.slice none 0 0]) B ok (.slice (some ⟨g,0,none⟩) n c) l'∧w.grownBy (w1.setCells g (n * 3) [.int .i64 0,.int .i64 0,.slice none 0 0]) (some g):=by
  have hgc : (w1.setCells g (n * 3) [.int .i64 0,.int .i64 0,.slice none 0 0]) = ((w1.setCell ⟨g,n * 3,none⟩ (.int .i64 0)).setCell ⟨g,n * 3 + 1,none⟩ (.int .i64 0)).setCell ⟨g,n * 3 + 1 + 1,none⟩ (.slice none 0 0):=rfl
  rw [hgc]
  have g0 : w.grownBy w.drew (some g):=⟨rfl,rfl,rfl,Nat.le_refl _,fun _ _ _=>rfl⟩
  have g1 : w1.grownBy (w1.setCell ⟨g,n * 3,none⟩ (.int .i64 0)) (some g):=grown_setCell w1 ⟨g,n * 3,none⟩ _
  have g2 : (w1.setCell ⟨g,n * 3,none⟩ (.int .i64 0)).grownBy ((w1.setCell ⟨g,n * 3,none⟩ (.int .i64 0)).setCell ⟨g,n * 3 + 1,none⟩ (.int .i64 0)) (some g):=grown_setCell _ ⟨g,n * 3 + 1,none⟩ _
  have g3 : ((w1.setCell ⟨g,n * 3,none⟩ (.int .i64 0)).setCell ⟨g,n * 3 + 1,none⟩ (.int .i64 0)).grownBy (((w1.setCell ⟨g,n * 3,none⟩ (.int .i64 0)).setCell ⟨g,n * 3 + 1,none⟩ (.int .i64 0)).setCell ⟨g,n * 3 + 1 + 1,none⟩ (.slice none 0 0)) (some g):=grown_setCell _ ⟨g,n * 3 + 1 + 1,none⟩ _
  have hs : (Kd.tag f k40).sz = 3:=rfl
  exact⟨R_tail (R_tail (R_tail hS (n * 3) (by rw [hs];omega) _) (n * 3 + 1) (by rw [hs];omega) _) (n * 3 + 1 + 1) (by rw [hs];omega) _,((g0.trans hg).trans (g1.trans g2)).trans g3⟩
theorem Delete1.cell {f : Nat→Nat} {g c : Nat} {l' : List (S40 × Nat)} {B n N : Nat} {ok : Nat→Prop} {w1 : World} (hS : (Kd.tag f k40).R 40 w1 B ok (.slice (some ⟨g,0,none⟩) n c) l') (hn : n < N) (hc : N ≤ c) :
    ∀ j,j < 3→(w1.cell? ⟨g,n * 3 + j,none⟩).isSome = true∧w1.frozen? ⟨g,n * 3 + j,none⟩ = false:=by
  intro j hj
  obtain ⟨inner,ho⟩:=Kd.R_own hS
  rcases ho.2 with ⟨h2,_⟩|⟨g',cap',cur,he,hb,hh,hnc,hm,hs,ht⟩
  · cases h2
  · injection he with ha _ hc
    injection ha with ha
    injection ha with ha
    subst ha hc
    refine⟨?_,bkF hh _⟩
    have hs' : cur.size = c * 3:=hs
    rw [bkC hh,Array.getElem?_eq_getElem (by omega)]
    rfl

/-- An element is out: what it led to is none of the others'. -/
theorem S_erase_apart {α : Type} {d : Kd α} {f : Nat→Nat} {e : Nat} {w : World} {base : Nat} {ok : Nat→Prop} {v : Value} {xs : List α} {n : Nat} (h : (Kd.tag f d).R e w base ok v (xs.zipIdx.eraseIdx n)) (v4 : Value)
    (hb : ∀ b,v4.ownBlock = some b→f b = n∧some b ≠ v.ownBlock) : Kd.S d e w base (fun k=>some k ≠ v4.ownBlock) v (xs.eraseIdx n):=by
  refine Kd.S_erase (f:=f) ?_
  obtain ⟨h0,inner,ho,hr⟩:=h
  refine⟨fun k hk hv=>(hb k hv.symm).2 hk.symm,inner,ho,hr.1,fun j p hj=>?_⟩
  have hne : p.2 ≠ n:=by
    rw [List.getElem?_eraseIdx] at hj
    split at hj <;> (rw [List.getElem?_zipIdx] at hj;obtain ⟨x,_,rfl⟩:=Option.map_eq_some_iff.1 hj;simp;omega)
  exact d.M_mono (fun k hk=>⟨⟨fun e=>hne (by rw [← hk.2];exact(hb k e.symm).1),hk.1.2⟩,hk.2⟩) (hr.2 j p hj)

set_option maxHeartbeats 4000000 in
set_option maxRecDepth 100000 in
theorem Delete1.calls (f : Nat→Nat) (g c : Nat) (l : List S40) (B : Nat) (ok : Nat→Prop) (k : Int) (w : World) (hS : (Kd.tag f k40).R 40 w B ok (.slice (some ⟨g,0,none⟩) l.length c) l.zipIdx) (h0 : 0 ≤ k) (h1 : k < l.length) :
    Calls Try.prog 36 #[.slice (some ⟨g,0,none⟩) l.length c,.int .i64 k,.int .i64 (k + 1)] w fun e w'=>e = .returned (.slice (some ⟨g,0,none⟩) (l.length - 1) c)∧(Kd.tag f k40).R 40 w' B ok (.slice (some ⟨g,0,none⟩) (l.length - 1) c) (l.zipIdx.eraseIdx k.toNat)∧w.grownBy w' (some g):=by
  have hu30:=Try.underlying30
  have hlc : l.length ≤ c:=(Kd.R_reads' hS).2.1
  have hbig : l.length ≤ 9223372036854775807:=by have:=(Kd.R_reads' hS).2.2.2.1;simpa using this
  have HS:=mkA hS
  have e1 : (k == k + 1) = false:=beq_eq_false_iff_ne.2 (by omega)
  clear hS
  have b1 : k ≤ (c : Int):=by omega
  have b2 : k + 1 ≤ (l.length : Int):=by omega
  have b3 : 0 ≤ k + 1:=by omega
  have HK:=mkA h1
  have HBS:=mkA (Kd.R_base HS.out g rfl)
  have HLT:=mkA (Kd.R_lt HS.out g rfl)
  clear h1
  go_enter Try.func36,Try.ntmps36
  go_wp2
  go_region_law (refine Kd.R_delete_step (Kd.tag f k40) (w0:=w) B rfl (.tmp 22) (.tmp 25) 30 40 rfl Try.underlying30 (by kernel_rfl) (g:=g) (n:=l.length) (c:=c) (k:=k.toNat) (xs:=l.zipIdx) (ok:=ok) rfl rfl ?hA ?hm ?hO ?hk ?hB ?hb ?_;(case hA=>rw [show(k + 1).toNat = k.toNat + 1 by omega];simp only [Option.map_some,add_plain];rfl);(case hm=>rw [show(k + 1).toNat = k.toNat + 1 by omega]);(case hO=>first|exact Kd.R_drewN HS.out _|exact Kd.R_drew HS.out);(case hk=>have:=HK.out;omega);(case hB=>first|exact bwN ((Below.refl w.heap.size w).mono (by have:=HBS.out;have:=HLT.out;omega)) _|exact below_drew ((Below.refl w.heap.size w).mono (by have:=HBS.out;have:=HLT.out;omega)));(case hb=>have:=HBS.out;have:=HLT.out;simp;omega);intro w1 hS1 hB1 hg1;have HS1:=mkA hS1;have HG1:=mkA hg1;clear hS1 hB1 hg1)
  all_goals
    have hle : l.length - 1 ≤ l.length:=by omega
    have hone : l.length - (l.length - 1) = 1:=by have:=HK.out;omega
    have hclr:=fun cc=>clear_one w1 g ((l.length - 1) * 3) (l.length - (l.length - 1)) cc hone (fun j hj=>(Delete1.cell HS1.out (by have:=HK.out;omega : l.length - 1 < l.length) hlc j hj).1) (fun j hj=>(Delete1.cell HS1.out (by have:=HK.out;omega : l.length - 1 < l.length) hlc j hj).2)
    have HFIN:=mkA (Delete1.fin HS1.out HG1.out)
    have hcne : ¬ c = l.length - 1:=by have:=HK.out;omega
    clear hone
    go_wp2
    all_goals
      go_ret
      first
        | exact⟨rfl,HFIN.out⟩
        | (subst h;exact⟨rfl,HFIN.out⟩)

theorem zip_get (l : List S40) (i : Int) (h0 : 0 ≤ i) (h1 : i < l.length) : l.zipIdx.getD i.toNat (z40,0) = (rd_T40 l i,i.toNat):=by
  have hn : i.toNat < l.length:=by omega
  unfold rd_T40
  rw [List.getD_eq_getElem?_getD,List.getD_eq_getElem?_getD,List.getElem?_zipIdx,List.getElem?_eq_getElem hn]
  simp
def net_Take.f (a : Int) (l : List S40) (k : Int) : Option (Int × List S40 × Int × Int × List Int × Int) :=
  (net_asked.f a l k).bind fun e =>
    if e = 0 then(if 0 ≤ k∧k < l.length then(net_State_clone.f a l).bind fun t=>some (a,l.eraseIdx k.toNat,(rd_T40 l k).f0,(rd_T40 l k).f1,(rd_T40 l k).f2,0) else none)
    else some (0,[],0,0,[],e)
set_option maxHeartbeats 4000000 in
set_option maxRecDepth 100000 in
theorem net_Take.calls (a0_0 : Int) (A0_1 : Option Addr) (c0_1 : Nat) (l0_1 : List S40) (a1 : Int) (r1 : Int) (r2 : List S40) (r3 : Int) (r4 : Int) (r5 : List Int) (r6 : Int) (w : World) (hr0_1 : Kd.C k40 w A0_1 l0_1.length l0_1) (hc0_1 : l0_1.length ≤ c0_1) (h : net_Take.f a0_0 l0_1 a1 = some (r1,r2,r3,r4,r5,r6)) :
    Calls Try.prog 15 #[.agg #[.int .i64 a0_0,.slice A0_1 l0_1.length c0_1],.int .i64 a1] w fun e w'=>∃ v1_ v4_ : Value,e = .returned (.tuple #[.agg #[.int .i64 r1,v1_],.agg #[.int .i64 r3,.int .i64 r4,v4_],.int .i64 r6])∧Kd.S k40 40 w' w.heap.size (fun k_=>some k_ ≠ (v4_ : Value).ownBlock) v1_ r2∧Kd.R (Kd.int .u8) 5 w' w.heap.size (fun _=>True) v4_ r5∧Below w.heap.size w w':=by
  have hu40:=Try.underlying40
  have hu32:=Try.underlying32
  unfold net_Take.f at h
  obtain ⟨e0,he0,h⟩:=Option.bind_eq_some_iff.1 h
  have HE:=mkA he0
  have HR:=mkA hr0_1
  have HC:=mkA hc0_1
  clear he0 hr0_1 hc0_1
  by_cases h0 : e0 = 0
  · subst h0
    rw [if_pos rfl] at h
    split at h
    case isFalse=>cases h
    case isTrue hk =>
    obtain ⟨t,ht,h⟩:=Option.bind_eq_some_iff.1 h
    have htt : t = (a0_0,l0_1):=by
      unfold net_State_clone.f at ht
      split at ht
      · exact(Option.some.inj ht).symm
      · cases ht
    subst htt
    simp only [Option.some.injEq,Prod.mk.injEq] at h
    obtain ⟨rfl,rfl,rfl,rfl,rfl,rfl⟩:=h
    have HT:=mkA ht
    have HK:=mkA hk
    have p1:=eq_true hk.1
    have p2:=eq_true hk.2
    clear ht hk
    have hw1 : wrap64 (a1 + 1) = a1 + 1:=by
      have h3:=HR.out.2.1
      have h4:=HK.out
      unfold wrap64
      omega
    go_enter Try.func15,Try.ntmps15
    go_wp2_with (first|(go_at_call 35;refine(net_asked.calls a0_0 A0_1 c0_1 l0_1 a1 0 _ (Kd.C_alloc (Kd.C_alloc (Kd.C_alloc HR.out _) _) _) HC.out HE.out).mono ?_;rintro e w1 ⟨rfl,hb⟩;have K1:=mkA (bkB (bkA (bkA (heap_alloc_new w (.cells #[.int .i64 a0_0,.slice A0_1 l0_1.length c0_1] 32)) (.cells #[.int .i64 0,.slice none 0 0] 32)) (.cells #[.int .i64 0,.int .i64 0,.slice none 0 0] 40)) hb);have K2:=mkA (bkB (bkA (heap_alloc_new (w.alloc (.cells #[.int .i64 a0_0,.slice A0_1 l0_1.length c0_1] 32)) (.cells #[.int .i64 0,.slice none 0 0] 32)) (.cells #[.int .i64 0,.int .i64 0,.slice none 0 0] 40)) hb);have K3:=mkA (bkB (heap_alloc_new ((w.alloc (.cells #[.int .i64 a0_0,.slice A0_1 l0_1.length c0_1] 32)).alloc (.cells #[.int .i64 0,.slice none 0 0] 32)) (.cells #[.int .i64 0,.int .i64 0,.slice none 0 0] 40)) hb);have HB:=mkA ((bwA (bwA (bwA (Below.refl w.heap.size w) (.cells #[.int .i64 a0_0,.slice A0_1 l0_1.length c0_1] 32)) (.cells #[.int .i64 0,.slice none 0 0] 32)) (.cells #[.int .i64 0,.int .i64 0,.slice none 0 0] 40)).trans (hb.mono (by simp;omega)));have HZ:=mkA (show w.heap.size + 3 ≤ w1.heap.size by have:=hb.size;simp at this;omega);clear hb;have q0:=(bkC K1.out 0).trans rfl;have q1:=(bkC K1.out 1).trans rfl))
    refine(net_State_clone.calls a0_0 A0_1 c0_1 l0_1 _ _ _ (Kd.C_below HR.out HB.out) HC.out HT.out).mono ?_
    rintro e w2 ⟨v,rfl,⟨f,hF⟩,hb⟩
    obtain ⟨g,cp,rfl,hgb,hgl,_⟩:=Kd.R_form hF (by have:=HK.out;simp;omega)
    simp only [List.length_zipIdx] at hF
    obtain ⟨ce,hcl,hM,hcc,_⟩:=Kd.R_elem hF (z40,0) a1 HK.out.1 (by exact HK.out.2)
    rw [zip_get l0_1 a1 HK.out.1 HK.out.2] at hM
    obtain ⟨v4,rfl,hv4⟩:=k40_openM hM
    obtain ⟨A4,c4,hv4e,_⟩:=Kd.R_reads hv4
    subst hv4e
    have HF:=mkA hF
    have HG:=mkA (And.intro hgb hgl)
    have HB2:=mkA hb
    have HV4:=mkA hv4
    have ee:=(fun j u (hu : w2.cell? ⟨g,j,none⟩ = some u)=>((bwA (Below.refl w2.heap.size w2) (.cells #[.int .i64 a0_0,.slice (some ⟨g,0,none⟩) l0_1.length cp] 32)).cell (show(⟨g,j,none⟩ : Addr).block < w2.heap.size from hgl)).trans hu : ∀ (j : Nat) (u : Value),w2.cell? ⟨g,j,none⟩ = some u→(w2.alloc (.cells #[.int .i64 a0_0,.slice (some ⟨g,0,none⟩) l0_1.length cp] 32)).cell? ⟨g,j,none⟩ = some u)
    have e0 : (w2.alloc (.cells #[.int .i64 a0_0,.slice (some ⟨g,0,none⟩) l0_1.length cp] 32)).cell? ⟨g,a1.toNat * 3,none⟩ = some (.int .i64 (rd_T40 l0_1 a1).f0):=ee _ _ (hcc 0 _ rfl)
    have e1 : (w2.alloc (.cells #[.int .i64 a0_0,.slice (some ⟨g,0,none⟩) l0_1.length cp] 32)).cell? ⟨g,a1.toNat * 3 + 1,none⟩ = some (.int .i64 (rd_T40 l0_1 a1).f1):=ee _ _ (hcc 1 _ rfl)
    have e2 : (w2.alloc (.cells #[.int .i64 a0_0,.slice (some ⟨g,0,none⟩) l0_1.length cp] 32)).cell? ⟨g,a1.toNat * 3 + 2,none⟩ = some (.slice A4 (rd_T40 l0_1 a1).f2.length c4):=ee _ _ (hcc 2 _ rfl)
    have HCC:=mkA hcc
    clear ee hF hgb hgl hb hM hcc hcl hv4
    go_wp2_with (go_at_call 36;refine(Delete1.calls f g cp l0_1 _ _ a1 _ (Kd.R_alloc (Kd.R_alloc (Kd.R_bound HF.out) _) _) HK.out.1 HK.out.2).mono ?_;rintro e w4 ⟨rfl,hR4,hg4⟩;have HR4:=mkA hR4;have HG4:=mkA hg4;have HV5:=mkA (Kd.R_grown (Kd.R_alloc (Kd.R_alloc (Kd.R_bound HV4.out) (.cells #[.int .i64 a0_0,.slice (some ⟨g,0,none⟩) l0_1.length cp] 32)) (.cells #[.int .i64 (rd_T40 l0_1 a1).f0,.int .i64 (rd_T40 l0_1 a1).f1,.slice A4 (rd_T40 l0_1 a1).f2.length c4] 40)) hg4 (fun k hk e=>hk.1.1.2 (Option.some.inj e)));have K4:=mkA ((hg4.block w2.heap.size (by simp;omega) (fun e=>by have:=Option.some.inj e;have:=HG.out.2;omega)).trans (bkA (heap_alloc_new w2 (.cells #[.int .i64 a0_0,.slice (some ⟨g,0,none⟩) l0_1.length cp] 32)) (.cells #[.int .i64 (rd_T40 l0_1 a1).f0,.int .i64 (rd_T40 l0_1 a1).f1,.slice A4 (rd_T40 l0_1 a1).f2.length c4] 40)));have K5:=mkA ((hg4.block (w2.heap.size + 1) (by simp) (fun e=>by have:=Option.some.inj e;have:=HG.out.2;omega)).trans (by have:=heap_alloc_new (w2.alloc (.cells #[.int .i64 a0_0,.slice (some ⟨g,0,none⟩) l0_1.length cp] 32)) (.cells #[.int .i64 (rd_T40 l0_1 a1).f0,.int .i64 (rd_T40 l0_1 a1).f1,.slice A4 (rd_T40 l0_1 a1).f2.length c4] 40);simp only [World.size_alloc] at this;exact this));have hu : ∀ b,b < w1.heap.size→w4.heap[b]? = w1.heap[b]?:=(fun b hb=>((hg4.block b (by have:=HB2.out.size;simp;omega) (fun e=>by have:=Option.some.inj e;have:=HG.out.1;omega)).trans ((bwA (bwA (Below.refl w2.heap.size w2) (.cells #[.int .i64 a0_0,.slice (some ⟨g,0,none⟩) l0_1.length cp] 32)) (.cells #[.int .i64 (rd_T40 l0_1 a1).f0,.int .i64 (rd_T40 l0_1 a1).f1,.slice A4 (rd_T40 l0_1 a1).f2.length c4] 40)).block b (by have:=HB2.out.size;omega))).trans (HB2.out.block b hb));have K6:=mkA ((hu (w.heap.size + 1) (by have:=HZ.out;omega)).trans (by have:=K2.out;simp only [World.size_alloc] at this;exact this));have K7:=mkA ((hu (w.heap.size + 1 + 1) (by have:=HZ.out;omega)).trans (by have:=K3.out;simp only [World.size_alloc] at this;exact this));clear hu hR4 hg4;have x0:=(bkC K4.out 0).trans rfl;have x1:=(bkC K4.out 1).trans rfl;have f0:=bkF K4.out 1;have y0:=(bkC K5.out 0).trans rfl;have y1:=(bkC K5.out 1).trans rfl;have y2:=(bkC K5.out 2).trans rfl;have z0:=(bkC K6.out 0).trans rfl;have z1:=(bkC K6.out 1).trans rfl;have g0:=bkF K6.out 0;have g1:=bkF K6.out 1;have m0:=(bkC K7.out 0).trans rfl;have m1:=(bkC K7.out 1).trans rfl;have m2:=(bkC K7.out 2).trans rfl;have j0:=bkF K7.out 0;have j1:=bkF K7.out 1;have j2:=bkF K7.out 2)
    have ws : ∃ x,x = w4.setCell ⟨w2.heap.size,1,none⟩ (.slice (some ⟨g,0,none⟩) (l0_1.length - 1) cp):=⟨_,rfl⟩
    obtain ⟨ws,hws⟩:=ws
    rw [← hws]
    have hz:=HZ.out
    have hgg:=HG.out
    have hB2s:=HB2.out.size
    have N4:=mkA (show ws.heap[w2.heap.size]? = some (.cells #[.int .i64 a0_0,.slice (some ⟨g,0,none⟩) (l0_1.length - 1) cp] 32 (0,0)) by rw [hws];exact blk_put K4.out 1 _ rfl)
    have N5:=mkA (show ws.heap[w2.heap.size + 1]? = some (.cells #[.int .i64 (rd_T40 l0_1 a1).f0,.int .i64 (rd_T40 l0_1 a1).f1,.slice A4 (rd_T40 l0_1 a1).f2.length c4] 40 (0,0)) by rw [hws];exact blk_far K5.out (by simp) _)
    have N6:=mkA (show ws.heap[w.heap.size + 1]? = some (.cells #[.int .i64 0,.slice none 0 0] 32 (0,0)) by rw [hws];exact blk_far K6.out (by simp;omega) _)
    have N7:=mkA (show ws.heap[w.heap.size + 1 + 1]? = some (.cells #[.int .i64 0,.int .i64 0,.slice none 0 0] 40 (0,0)) by rw [hws];exact blk_far K7.out (by simp;omega) _)
    have NR:=mkA (show(Kd.tag f k40).R 40 ws w1.heap.size (fun k=>True∧w1.heap.size ≤ k∧k < w2.heap.size) (.slice (some ⟨g,0,none⟩) (l0_1.length - 1) cp) (l0_1.zipIdx.eraseIdx a1.toNat) by rw [hws];exact Kd.R_far (Kd.R_mono HR4.out (fun k hk=>⟨trivial,hk.2.1,hk.2.2.1⟩)) (fun k hk=>by simp;omega) _)
    have NV:=mkA (show(Kd.int .u8).R 5 ws w1.heap.size (fun k=>((True∧k ≠ g)∧f k = a1.toNat)∧w1.heap.size ≤ k∧k < w2.heap.size) (.slice A4 (rd_T40 l0_1 a1).f2.length c4) (rd_T40 l0_1 a1).f2 by rw [hws];exact Kd.R_far (Kd.R_mono HV5.out (fun k hk=>⟨hk.1,hk.2.1,hk.2.2.1⟩)) (fun k hk=>by simp;omega) _)
    clear x0 x1 f0 y0 y1 y2 z0 z1 g0 g1 m0 m1 m2 j0 j1 j2 e0 e1 e2
    have NB:=mkA (show Below w.heap.size w ws by rw [hws];refine bwS (g:=w2.heap.size) ?_ (by omega);refine Below.grown (bwA (bwA (HB.out.trans (HB2.out.mono (by omega))) _) _) HG4.out (by simp;omega) (fun k e=>by have:=Option.some.inj e;omega))
    clear hws
    have x0:=(bkC N4.out 0).trans rfl
    have x1:=(bkC N4.out 1).trans rfl
    have y0:=(bkC N5.out 0).trans rfl
    have y1:=(bkC N5.out 1).trans rfl
    have y2:=(bkC N5.out 2).trans rfl
    have z0:=(bkC N6.out 0).trans rfl
    have z1:=(bkC N6.out 1).trans rfl
    have g0:=bkF N6.out 0
    have g1:=bkF N6.out 1
    have m0:=(bkC N7.out 0).trans rfl
    have m1:=(bkC N7.out 1).trans rfl
    have m2:=(bkC N7.out 2).trans rfl
    have j0:=bkF N7.out 0
    have j1:=bkF N7.out 1
    have j2:=bkF N7.out 2
    have n0 : ¬ w2.heap.size = w.heap.size:=by omega
    have n1 : ¬ w2.heap.size = w.heap.size + 1:=by omega
    have n2 : ¬ w2.heap.size = w.heap.size + 1 + 1:=by omega
    have n3 : ¬ w2.heap.size + 1 = w.heap.size + 1:=by omega
    have n4 : ¬ w2.heap.size + 1 = w.heap.size + 1 + 1:=by omega
    clear hz hgg hB2s
    go_region
    go_wp2
    refine bodyPost_ret (results_list (rs:=[.cell 4 32,.cell 5 40,.tmp 6]) rfl (by simp) (.cell (w.heap.size + 1) 32 #[.int .i64 a0_0,.slice (some ⟨g,0,none⟩) (l0_1.length - 1) cp] (0,0) _ rfl (bkD (blk_far (blk_far (blk_far (blk_put (cs:=#[.int .i64 a0_0,.slice none 0 0]) (blk_put (cs:=#[.int .i64 0,.slice none 0 0]) N6.out 0 _ rfl) 1 _ rfl) (by simp) _) (by simp) _) (by simp) _)) Try.underlying32 rfl (by kernel_rfl) (.cell (w.heap.size + 1 + 1) 40 #[.int .i64 (rd_T40 l0_1 a1).f0,.int .i64 (rd_T40 l0_1 a1).f1,.slice A4 (rd_T40 l0_1 a1).f2.length c4] (0,0) _ rfl (bkD (blk_put (cs:=#[.int .i64 (rd_T40 l0_1 a1).f0,.int .i64 (rd_T40 l0_1 a1).f1,.slice none 0 0]) (blk_put (cs:=#[.int .i64 (rd_T40 l0_1 a1).f0,.int .i64 0,.slice none 0 0]) (blk_put (cs:=#[.int .i64 0,.int .i64 0,.slice none 0 0]) (blk_far (blk_far N7.out (by simp) _) (by simp) _) 0 _ rfl) 1 _ rfl) 2 _ rfl)) Try.underlying40 rfl (by kernel_rfl) (.tmp .nil)))) rfl ?_
    have hz:=HZ.out
    refine⟨_,_,rfl,S_erase_apart (f:=f) (ok:=fun k=>True∧w1.heap.size ≤ k∧k < w2.heap.size) (Kd.R_lower (Kd.R_drew (Kd.R_far (Kd.R_far (Kd.R_far (Kd.R_far (Kd.R_far NR.out ?_ _) ?_ _) ?_ _) ?_ _) ?_ _)) (by omega)) _ (fun b hb=>?_),Kd.R_mono (Kd.R_lower (Kd.R_drew (Kd.R_far (Kd.R_far (Kd.R_far (Kd.R_far (Kd.R_far NV.out ?_ _) ?_ _) ?_ _) ?_ _) ?_ _)) (by omega)) (fun _ _=>trivial),bwD (bwS (bwS (bwS (bwS (bwS NB.out ?_) ?_) ?_) ?_) ?_)⟩
    all_goals first|omega|(intro k hk;simp only;omega)|skip
    have:=NV.out.1 b hb
    exact⟨this.1.2,fun e=>this.1.1.2 (by simpa [Value.ownBlock] using e)⟩
  · rw [if_neg h0] at h
    simp only [Option.some.injEq,Prod.mk.injEq] at h
    obtain ⟨rfl,rfl,rfl,rfl,rfl,rfl⟩:=h
    have n1 : (e0 == 0) = false:=beq_eq_false_iff_ne.mpr h0
    have n2 : (e0 != 0) = true:=bne_iff_ne.mpr h0
    clear h0
    go_enter Try.func15,Try.ntmps15
    go_wp2_with (first|(go_at_call 35;refine(net_asked.calls a0_0 A0_1 c0_1 l0_1 a1 e0 _ (Kd.C_alloc (Kd.C_alloc (Kd.C_alloc HR.out _) _) _) HC.out HE.out).mono ?_;rintro e w1 ⟨rfl,hb⟩;have K1:=mkA (bkB (bkA (bkA (heap_alloc_new w (.cells #[.int .i64 a0_0,.slice A0_1 l0_1.length c0_1] 32)) (.cells #[.int .i64 0,.slice none 0 0] 32)) (.cells #[.int .i64 0,.int .i64 0,.slice none 0 0] 40)) hb);have K2:=mkA (bkB (bkA (heap_alloc_new (w.alloc (.cells #[.int .i64 a0_0,.slice A0_1 l0_1.length c0_1] 32)) (.cells #[.int .i64 0,.slice none 0 0] 32)) (.cells #[.int .i64 0,.int .i64 0,.slice none 0 0] 40)) hb);have K3:=mkA (bkB (heap_alloc_new ((w.alloc (.cells #[.int .i64 a0_0,.slice A0_1 l0_1.length c0_1] 32)).alloc (.cells #[.int .i64 0,.slice none 0 0] 32)) (.cells #[.int .i64 0,.int .i64 0,.slice none 0 0] 40)) hb);have HB:=mkA ((bwA (bwA (bwA (Below.refl w.heap.size w) (.cells #[.int .i64 a0_0,.slice A0_1 l0_1.length c0_1] 32)) (.cells #[.int .i64 0,.slice none 0 0] 32)) (.cells #[.int .i64 0,.int .i64 0,.slice none 0 0] 40)).trans (hb.mono (by simp;omega)));have HZ:=mkA (show w.heap.size + 3 ≤ w1.heap.size by have:=hb.size;simp at this;omega);clear hb;have z0:=(bkC K2.out 0).trans rfl;have z1:=(bkC K2.out 1).trans rfl;have g0:=bkF K2.out 0;have g1:=bkF K2.out 1;have y0:=(bkC K3.out 0).trans rfl;have y1:=(bkC K3.out 1).trans rfl;have y2:=(bkC K3.out 2).trans rfl;have j0:=bkF K3.out 0;have j1:=bkF K3.out 1;have j2:=bkF K3.out 2;simp only [World.size_alloc] at z0 z1 g0 g1 y0 y1 y2 j0 j1 j2))
    have k2:=K2.out
    have k3:=K3.out
    simp only [World.size_alloc] at k2 k3
    refine bodyPost_ret (results_list (rs:=[.cell 4 32,.cell 5 40,.tmp 6]) rfl (by simp) (.cell (w.heap.size + 1) 32 #[.int .i64 0,.slice none 0 0] (0,0) _ rfl (blk_far (blk_far (blk_far (blk_put (cs:=#[.int .i64 0,.slice none 0 0]) (blk_put (cs:=#[.int .i64 0,.slice none 0 0]) k2 0 _ rfl) 1 _ rfl) (by simp) _) (by simp) _) (by simp) _) Try.underlying32 rfl (by kernel_rfl) (.cell (w.heap.size + 1 + 1) 40 #[.int .i64 0,.int .i64 0,.slice none 0 0] (0,0) _ rfl (blk_put (cs:=#[.int .i64 0,.int .i64 0,.slice none 0 0]) (blk_put (cs:=#[.int .i64 0,.int .i64 0,.slice none 0 0]) (blk_put (cs:=#[.int .i64 0,.int .i64 0,.slice none 0 0]) (blk_far (blk_far k3 (by simp) _) (by simp) _) 0 _ rfl) 1 _ rfl) 2 _ rfl) Try.underlying40 rfl (by kernel_rfl) (.tmp .nil)))) rfl ?_
    exact⟨_,_,rfl,Kd.S_nil _ _ _ _ _,Kd.R_nil _ _ _ _ _,((((HB.out.setCell (by simp) _).setCell (by simp) _).setCell (by simp;omega) _).setCell (by simp;omega) _).setCell (by simp;omega) _⟩

/-! ### undercroftref04_there: function 37 -/
def undercroftref04_there.f (k : Nat) (a0_0 : Int) (l0_1 : List (S38)) (a1 : Int) : Option (Int):=(undercroftref04_Check.f k a0_0 l0_1).bind fun t246=>(if t246 = 0 then(if a1 < 0 then(some 71) else(if a1 ≥ (l0_1.length : Int) then(some 71) else(some 0))) else(some 9))
theorem undercroftref04_there.mono : ∀ a0 a1 a2 k,LeO (undercroftref04_there.f k a0 a1 a2) (undercroftref04_there.f (k + 1) a0 a1 a2):=by
  intro a0 a1 a2 k
  unfold undercroftref04_there.f
  repeat' first
      | (with_reducible exact undercroftref04_Check.mono _ _ _)
      | (with_reducible exact LeO.refl _)
      | (with_reducible exact LeO.none _)
      | (with_reducible refine LeO.ite ?_ ?_)
      | (with_reducible refine LeO.bind ?_ (fun _=>?_))
      | exact undercroftref04_Check.mono _ _ _
      | exact LeO.none _
      | refine LeO.ite ?_ ?_
      | refine LeO.bind ?_ (fun _=>?_)
set_option maxHeartbeats 8000000 in
set_option maxRecDepth 100000 in
theorem undercroftref04_there.calls (k : Nat) (a0_0 : Int) (A0_1 : Option Addr) (c0_1 : Nat) (l0_1 : List (S38)) (a1 : Int) (r : Int) (w : World) (hr0_1 : Kd.C k38 w A0_1 l0_1.length l0_1) (hc0_1 : l0_1.length ≤ c0_1) (h : undercroftref04_there.f k a0_0 l0_1 a1 = some r) :
    Calls Try.prog 37 #[.agg #[.int .i64 a0_0,.slice A0_1 l0_1.length c0_1],.int .i64 a1] w fun e w'=>e = .returned (.int .i64 r)∧Below w.heap.size w w':=by
  have hu24:=Try.underlying24
  have HR0_1:=mkA hr0_1
  have HC0_1:=mkA hc0_1
  clear hr0_1 hc0_1
  have HB:=mkA (Below.refl w.heap.size w)
  have H : ((undercroftref04_Check.f k a0_0 l0_1).bind fun t246=>(if t246 = 0 then(if a1 < 0 then(some 71) else(if a1 ≥ (l0_1.length : Int) then(some 71) else(some 0))) else(some 9))) = some r:=h
  clear h
  replace H:=Option.bind_eq_some_iff.mp H
  obtain ⟨t246,A30,H⟩:=H
  replace H : (if t246 = 0 then(if a1 < 0 then(some 71) else(if a1 ≥ (l0_1.length : Int) then(some 71) else(some 0))) else(some 9)) = some r:=H
  have A3:=mkA A30
  clear A30
  by_cases c4 : t246 = 0
  · rw [if_pos c4] at H
    have c4b0 : (t246 == 0) = true:=beq_iff_eq.mpr c4
    have c4b1 : (t246 != 0) = false:=bne_eq_false_iff_eq.mpr c4
    clear c4
    by_cases c5 : a1 < 0
    · rw [if_pos c5] at H
      have c5b0 : decide (a1 < 0) = true:=decide_eq_true c5
      clear c5
      obtain rfl:=Option.some.inj H
      go_enter Try.func37,Try.ntmps37
      go_wp2_with (first|((with_reducible refine gate_dst (N:=2) rfl ?_);(try (refine gate_guard (by rfl) ?_;dsimp only));refine box_event ?hg (N:=2) ?hd (cs:=#[.int .i64 a0_0,.slice A0_1 l0_1.length c0_1]) (t:=24) ?hr ?_;(case hd=>rfl);(case hg=>rfl);(case hr=>first|(go_simp;done)|(go_simp;rfl));intro gb245 hg w6 hbox hb;have n0_:=mkA (below_step (by repeat (with_reducible first|exact HB.out|apply bwA|apply bwN|apply bwD)) hb);have n1_:=mkA (hbox);have n2_:=mkA ((by rw [hg];exact(bwZ (by repeat (with_reducible first|exact HB.out|apply bwA|apply bwN|apply bwD))) : w.heap.size ≤ gb245));have n3_:=mkA ((by rw [hg];exact(bwZ (by repeat (with_reducible first|exact HB.out|apply bwA|apply bwN|apply bwD))) : w.heap.size ≤ gb245));clear HB;have HB:=n0_;have BK245:=n1_;have GW245:=n2_;have GE245:=n3_;clear n0_ n1_ n2_ n3_;clear hb hbox hg;have hcz7_0 : w6.cell? ⟨gb245,0,none⟩ = some (.int .i64 a0_0):=(bkC BK245.out 0).trans rfl;have hcz7_1 : w6.cell? ⟨gb245,1,none⟩ = some (.slice A0_1 l0_1.length c0_1):=(bkC BK245.out 1).trans rfl;have hfz7_0:=bkF BK245.out 0;have hfz7_1:=bkF BK245.out 1)|((with_reducible refine gate_callee (f:=11) rfl ?_);refine goesL_ (some 7) rfl rfl Try.func11 (by kernel_rfl) rfl #[.agg #[.int .i64 a0_0,.slice A0_1 l0_1.length c0_1]] rfl (by(try simp only [List.map_toArray,List.map_cons,List.map_nil]);first|done|rfl) ?_;(with_reducible refine(undercroftref04_Check.calls k a0_0 _ _ l0_1 t246 _ ?side1 ?side2 A3.out).mono ?_);(case side1=>repeat (first|exact(Kd.C_below HR0_1.out HB.out)|(with_reducible refine Kd.C_alloc ?_ _)|(with_reducible refine Kd.C_drewN ?_ _)|(with_reducible refine Kd.C_drew ?_)));(case side2=>exact HC0_1.out);rintro e w8 ⟨rfl,hb⟩;refine⟨_,rfl,?_⟩;have n0_:=mkA (bkB (g:=gb245) (o:=.cells #[.int .i64 a0_0,.slice A0_1 l0_1.length c0_1] 24 (0,0)) (by(with_reducible repeat first|apply bkN|apply bkD|apply bkA);exact BK245.out) hb);have n1_:=mkA (below_step (by repeat (with_reducible first|exact HB.out|apply bwA|apply bwN|apply bwD|refine bwS ?_ GE245.out)) hb);clear BK245;clear HB;have BK245:=n0_;have HB:=n1_;clear n0_ n1_;(try clear hb);(try clear hb2);(try clear hk);(try clear hi)))
      go_ret
      exact⟨by first|rfl|(simp [errW_none,errW_some] <;> rfl)|(simp [*,errW_none,errW_some] <;> rfl),by repeat (with_reducible first|exact HB.out|apply bwA|apply bwN|apply bwD|refine bwS ?_ GE245.out)⟩
    · rw [if_neg c5] at H
      have c5b0 : decide (a1 < 0) = false:=decide_eq_false c5
      clear c5
      by_cases c9 : a1 ≥ (l0_1.length : Int)
      · rw [if_pos c9] at H
        have c9b0 : decide ((l0_1.length : Int) ≤ a1) = true:=decide_eq_true c9
        clear c9
        obtain rfl:=Option.some.inj H
        go_enter Try.func37,Try.ntmps37
        go_wp2_with (first|((with_reducible refine gate_dst (N:=2) rfl ?_);(try (refine gate_guard (by rfl) ?_;dsimp only));refine box_event ?hg (N:=2) ?hd (cs:=#[.int .i64 a0_0,.slice A0_1 l0_1.length c0_1]) (t:=24) ?hr ?_;(case hd=>rfl);(case hg=>rfl);(case hr=>first|(go_simp;done)|(go_simp;rfl));intro gb245 hg w10 hbox hb;have n0_:=mkA (below_step (by repeat (with_reducible first|exact HB.out|apply bwA|apply bwN|apply bwD)) hb);have n1_:=mkA (hbox);have n2_:=mkA ((by rw [hg];exact(bwZ (by repeat (with_reducible first|exact HB.out|apply bwA|apply bwN|apply bwD))) : w.heap.size ≤ gb245));have n3_:=mkA ((by rw [hg];exact(bwZ (by repeat (with_reducible first|exact HB.out|apply bwA|apply bwN|apply bwD))) : w.heap.size ≤ gb245));clear HB;have HB:=n0_;have BK245:=n1_;have GW245:=n2_;have GE245:=n3_;clear n0_ n1_ n2_ n3_;clear hb hbox hg;have hcz11_0 : w10.cell? ⟨gb245,0,none⟩ = some (.int .i64 a0_0):=(bkC BK245.out 0).trans rfl;have hcz11_1 : w10.cell? ⟨gb245,1,none⟩ = some (.slice A0_1 l0_1.length c0_1):=(bkC BK245.out 1).trans rfl;have hfz11_0:=bkF BK245.out 0;have hfz11_1:=bkF BK245.out 1)|((with_reducible refine gate_callee (f:=11) rfl ?_);refine goesL_ (some 7) rfl rfl Try.func11 (by kernel_rfl) rfl #[.agg #[.int .i64 a0_0,.slice A0_1 l0_1.length c0_1]] rfl (by(try simp only [List.map_toArray,List.map_cons,List.map_nil]);first|done|rfl) ?_;(with_reducible refine(undercroftref04_Check.calls k a0_0 _ _ l0_1 t246 _ ?side1 ?side2 A3.out).mono ?_);(case side1=>repeat (first|exact(Kd.C_below HR0_1.out HB.out)|(with_reducible refine Kd.C_alloc ?_ _)|(with_reducible refine Kd.C_drewN ?_ _)|(with_reducible refine Kd.C_drew ?_)));(case side2=>exact HC0_1.out);rintro e w12 ⟨rfl,hb⟩;refine⟨_,rfl,?_⟩;have n0_:=mkA (bkB (g:=gb245) (o:=.cells #[.int .i64 a0_0,.slice A0_1 l0_1.length c0_1] 24 (0,0)) (by(with_reducible repeat first|apply bkN|apply bkD|apply bkA);exact BK245.out) hb);have n1_:=mkA (below_step (by repeat (with_reducible first|exact HB.out|apply bwA|apply bwN|apply bwD|refine bwS ?_ GE245.out)) hb);clear BK245;clear HB;have BK245:=n0_;have HB:=n1_;clear n0_ n1_;(try clear hb);(try clear hb2);(try clear hk);(try clear hi);have hcz13_0 : w12.cell? ⟨gb245,0,none⟩ = some (.int .i64 a0_0):=(bkC BK245.out 0).trans rfl;have hcz13_1 : w12.cell? ⟨gb245,1,none⟩ = some (.slice A0_1 l0_1.length c0_1):=(bkC BK245.out 1).trans rfl;have hfz13_0:=bkF BK245.out 0;have hfz13_1:=bkF BK245.out 1))
        go_ret
        exact⟨by first|rfl|(simp [errW_none,errW_some] <;> rfl)|(simp [*,errW_none,errW_some] <;> rfl),by repeat (with_reducible first|exact HB.out|apply bwA|apply bwN|apply bwD|refine bwS ?_ GE245.out)⟩
      · rw [if_neg c9] at H
        have c9b0 : decide ((l0_1.length : Int) ≤ a1) = false:=decide_eq_false c9
        clear c9
        obtain rfl:=Option.some.inj H
        go_enter Try.func37,Try.ntmps37
        go_wp2_with (first|((with_reducible refine gate_dst (N:=2) rfl ?_);(try (refine gate_guard (by rfl) ?_;dsimp only));refine box_event ?hg (N:=2) ?hd (cs:=#[.int .i64 a0_0,.slice A0_1 l0_1.length c0_1]) (t:=24) ?hr ?_;(case hd=>rfl);(case hg=>rfl);(case hr=>first|(go_simp;done)|(go_simp;rfl));intro gb245 hg w14 hbox hb;have n0_:=mkA (below_step (by repeat (with_reducible first|exact HB.out|apply bwA|apply bwN|apply bwD)) hb);have n1_:=mkA (hbox);have n2_:=mkA ((by rw [hg];exact(bwZ (by repeat (with_reducible first|exact HB.out|apply bwA|apply bwN|apply bwD))) : w.heap.size ≤ gb245));have n3_:=mkA ((by rw [hg];exact(bwZ (by repeat (with_reducible first|exact HB.out|apply bwA|apply bwN|apply bwD))) : w.heap.size ≤ gb245));clear HB;have HB:=n0_;have BK245:=n1_;have GW245:=n2_;have GE245:=n3_;clear n0_ n1_ n2_ n3_;clear hb hbox hg;have hcz15_0 : w14.cell? ⟨gb245,0,none⟩ = some (.int .i64 a0_0):=(bkC BK245.out 0).trans rfl;have hcz15_1 : w14.cell? ⟨gb245,1,none⟩ = some (.slice A0_1 l0_1.length c0_1):=(bkC BK245.out 1).trans rfl;have hfz15_0:=bkF BK245.out 0;have hfz15_1:=bkF BK245.out 1)|((with_reducible refine gate_callee (f:=11) rfl ?_);refine goesL_ (some 7) rfl rfl Try.func11 (by kernel_rfl) rfl #[.agg #[.int .i64 a0_0,.slice A0_1 l0_1.length c0_1]] rfl (by(try simp only [List.map_toArray,List.map_cons,List.map_nil]);first|done|rfl) ?_;(with_reducible refine(undercroftref04_Check.calls k a0_0 _ _ l0_1 t246 _ ?side1 ?side2 A3.out).mono ?_);(case side1=>repeat (first|exact(Kd.C_below HR0_1.out HB.out)|(with_reducible refine Kd.C_alloc ?_ _)|(with_reducible refine Kd.C_drewN ?_ _)|(with_reducible refine Kd.C_drew ?_)));(case side2=>exact HC0_1.out);rintro e w16 ⟨rfl,hb⟩;refine⟨_,rfl,?_⟩;have n0_:=mkA (bkB (g:=gb245) (o:=.cells #[.int .i64 a0_0,.slice A0_1 l0_1.length c0_1] 24 (0,0)) (by(with_reducible repeat first|apply bkN|apply bkD|apply bkA);exact BK245.out) hb);have n1_:=mkA (below_step (by repeat (with_reducible first|exact HB.out|apply bwA|apply bwN|apply bwD|refine bwS ?_ GE245.out)) hb);clear BK245;clear HB;have BK245:=n0_;have HB:=n1_;clear n0_ n1_;(try clear hb);(try clear hb2);(try clear hk);(try clear hi);have hcz17_0 : w16.cell? ⟨gb245,0,none⟩ = some (.int .i64 a0_0):=(bkC BK245.out 0).trans rfl;have hcz17_1 : w16.cell? ⟨gb245,1,none⟩ = some (.slice A0_1 l0_1.length c0_1):=(bkC BK245.out 1).trans rfl;have hfz17_0:=bkF BK245.out 0;have hfz17_1:=bkF BK245.out 1))
        go_ret
        exact⟨by first|rfl|(simp [errW_none,errW_some] <;> rfl)|(simp [*,errW_none,errW_some] <;> rfl),by repeat (with_reducible first|exact HB.out|apply bwA|apply bwN|apply bwD|refine bwS ?_ GE245.out)⟩
  · rw [if_neg c4] at H
    have c4b0 : (t246 == 0) = false:=beq_eq_false_iff_ne.mpr c4
    have c4b1 : (t246 != 0) = true:=bne_iff_ne.mpr c4
    obtain rfl:=Option.some.inj H
    go_enter Try.func37,Try.ntmps37
    go_wp2_with (first|((with_reducible refine gate_dst (N:=2) rfl ?_);(try (refine gate_guard (by rfl) ?_;dsimp only));refine box_event ?hg (N:=2) ?hd (cs:=#[.int .i64 a0_0,.slice A0_1 l0_1.length c0_1]) (t:=24) ?hr ?_;(case hd=>rfl);(case hg=>rfl);(case hr=>first|(go_simp;done)|(go_simp;rfl));intro gb245 hg w18 hbox hb;have n0_:=mkA (below_step (by repeat (with_reducible first|exact HB.out|apply bwA|apply bwN|apply bwD)) hb);have n1_:=mkA (hbox);have n2_:=mkA ((by rw [hg];exact(bwZ (by repeat (with_reducible first|exact HB.out|apply bwA|apply bwN|apply bwD))) : w.heap.size ≤ gb245));have n3_:=mkA ((by rw [hg];exact(bwZ (by repeat (with_reducible first|exact HB.out|apply bwA|apply bwN|apply bwD))) : w.heap.size ≤ gb245));clear HB;have HB:=n0_;have BK245:=n1_;have GW245:=n2_;have GE245:=n3_;clear n0_ n1_ n2_ n3_;clear hb hbox hg;have hcz19_0 : w18.cell? ⟨gb245,0,none⟩ = some (.int .i64 a0_0):=(bkC BK245.out 0).trans rfl;have hcz19_1 : w18.cell? ⟨gb245,1,none⟩ = some (.slice A0_1 l0_1.length c0_1):=(bkC BK245.out 1).trans rfl;have hfz19_0:=bkF BK245.out 0;have hfz19_1:=bkF BK245.out 1)|((with_reducible refine gate_callee (f:=11) rfl ?_);refine goesL_ (some 7) rfl rfl Try.func11 (by kernel_rfl) rfl #[.agg #[.int .i64 a0_0,.slice A0_1 l0_1.length c0_1]] rfl (by(try simp only [List.map_toArray,List.map_cons,List.map_nil]);first|done|rfl) ?_;(with_reducible refine(undercroftref04_Check.calls k a0_0 _ _ l0_1 t246 _ ?side1 ?side2 A3.out).mono ?_);(case side1=>repeat (first|exact(Kd.C_below HR0_1.out HB.out)|(with_reducible refine Kd.C_alloc ?_ _)|(with_reducible refine Kd.C_drewN ?_ _)|(with_reducible refine Kd.C_drew ?_)));(case side2=>exact HC0_1.out);rintro e w20 ⟨rfl,hb⟩;refine⟨_,rfl,?_⟩;have n0_:=mkA (bkB (g:=gb245) (o:=.cells #[.int .i64 a0_0,.slice A0_1 l0_1.length c0_1] 24 (0,0)) (by(with_reducible repeat first|apply bkN|apply bkD|apply bkA);exact BK245.out) hb);have n1_:=mkA (below_step (by repeat (with_reducible first|exact HB.out|apply bwA|apply bwN|apply bwD|refine bwS ?_ GE245.out)) hb);clear BK245;clear HB;have BK245:=n0_;have HB:=n1_;clear n0_ n1_;(try clear hb);(try clear hb2);(try clear hk);(try clear hi)))
    go_ret
    exact⟨by first|rfl|(simp [errW_none,errW_some] <;> rfl)|(simp [*,errW_none,errW_some] <;> rfl),by repeat (with_reducible first|exact HB.out|apply bwA|apply bwN|apply bwD|refine bwS ?_ GE245.out)⟩

/-! ### undercroftref04_Take: function 16 -/
def undercroftref04_Take.f (k : Nat) (a0_0 : Int) (l0_1 : List (S38)) (a1 : Int) : Option (Int × (List (S38)) × Int × Int × List Int × Int):=(undercroftref04_there.f k a0_0 l0_1 a1).bind fun t250=>(if t250 = 0 then((undercroftref04_but.f k a0_0 l0_1 a1).bind fun bt251=>(if 0 ≤ a1 then(if a1 < (l0_1.length : Int) then((undercroftref04_copied.f ((rd_T38 l0_1 a1).f0) ((rd_T38 l0_1 a1).f1) ((rd_T38 l0_1 a1).f2)).bind fun bt256=>(some (bt251.1,bt251.2,bt256.1,bt256.2.1,bt256.2.2,0))) else(none)) else(none))) else(some (0,([] : List (S38)),0,0,([] : List Int),t250)))
theorem undercroftref04_Take.mono : ∀ a0 a1 a2 k,LeO (undercroftref04_Take.f k a0 a1 a2) (undercroftref04_Take.f (k + 1) a0 a1 a2):=by
  intro a0 a1 a2 k
  unfold undercroftref04_Take.f
  repeat' first
      | (with_reducible exact undercroftref04_but.mono _ _ _ _)
      | (with_reducible exact undercroftref04_there.mono _ _ _ _)
      | (with_reducible exact LeO.refl _)
      | (with_reducible exact LeO.none _)
      | (with_reducible refine LeO.ite ?_ ?_)
      | (with_reducible refine LeO.bind ?_ (fun _=>?_))
      | exact undercroftref04_but.mono _ _ _ _
      | exact undercroftref04_there.mono _ _ _ _
      | exact LeO.none _
      | refine LeO.ite ?_ ?_
      | refine LeO.bind ?_ (fun _=>?_)
def undercroftref04_Take.T4 : Bool × List (List Nat × List Nat):=(true,[([],[]),([],[]),([0,1],[0,1]),([],[]),([3],[3]),([],[]),([4,5],[4,5]),([6],[6]),([7,2],[7]),([2,8,0,1,2],[2]),([8,9,0,1,2,3,4,5,6,7,8,9],[8]),([10,0,1,2,3,4,5,6,7,8,9,10],[])])
def undercroftref04_Take.B4 : List Nat:=[0,0,3,0,8,0,56,120,255,511,1023,2047]
theorem undercroftref04_Take.tab4 : rtab .any (opsOf Try.f16 4) = undercroftref04_Take.T4:=by kernel_rfl
theorem undercroftref04_Take.bits4 : waitsOk undercroftref04_Take.T4.2 undercroftref04_Take.B4 = true:=by kernel_rfl
set_option maxHeartbeats 8000000 in
set_option maxRecDepth 100000 in
theorem undercroftref04_Take.calls (k : Nat) (a0_0 : Int) (A0_1 : Option Addr) (c0_1 : Nat) (l0_1 : List (S38)) (a1 : Int) (r1 : Int) (r2 : List (S38)) (r3 : Int) (r4 : Int) (r5 : List Int) (r6 : Int) (w : World) (hr0_1 : Kd.C k38 w A0_1 l0_1.length l0_1) (hc0_1 : l0_1.length ≤ c0_1) (h : undercroftref04_Take.f k a0_0 l0_1 a1 = some (r1,r2,r3,r4,r5,r6)) :
    Calls Try.prog 16 #[.agg #[.int .i64 a0_0,.slice A0_1 l0_1.length c0_1],.int .i64 a1] w fun e w'=>∃ v1_ v4_ : Value,e = .returned (.tuple #[.agg #[.int .i64 r1,v1_],.agg #[.int .i64 r3,.int .i64 r4,v4_],.int .i64 r6])∧Kd.S k38 38 w' w.heap.size (fun k_=>some k_ ≠ (v4_ : Value).ownBlock) v1_ r2∧Kd.R (Kd.int .u8) 5 w' w.heap.size (fun _=>True) v4_ r5∧Below w.heap.size w w':=by
  have hu24:=Try.underlying24
  have hu38:=Try.underlying38
  have HR0_1:=mkA hr0_1
  have HC0_1:=mkA hc0_1
  clear hr0_1 hc0_1
  have HB:=mkA (Below.refl w.heap.size w)
  have H : ((undercroftref04_there.f k a0_0 l0_1 a1).bind fun t250=>(if t250 = 0 then((undercroftref04_but.f k a0_0 l0_1 a1).bind fun bt251=>(if 0 ≤ a1 then(if a1 < (l0_1.length : Int) then((undercroftref04_copied.f ((rd_T38 l0_1 a1).f0) ((rd_T38 l0_1 a1).f1) ((rd_T38 l0_1 a1).f2)).bind fun bt256=>(some (bt251.1,bt251.2,bt256.1,bt256.2.1,bt256.2.2,0))) else(none)) else(none))) else(some (0,([] : List (S38)),0,0,([] : List Int),t250)))) = some (r1,r2,r3,r4,r5,r6):=h
  clear h
  replace H:=Option.bind_eq_some_iff.mp H
  obtain ⟨t250,A30,H⟩:=H
  replace H : (if t250 = 0 then((undercroftref04_but.f k a0_0 l0_1 a1).bind fun bt251=>(if 0 ≤ a1 then(if a1 < (l0_1.length : Int) then((undercroftref04_copied.f ((rd_T38 l0_1 a1).f0) ((rd_T38 l0_1 a1).f1) ((rd_T38 l0_1 a1).f2)).bind fun bt256=>(some (bt251.1,bt251.2,bt256.1,bt256.2.1,bt256.2.2,0))) else(none)) else(none))) else(some (0,([] : List (S38)),0,0,([] : List Int),t250))) = some (r1,r2,r3,r4,r5,r6):=H
  have A3:=mkA A30
  clear A30
  by_cases c4 : t250 = 0
  · rw [if_pos c4] at H
    have c4b0 : (t250 == 0) = true:=beq_iff_eq.mpr c4
    have c4b1 : (t250 != 0) = false:=bne_eq_false_iff_eq.mpr c4
    clear c4
    replace H:=Option.bind_eq_some_iff.mp H
    obtain ⟨⟨t251,t252⟩,A50,H⟩:=H
    replace H : (if 0 ≤ a1 then(if a1 < (l0_1.length : Int) then((undercroftref04_copied.f ((rd_T38 l0_1 a1).f0) ((rd_T38 l0_1 a1).f1) ((rd_T38 l0_1 a1).f2)).bind fun bt256=>(some (t251,t252,bt256.1,bt256.2.1,bt256.2.2,0))) else(none)) else(none)) = some (r1,r2,r3,r4,r5,r6):=H
    have A5:=mkA A50
    clear A50
    by_cases c6 : 0 ≤ a1
    · rw [if_pos c6] at H
      have c6b0 : decide (0 ≤ a1) = true:=decide_eq_true c6
      clear c6
      by_cases c7 : a1 < (l0_1.length : Int)
      · rw [if_pos c7] at H
        have c7b0 : decide (a1 < (l0_1.length : Int)) = true:=decide_eq_true c7
        clear c7
        replace H:=Option.bind_eq_some_iff.mp H
        obtain ⟨⟨t256,t257,t258⟩,A80,H⟩:=H
        replace H : (some (t251,t252,t256,t257,t258,0)) = some (r1,r2,r3,r4,r5,r6):=H
        have A8:=mkA A80
        clear A80
        simp only [Option.some.injEq,Prod.mk.injEq] at H
        obtain ⟨rfl,rfl,rfl,rfl,rfl,rfl⟩:=H
        go_enter Try.func16,Try.ntmps16
        try go_wp2_with (first|((with_reducible refine gate_dst (N:=2) rfl ?_);refine box_event ?hg (N:=2) ?hd (cs:=#[.int .i64 a0_0,.slice A0_1 l0_1.length c0_1]) (t:=24) ?hr ?_;(case hd=>rfl);(case hg=>rfl);(case hr=>first|(go_simp;done)|(go_simp;rfl));intro gb247 hg w9 hbox hb;have n0_:=mkA (below_step (by repeat (with_reducible first|exact HB.out|apply bwA|apply bwN|apply bwD)) hb);have n1_:=mkA (hbox);have n2_:=mkA ((by rw [hg];exact(bwZ (by repeat (with_reducible first|exact HB.out|apply bwA|apply bwN|apply bwD))) : w.heap.size ≤ gb247));have n3_:=mkA ((by rw [hg];exact(bwZ (by repeat (with_reducible first|exact HB.out|apply bwA|apply bwN|apply bwD))) : w.heap.size ≤ gb247));clear HB;have HB:=n0_;have BK247:=n1_;have GW247:=n2_;have GE247:=n3_;clear n0_ n1_ n2_ n3_;clear hb hbox hg)|((with_reducible refine gate_dst (N:=4) rfl ?_);refine box_event ?hg (N:=4) ?hd (cs:=#[.int .i64 0,.slice none 0 0]) (t:=24) ?hr ?_;(case hd=>rfl);(case hg=>rfl);(case hr=>first|(go_simp;done)|(go_simp;rfl));intro gb248 hg w10 hbox hb;have n0_:=mkA (bkB (g:=gb247) (o:=.cells #[.int .i64 a0_0,.slice A0_1 l0_1.length c0_1] 24 (0,0)) (by(with_reducible repeat first|apply bkN|apply bkD|apply bkA);exact BK247.out) hb);have n1_:=mkA (below_step (by repeat (with_reducible first|exact HB.out|apply bwA|apply bwN|apply bwD|refine bwS ?_ GE247.out)) hb);have n2_:=mkA (hbox);have n3_:=mkA ((by rw [hg];exact(bwZ (by repeat (with_reducible first|exact HB.out|apply bwA|apply bwN|apply bwD|refine bwS ?_ GE247.out))) : w.heap.size ≤ gb248));have n4_:=mkA ((by rw [hg];exact(bwZ (by repeat (with_reducible first|exact HB.out|apply bwA|apply bwN|apply bwD|refine bwS ?_ GE247.out))) : w.heap.size ≤ gb248));have n5_:=mkA ((by rw [hg];exact Nat.ne_of_lt (blk_lt (g:=gb247) (o:=.cells #[.int .i64 a0_0,.slice A0_1 l0_1.length c0_1] 24 (0,0)) (by(with_reducible repeat first|apply bkN|apply bkD|apply bkA);exact BK247.out)) : gb247 ≠ gb248));have n6_:=mkA ((by rw [hg];exact Nat.ne_of_gt (blk_lt (g:=gb247) (o:=.cells #[.int .i64 a0_0,.slice A0_1 l0_1.length c0_1] 24 (0,0)) (by(with_reducible repeat first|apply bkN|apply bkD|apply bkA);exact BK247.out)) : gb248 ≠ gb247));clear BK247;clear HB;have BK247:=n0_;have HB:=n1_;have BK248:=n2_;have GW248:=n3_;have GE248:=n4_;have NB247_248:=n5_;have NB248_247:=n6_;clear n0_ n1_ n2_ n3_ n4_ n5_ n6_;clear hb hbox hg)|((with_reducible refine gate_dst (N:=5) rfl ?_);refine box_event ?hg (N:=5) ?hd (cs:=#[.int .i64 0,.int .i64 0,.slice none 0 0]) (t:=38) ?hr ?_;(case hd=>rfl);(case hg=>rfl);(case hr=>first|(go_simp;done)|(go_simp;rfl));intro gb249 hg w11 hbox hb;have n0_:=mkA (bkB (g:=gb247) (o:=.cells #[.int .i64 a0_0,.slice A0_1 l0_1.length c0_1] 24 (0,0)) (by(with_reducible repeat first|apply bkN|apply bkD|apply bkA);exact BK247.out) hb);have n1_:=mkA (bkB (g:=gb248) (o:=.cells #[.int .i64 0,.slice none 0 0] 24 (0,0)) (by(with_reducible repeat first|apply bkN|apply bkD|apply bkA);exact BK248.out) hb);have n2_:=mkA (below_step (by repeat (with_reducible first|exact HB.out|apply bwA|apply bwN|apply bwD|refine bwS ?_ GE247.out|refine bwS ?_ GE248.out)) hb);have n3_:=mkA (hbox);have n4_:=mkA ((by rw [hg];exact(bwZ (by repeat (with_reducible first|exact HB.out|apply bwA|apply bwN|apply bwD|refine bwS ?_ GE247.out|refine bwS ?_ GE248.out))) : w.heap.size ≤ gb249));have n5_:=mkA ((by rw [hg];exact(bwZ (by repeat (with_reducible first|exact HB.out|apply bwA|apply bwN|apply bwD|refine bwS ?_ GE247.out|refine bwS ?_ GE248.out))) : w.heap.size ≤ gb249));have n6_:=mkA ((by rw [hg];exact Nat.ne_of_lt (blk_lt (g:=gb247) (o:=.cells #[.int .i64 a0_0,.slice A0_1 l0_1.length c0_1] 24 (0,0)) (by(with_reducible repeat first|apply bkN|apply bkD|apply bkA);exact BK247.out)) : gb247 ≠ gb249));have n7_:=mkA ((by rw [hg];exact Nat.ne_of_gt (blk_lt (g:=gb247) (o:=.cells #[.int .i64 a0_0,.slice A0_1 l0_1.length c0_1] 24 (0,0)) (by(with_reducible repeat first|apply bkN|apply bkD|apply bkA);exact BK247.out)) : gb249 ≠ gb247));have n8_:=mkA ((by rw [hg];exact Nat.ne_of_lt (blk_lt (g:=gb248) (o:=.cells #[.int .i64 0,.slice none 0 0] 24 (0,0)) (by(with_reducible repeat first|apply bkN|apply bkD|apply bkA);exact BK248.out)) : gb248 ≠ gb249));have n9_:=mkA ((by rw [hg];exact Nat.ne_of_gt (blk_lt (g:=gb248) (o:=.cells #[.int .i64 0,.slice none 0 0] 24 (0,0)) (by(with_reducible repeat first|apply bkN|apply bkD|apply bkA);exact BK248.out)) : gb249 ≠ gb248));clear BK247;clear BK248;clear HB;have BK247:=n0_;have BK248:=n1_;have HB:=n2_;have BK249:=n3_;have GW249:=n4_;have GE249:=n5_;have NB247_249:=n6_;have NB249_247:=n7_;have NB248_249:=n8_;have NB249_248:=n9_;clear n0_ n1_ n2_ n3_ n4_ n5_ n6_ n7_ n8_ n9_;clear hb hbox hg;have hnb12:=NB247_248.out;have hnc12:=NB248_247.out;have hnb13:=NB247_249.out;have hnc13:=NB249_247.out;have hcz14_0 : w11.cell? ⟨gb247,0,none⟩ = some (.int .i64 a0_0):=(bkC BK247.out 0).trans rfl;have hcz14_1 : w11.cell? ⟨gb247,1,none⟩ = some (.slice A0_1 l0_1.length c0_1):=(bkC BK247.out 1).trans rfl;have hfz14_0:=bkF BK247.out 0;have hfz14_1:=bkF BK247.out 1)|((with_reducible refine gate_callee (f:=37) rfl ?_);refine goesL_ (some 10) rfl rfl Try.func37 (by kernel_rfl) rfl #[.agg #[.int .i64 a0_0,.slice A0_1 l0_1.length c0_1],.int .i64 a1] rfl (by(try simp only [List.map_toArray,List.map_cons,List.map_nil]);first|done|rfl) ?_;(with_reducible refine(undercroftref04_there.calls k a0_0 _ _ l0_1 a1 t250 _ ?side1 ?side2 A3.out).mono ?_);(case side1=>repeat (first|exact(Kd.C_below HR0_1.out HB.out)|(with_reducible refine Kd.C_alloc ?_ _)|(with_reducible refine Kd.C_drewN ?_ _)|(with_reducible refine Kd.C_drew ?_)));(case side2=>exact HC0_1.out);rintro e w15 ⟨rfl,hb⟩;refine⟨_,rfl,?_⟩;have n0_:=mkA (bkB (g:=gb247) (o:=.cells #[.int .i64 a0_0,.slice A0_1 l0_1.length c0_1] 24 (0,0)) (by(with_reducible repeat first|apply bkN|apply bkD|apply bkA);exact BK247.out) hb);have n1_:=mkA (bkB (g:=gb248) (o:=.cells #[.int .i64 0,.slice none 0 0] 24 (0,0)) (by(with_reducible repeat first|apply bkN|apply bkD|apply bkA);exact BK248.out) hb);have n2_:=mkA (bkB (g:=gb249) (o:=.cells #[.int .i64 0,.int .i64 0,.slice none 0 0] 38 (0,0)) (by(with_reducible repeat first|apply bkN|apply bkD|apply bkA);exact BK249.out) hb);have n3_:=mkA (below_step (by repeat (with_reducible first|exact HB.out|apply bwA|apply bwN|apply bwD|refine bwS ?_ GE247.out|refine bwS ?_ GE248.out|refine bwS ?_ GE249.out)) hb);clear BK247;clear BK248;clear BK249;clear HB;have BK247:=n0_;have BK248:=n1_;have BK249:=n2_;have HB:=n3_;clear n0_ n1_ n2_ n3_;(try clear hb);(try clear hb2);(try clear hk);(try clear hi)))
        have n0_:=mkA (bkD BK247.out)
        have n1_:=mkA (bkD BK248.out)
        have n2_:=mkA (bkD BK249.out)
        have n3_:=mkA (bwD HB.out)
        clear BK247
        clear BK248
        clear BK249
        clear HB
        have BK247:=n0_
        have BK248:=n1_
        have BK249:=n2_
        have HB:=n3_
        clear n0_ n1_ n2_ n3_
        have p255 : 0 ≤ (a1 : Int):=odt (by first|(with_reducible assumption)|assumption)
        have q255 : a1 < (l0_1.length : Int):=odt (by first|(with_reducible assumption)|assumption)
        obtain ⟨ad255,A255_2,c255_2,e255,hx255_0,hx255_1,hx255_2,hl255_2,hi255_2⟩:=at_T38 HR0_1.out a1 p255 q255
        have hw255_2:=hx255_2
        have hw255_1:=hx255_1
        have hw255_0:=hx255_0
        cases e255
        replace hx255_0:=(HB.out.cell (blC w _ hx255_0)).trans hx255_0
        replace hx255_1:=(HB.out.cell (blC w _ hx255_1)).trans hx255_1
        replace hx255_2:=(HB.out.cell (blC w _ hx255_2)).trans hx255_2
        have HR255_2:=mkA hi255_2
        have HC255_2:=mkA hl255_2
        clear hi255_2 hl255_2
        replace p255:=eq_true p255
        replace q255:=eq_true q255
        refine start_ (n:=12) (S:=fun w'=>w'.cell? ⟨gb247,0,none⟩ = some (.int .i64 a0_0)∧w'.cell? ⟨gb247,1,none⟩ = some (.slice (some ad255) l0_1.length c0_1)∧w'.cell? (ad255.add ((a1).toNat * 3)) = some (.int .i64 ((rd_T38 l0_1 a1).f0))∧w'.cell? ⟨(ad255.add ((a1).toNat * 3)).block,(ad255.add ((a1).toNat * 3)).off + 1,none⟩ = some (.int .i64 ((rd_T38 l0_1 a1).f1))∧w'.cell? ⟨(ad255.add ((a1).toNat * 3)).block,(ad255.add ((a1).toNat * 3)).off + 2,none⟩ = some (.slice A255_2 ((rd_T38 l0_1 a1).f2).length c255_2)) (ds:=[]) #[false,false,false,false,false,false,false,false,false,false,false,false] (by kernel_rfl) rfl rfl ⟨(bkC BK247.out 0).trans rfl,(bkC BK247.out 1).trans rfl,((HB.out.cell (blC w _ hw255_0)).trans hw255_0),((HB.out.cell (blC w _ hw255_1)).trans hw255_1),((HB.out.cell (blC w _ hw255_2)).trans hw255_2)⟩ (fun hHeld=>?_);refine with_tabW undercroftref04_Take.tab4 undercroftref04_Take.bits4 (fun HT_ HW_=>?_)
        generalize w15.drew = w16 at BK247 BK248 BK249 HB HR255_2 hx255_0 hx255_1 hx255_2 hHeld ⊢
        refine pure_ (i:=1) (N:=some 17) (v:=?_) (a':=?_) #[false,true,false,false,false,false,false,false,false,false,false,false] rfl rfl (any_of HT_.out (by kernel_rfl)) (fun _ _ _ h=>h) (Or.inl ⟨by rfl,?_⟩) ?_ ?_
        rotate_left
        · intro w'
          go_simp
          with_reducible rfl
        rotate_left
        · simp only [Act.put,lsA,lsZ,lsS,i64_w,i32_w]
          rfl
        refine pure_ (i:=3) (N:=some 19) (v:=?_) (a':=?_) #[false,true,false,true,false,false,false,false,false,false,false,false] rfl rfl (any_of HT_.out (by kernel_rfl)) (fun _ _ _ h=>h) (Or.inl ⟨by rfl,?_⟩) ?_ ?_
        rotate_left
        · intro w'
          go_simp
          with_reducible rfl
        rotate_left
        · simp only [Act.put,lsA,lsZ,lsS,i64_w,i32_w]
          rfl
        refine pure_ (i:=5) (N:=some 21) (v:=?_) (a':=?_) #[false,true,false,true,false,true,false,false,false,false,false,false] rfl rfl (any_of HT_.out (by kernel_rfl)) (fun _ _ _ h=>h) (Or.inl ⟨by rfl,?_⟩) ?_ ?_
        rotate_left
        · intro w'
          go_simp
          with_reducible rfl
        rotate_left
        · simp only [Act.put,lsA,lsZ,lsS,i64_w,i32_w]
          rfl
        refine take_ (i:=0) (N:=some 16) (v:=?_) (a':=?_) #[true,true,false,true,false,true,false,false,false,false,false,false] rfl rfl (take_ofW HT_.out HW_.out (by kernel_rfl)) (fun _ _ _ h=>h) (Or.inl ⟨by rfl,?_⟩) hHeld ?_ ?_
        rotate_left
        · rintro w' ⟨s0,s1,s2,s3,s4⟩
          go_simp
          with_reducible rfl
        rotate_left
        · simp only [Act.put,lsA,lsZ,lsS,i64_w,i32_w]
          rfl
        refine take_ (i:=4) (N:=some 20) (v:=?_) (a':=?_) #[true,true,false,true,true,true,false,false,false,false,false,false] rfl rfl (take_ofW HT_.out HW_.out (by kernel_rfl)) (fun _ _ _ h=>h) (Or.inl ⟨by rfl,?_⟩) hHeld ?_ ?_
        rotate_left
        · rintro w' ⟨s0,s1,s2,s3,s4⟩
          go_simp
          with_reducible rfl
        rotate_left
        · simp only [Act.put,lsA,lsZ,lsS,i64_w,i32_w]
          rfl
        refine pure_ (i:=6) (N:=some 22) (v:=?_) (a':=?_) #[true,true,false,true,true,true,true,false,false,false,false,false] rfl rfl (any_of HT_.out (by kernel_rfl)) (fun _ _ _ h=>h) (Or.inl ⟨by rfl,?_⟩) ?_ ?_
        rotate_left
        · intro w'
          go_simp
          with_reducible rfl
        rotate_left
        · simp only [Act.put,lsA,lsZ,lsS,i64_w,i32_w]
          rfl
        refine take_ (i:=7) (N:=some 23) (v:=?_) (a':=?_) #[true,true,false,true,true,true,true,true,false,false,false,false] rfl rfl (take_ofW HT_.out HW_.out (by kernel_rfl)) (fun _ _ _ h=>h) (Or.inl ⟨by rfl,?_⟩) hHeld ?_ ?_
        rotate_left
        · rintro w' ⟨s0,s1,s2,s3,s4⟩
          go_simp
          with_reducible rfl
        rotate_left
        · simp only [Act.put,lsA,lsZ,lsS,i64_w,i32_w]
          rfl
        refine one_ (i:=2) (N:=some 18) #[true,true,true,true,true,true,true,true,false,false,false,false] rfl rfl (one_of HT_.out (by kernel_rfl)) (by decide) (fun K hK=>?_)
        refine goes_ Try.func33 (by kernel_rfl) rfl #[.agg #[.int .i64 a0_0,.slice (some ad255) l0_1.length c0_1],.int .i64 a1] (by rfl) rfl rfl (by(try simp only [List.map_toArray,List.map_cons,List.map_nil]);first|done|rfl) ?_
        with_reducible refine(undercroftref04_but.calls k a0_0 _ _ l0_1 a1 t251 t252 _ ?side1 ?side2 A5.out).mono ?_
        (case side1=>repeat (first|exact(Kd.C_below HR0_1.out HB.out)|(with_reducible refine Kd.C_alloc ?_ _)|(with_reducible refine Kd.C_drewN ?_ _)|(with_reducible refine Kd.C_drew ?_)))
        (case side2=>exact HC0_1.out)
        rintro e w17 ⟨v253,rfl,ho0,hb⟩
        refine⟨_,rfl,?_⟩
        have n0_:=mkA (Kd.S_lower (Kd.S_newB ho0 (g:=gb249) (o:=.cells #[.int .i64 0,.int .i64 0,.slice none 0 0] 38 (0,0)) (by(with_reducible repeat first|apply bkN|apply bkD|apply bkA);exact BK249.out)) (bwZ (by repeat (with_reducible first|exact HB.out|apply bwA|apply bwN|apply bwD|refine bwS ?_ GE247.out|refine bwS ?_ GE248.out|refine bwS ?_ GE249.out))))
        have n1_:=mkA (bkB (g:=gb247) (o:=.cells #[.int .i64 a0_0,.slice (some ad255) l0_1.length c0_1] 24 (0,0)) (by(with_reducible repeat first|apply bkN|apply bkD|apply bkA);exact BK247.out) hb)
        have n2_:=mkA (bkB (g:=gb248) (o:=.cells #[.int .i64 0,.slice none 0 0] 24 (0,0)) (by(with_reducible repeat first|apply bkN|apply bkD|apply bkA);exact BK248.out) hb)
        have n3_:=mkA (bkB (g:=gb249) (o:=.cells #[.int .i64 0,.int .i64 0,.slice none 0 0] 38 (0,0)) (by(with_reducible repeat first|apply bkN|apply bkD|apply bkA);exact BK249.out) hb)
        have n4_:=mkA (below_step (by repeat (with_reducible first|exact HB.out|apply bwA|apply bwN|apply bwD|refine bwS ?_ GE247.out|refine bwS ?_ GE248.out|refine bwS ?_ GE249.out)) hb)
        clear BK247
        clear BK248
        clear BK249
        clear HB
        have HO254:=n0_
        have BK247:=n1_
        have BK248:=n2_
        have BK249:=n3_
        have HB:=n4_
        clear n0_ n1_ n2_ n3_ n4_
        (try clear hb)
        (try clear hb2)
        (try clear hk)
        (try clear hi)
        (try clear ho0)
        refine hK.out _ _ ⟨(bkC BK247.out 0).trans rfl,(bkC BK247.out 1).trans rfl,((HB.out.cell (blC w _ hw255_0)).trans hw255_0),((HB.out.cell (blC w _ hw255_1)).trans hw255_1),((HB.out.cell (blC w _ hw255_2)).trans hw255_2)⟩ (fun hHeld=>?_)
        clear hK K
        refine norm_ (a':=?_) ?_ ?_
        rotate_left
        · show Act.put _ (some 18) _ = _
          simp only [Act.put,lsA,lsZ,lsS,i64_w,i32_w]
          rfl
        refine one_ (i:=8) (N:=some 24) #[true,true,true,true,true,true,true,true,true,false,false,false] rfl rfl (one_of HT_.out (by kernel_rfl)) (by decide) (fun K hK=>?_)
        refine goes_ Try.func34 (by kernel_rfl) rfl #[.agg #[.int .i64 ((rd_T38 l0_1 a1).f0),.int .i64 ((rd_T38 l0_1 a1).f1),.slice A255_2 ((rd_T38 l0_1 a1).f2).length c255_2]] (by rfl) rfl rfl (by(try simp only [List.map_toArray,List.map_cons,List.map_nil]);first|done|rfl) ?_
        with_reducible refine(undercroftref04_copied.calls ((rd_T38 l0_1 a1).f0) ((rd_T38 l0_1 a1).f1) _ _ ((rd_T38 l0_1 a1).f2) t256 t257 t258 _ ?side1 ?side2 A8.out).mono ?_
        (case side1=>repeat (first|exact(Kd.C_below HR255_2.out HB.out)|(with_reducible refine Kd.C_alloc ?_ _)|(with_reducible refine Kd.C_drewN ?_ _)|(with_reducible refine Kd.C_drew ?_)))
        (case side2=>exact HC255_2.out)
        rintro e w18 ⟨v259,rfl,ho0,hb⟩
        refine⟨_,rfl,?_⟩
        have n0_:=mkA (Kd.S_elder' (by(with_reducible repeat (first|apply Kd.S_alloc|apply Kd.S_drewN|apply Kd.S_drew));exact HO254.out) (Kd.R_base ho0) hb)
        have n1_:=mkA (Kd.R_lower ho0 (bwZ (by repeat (with_reducible first|exact HB.out|apply bwA|apply bwN|apply bwD|refine bwS ?_ GE247.out|refine bwS ?_ GE248.out|refine bwS ?_ GE249.out))))
        have n2_:=mkA (bkB (g:=gb247) (o:=.cells #[.int .i64 a0_0,.slice (some ad255) l0_1.length c0_1] 24 (0,0)) (by(with_reducible repeat first|apply bkN|apply bkD|apply bkA);exact BK247.out) hb)
        have n3_:=mkA (bkB (g:=gb248) (o:=.cells #[.int .i64 0,.slice none 0 0] 24 (0,0)) (by(with_reducible repeat first|apply bkN|apply bkD|apply bkA);exact BK248.out) hb)
        have n4_:=mkA (bkB (g:=gb249) (o:=.cells #[.int .i64 0,.int .i64 0,.slice none 0 0] 38 (0,0)) (by(with_reducible repeat first|apply bkN|apply bkD|apply bkA);exact BK249.out) hb)
        have n5_:=mkA (below_step (by repeat (with_reducible first|exact HB.out|apply bwA|apply bwN|apply bwD|refine bwS ?_ GE247.out|refine bwS ?_ GE248.out|refine bwS ?_ GE249.out)) hb)
        clear HO254
        clear BK247
        clear BK248
        clear BK249
        clear HB
        have HO254:=n0_
        have HO260:=n1_
        have BK247:=n2_
        have BK248:=n3_
        have BK249:=n4_
        have HB:=n5_
        clear n0_ n1_ n2_ n3_ n4_ n5_
        (try clear hb)
        (try clear hb2)
        (try clear hk)
        (try clear hi)
        (try clear ho0)
        obtain ⟨Ao20,co20,eo20⟩:=Kd.S_slice HO254.out
        (first|subst eo20|(injection eo20 with f1_ f2_ f3_;have f4_:=f1_.symm;have f5_:=f3_.symm;clear f1_ f2_ f3_;subst f4_;subst f5_))
        obtain ⟨Ao24,co24,eo24⟩:=Kd.R_slice HO260.out
        (first|subst eo24|(injection eo24 with f1_ f2_ f3_;have f4_:=f1_.symm;have f5_:=f3_.symm;clear f1_ f2_ f3_;subst f4_;subst f5_))
        refine hK.out _ _ ⟨(bkC BK247.out 0).trans rfl,(bkC BK247.out 1).trans rfl,((HB.out.cell (blC w _ hw255_0)).trans hw255_0),((HB.out.cell (blC w _ hw255_1)).trans hw255_1),((HB.out.cell (blC w _ hw255_2)).trans hw255_2)⟩ (fun hHeld=>?_)
        clear hK K
        refine norm_ (a':=?_) ?_ ?_
        rotate_left
        · show Act.put _ (some 24) _ = _
          simp only [Act.put,lsA,lsZ,lsS,i64_w,i32_w]
          rfl
        refine one_ (i:=9) (N:=none) #[true,true,true,true,true,true,true,true,true,true,false,false] rfl rfl (one_of HT_.out (by kernel_rfl)) (by decide) (fun K hK=>?_)
        have hs19 : w18.cell? ⟨gb248,0,none⟩ = some (.int .i64 0):=(bkC BK248.out 0).trans rfl
        have hfs19:=bkF BK248.out 0
        have hns19_0:=NB247_248.out
        have hns19_2:=NB249_248.out
        have hms19_0:=NB248_247.out
        have hms19_2:=NB248_249.out
        have hs21 : w18.cell? ⟨gb248,1,none⟩ = some (.slice none 0 0):=(bkC BK248.out 1).trans rfl
        have hfs21:=bkF BK248.out 1
        have hns21_0:=NB247_248.out
        have hns21_2:=NB249_248.out
        have hms21_0:=NB248_247.out
        have hms21_2:=NB248_249.out
        refine skip_ (w1:=?_) (by rfl) rfl ?_ ?_
        rotate_left
        · go_simp
          rfl
        refine hK.out _ _ ⟨((cell_far (p:=⟨gb248,_,none⟩) NB247_248.out _).trans (((cell_far (p:=⟨gb248,_,none⟩) NB247_248.out _).trans (hHeld.1)))),((cell_far (p:=⟨gb248,_,none⟩) NB247_248.out _).trans (((cell_far (p:=⟨gb248,_,none⟩) NB247_248.out _).trans (hHeld.2.1)))),((cell_far (p:=⟨gb248,_,none⟩) (by first|exact Nat.ne_of_lt (Nat.lt_of_lt_of_le (by have:=blC _ _ hw255_0;first|rwa [add_block] at this|exact this) GW248.out)|(rw [add_block];exact Nat.ne_of_lt (Nat.lt_of_lt_of_le (by have:=blC _ _ hw255_0;first|rwa [add_block] at this|exact this) GW248.out))|(show(Addr.add _ _).block ≠ _;rw [add_block];exact Nat.ne_of_lt (Nat.lt_of_lt_of_le (by have:=blC _ _ hw255_0;first|rwa [add_block] at this|exact this) GW248.out))|(dsimp only;exact Nat.ne_of_lt (Nat.lt_of_lt_of_le (by have:=blC _ _ hw255_0;first|rwa [add_block] at this|exact this) GW248.out))) _).trans (((cell_far (p:=⟨gb248,_,none⟩) (by first|exact Nat.ne_of_lt (Nat.lt_of_lt_of_le (by have:=blC _ _ hw255_0;first|rwa [add_block] at this|exact this) GW248.out)|(rw [add_block];exact Nat.ne_of_lt (Nat.lt_of_lt_of_le (by have:=blC _ _ hw255_0;first|rwa [add_block] at this|exact this) GW248.out))|(show(Addr.add _ _).block ≠ _;rw [add_block];exact Nat.ne_of_lt (Nat.lt_of_lt_of_le (by have:=blC _ _ hw255_0;first|rwa [add_block] at this|exact this) GW248.out))|(dsimp only;exact Nat.ne_of_lt (Nat.lt_of_lt_of_le (by have:=blC _ _ hw255_0;first|rwa [add_block] at this|exact this) GW248.out))) _).trans (hHeld.2.2.1)))),((cell_far (p:=⟨gb248,_,none⟩) (by first|exact Nat.ne_of_lt (Nat.lt_of_lt_of_le (by have:=blC _ _ hw255_1;first|rwa [add_block] at this|exact this) GW248.out)|(rw [add_block];exact Nat.ne_of_lt (Nat.lt_of_lt_of_le (by have:=blC _ _ hw255_1;first|rwa [add_block] at this|exact this) GW248.out))|(show(Addr.add _ _).block ≠ _;rw [add_block];exact Nat.ne_of_lt (Nat.lt_of_lt_of_le (by have:=blC _ _ hw255_1;first|rwa [add_block] at this|exact this) GW248.out))|(dsimp only;exact Nat.ne_of_lt (Nat.lt_of_lt_of_le (by have:=blC _ _ hw255_1;first|rwa [add_block] at this|exact this) GW248.out))) _).trans (((cell_far (p:=⟨gb248,_,none⟩) (by first|exact Nat.ne_of_lt (Nat.lt_of_lt_of_le (by have:=blC _ _ hw255_1;first|rwa [add_block] at this|exact this) GW248.out)|(rw [add_block];exact Nat.ne_of_lt (Nat.lt_of_lt_of_le (by have:=blC _ _ hw255_1;first|rwa [add_block] at this|exact this) GW248.out))|(show(Addr.add _ _).block ≠ _;rw [add_block];exact Nat.ne_of_lt (Nat.lt_of_lt_of_le (by have:=blC _ _ hw255_1;first|rwa [add_block] at this|exact this) GW248.out))|(dsimp only;exact Nat.ne_of_lt (Nat.lt_of_lt_of_le (by have:=blC _ _ hw255_1;first|rwa [add_block] at this|exact this) GW248.out))) _).trans (hHeld.2.2.2.1)))),((cell_far (p:=⟨gb248,_,none⟩) (by first|exact Nat.ne_of_lt (Nat.lt_of_lt_of_le (by have:=blC _ _ hw255_2;first|rwa [add_block] at this|exact this) GW248.out)|(rw [add_block];exact Nat.ne_of_lt (Nat.lt_of_lt_of_le (by have:=blC _ _ hw255_2;first|rwa [add_block] at this|exact this) GW248.out))|(show(Addr.add _ _).block ≠ _;rw [add_block];exact Nat.ne_of_lt (Nat.lt_of_lt_of_le (by have:=blC _ _ hw255_2;first|rwa [add_block] at this|exact this) GW248.out))|(dsimp only;exact Nat.ne_of_lt (Nat.lt_of_lt_of_le (by have:=blC _ _ hw255_2;first|rwa [add_block] at this|exact this) GW248.out))) _).trans (((cell_far (p:=⟨gb248,_,none⟩) (by first|exact Nat.ne_of_lt (Nat.lt_of_lt_of_le (by have:=blC _ _ hw255_2;first|rwa [add_block] at this|exact this) GW248.out)|(rw [add_block];exact Nat.ne_of_lt (Nat.lt_of_lt_of_le (by have:=blC _ _ hw255_2;first|rwa [add_block] at this|exact this) GW248.out))|(show(Addr.add _ _).block ≠ _;rw [add_block];exact Nat.ne_of_lt (Nat.lt_of_lt_of_le (by have:=blC _ _ hw255_2;first|rwa [add_block] at this|exact this) GW248.out))|(dsimp only;exact Nat.ne_of_lt (Nat.lt_of_lt_of_le (by have:=blC _ _ hw255_2;first|rwa [add_block] at this|exact this) GW248.out))) _).trans (hHeld.2.2.2.2))))⟩ (fun hHeld=>?_)
        clear hK K
        refine one_ (i:=10) (N:=none) #[true,true,true,true,true,true,true,true,true,true,true,false] rfl rfl (one_of HT_.out (by kernel_rfl)) (by decide) (fun K hK=>?_)
        have hs22 : w18.cell? ⟨gb249,0,none⟩ = some (.int .i64 0):=(bkC BK249.out 0).trans rfl
        have hfs22:=bkF BK249.out 0
        have hns22_0:=NB247_249.out
        have hns22_1:=NB248_249.out
        have hms22_0:=NB249_247.out
        have hms22_1:=NB249_248.out
        have hs23 : w18.cell? ⟨gb249,1,none⟩ = some (.int .i64 0):=(bkC BK249.out 1).trans rfl
        have hfs23:=bkF BK249.out 1
        have hns23_0:=NB247_249.out
        have hns23_1:=NB248_249.out
        have hms23_0:=NB249_247.out
        have hms23_1:=NB249_248.out
        have hs25 : w18.cell? ⟨gb249,2,none⟩ = some (.slice none 0 0):=(bkC BK249.out 2).trans rfl
        have hfs25:=bkF BK249.out 2
        have hns25_0:=NB247_249.out
        have hns25_1:=NB248_249.out
        have hms25_0:=NB249_247.out
        have hms25_1:=NB249_248.out
        refine skip_ (w1:=?_) (by rfl) rfl ?_ ?_
        rotate_left
        · go_simp
          rfl
        refine hK.out _ _ ⟨((cell_far (p:=⟨gb249,_,none⟩) NB247_249.out _).trans (((cell_far (p:=⟨gb249,_,none⟩) NB247_249.out _).trans (((cell_far (p:=⟨gb249,_,none⟩) NB247_249.out _).trans (hHeld.1)))))),((cell_far (p:=⟨gb249,_,none⟩) NB247_249.out _).trans (((cell_far (p:=⟨gb249,_,none⟩) NB247_249.out _).trans (((cell_far (p:=⟨gb249,_,none⟩) NB247_249.out _).trans (hHeld.2.1)))))),((cell_far (p:=⟨gb249,_,none⟩) (by first|exact Nat.ne_of_lt (Nat.lt_of_lt_of_le (by have:=blC _ _ hw255_0;first|rwa [add_block] at this|exact this) GW249.out)|(rw [add_block];exact Nat.ne_of_lt (Nat.lt_of_lt_of_le (by have:=blC _ _ hw255_0;first|rwa [add_block] at this|exact this) GW249.out))|(show(Addr.add _ _).block ≠ _;rw [add_block];exact Nat.ne_of_lt (Nat.lt_of_lt_of_le (by have:=blC _ _ hw255_0;first|rwa [add_block] at this|exact this) GW249.out))|(dsimp only;exact Nat.ne_of_lt (Nat.lt_of_lt_of_le (by have:=blC _ _ hw255_0;first|rwa [add_block] at this|exact this) GW249.out))) _).trans (((cell_far (p:=⟨gb249,_,none⟩) (by first|exact Nat.ne_of_lt (Nat.lt_of_lt_of_le (by have:=blC _ _ hw255_0;first|rwa [add_block] at this|exact this) GW249.out)|(rw [add_block];exact Nat.ne_of_lt (Nat.lt_of_lt_of_le (by have:=blC _ _ hw255_0;first|rwa [add_block] at this|exact this) GW249.out))|(show(Addr.add _ _).block ≠ _;rw [add_block];exact Nat.ne_of_lt (Nat.lt_of_lt_of_le (by have:=blC _ _ hw255_0;first|rwa [add_block] at this|exact this) GW249.out))|(dsimp only;exact Nat.ne_of_lt (Nat.lt_of_lt_of_le (by have:=blC _ _ hw255_0;first|rwa [add_block] at this|exact this) GW249.out))) _).trans (((cell_far (p:=⟨gb249,_,none⟩) (by first|exact Nat.ne_of_lt (Nat.lt_of_lt_of_le (by have:=blC _ _ hw255_0;first|rwa [add_block] at this|exact this) GW249.out)|(rw [add_block];exact Nat.ne_of_lt (Nat.lt_of_lt_of_le (by have:=blC _ _ hw255_0;first|rwa [add_block] at this|exact this) GW249.out))|(show(Addr.add _ _).block ≠ _;rw [add_block];exact Nat.ne_of_lt (Nat.lt_of_lt_of_le (by have:=blC _ _ hw255_0;first|rwa [add_block] at this|exact this) GW249.out))|(dsimp only;exact Nat.ne_of_lt (Nat.lt_of_lt_of_le (by have:=blC _ _ hw255_0;first|rwa [add_block] at this|exact this) GW249.out))) _).trans (hHeld.2.2.1)))))),((cell_far (p:=⟨gb249,_,none⟩) (by first|exact Nat.ne_of_lt (Nat.lt_of_lt_of_le (by have:=blC _ _ hw255_1;first|rwa [add_block] at this|exact this) GW249.out)|(rw [add_block];exact Nat.ne_of_lt (Nat.lt_of_lt_of_le (by have:=blC _ _ hw255_1;first|rwa [add_block] at this|exact this) GW249.out))|(show(Addr.add _ _).block ≠ _;rw [add_block];exact Nat.ne_of_lt (Nat.lt_of_lt_of_le (by have:=blC _ _ hw255_1;first|rwa [add_block] at this|exact this) GW249.out))|(dsimp only;exact Nat.ne_of_lt (Nat.lt_of_lt_of_le (by have:=blC _ _ hw255_1;first|rwa [add_block] at this|exact this) GW249.out))) _).trans (((cell_far (p:=⟨gb249,_,none⟩) (by first|exact Nat.ne_of_lt (Nat.lt_of_lt_of_le (by have:=blC _ _ hw255_1;first|rwa [add_block] at this|exact this) GW249.out)|(rw [add_block];exact Nat.ne_of_lt (Nat.lt_of_lt_of_le (by have:=blC _ _ hw255_1;first|rwa [add_block] at this|exact this) GW249.out))|(show(Addr.add _ _).block ≠ _;rw [add_block];exact Nat.ne_of_lt (Nat.lt_of_lt_of_le (by have:=blC _ _ hw255_1;first|rwa [add_block] at this|exact this) GW249.out))|(dsimp only;exact Nat.ne_of_lt (Nat.lt_of_lt_of_le (by have:=blC _ _ hw255_1;first|rwa [add_block] at this|exact this) GW249.out))) _).trans (((cell_far (p:=⟨gb249,_,none⟩) (by first|exact Nat.ne_of_lt (Nat.lt_of_lt_of_le (by have:=blC _ _ hw255_1;first|rwa [add_block] at this|exact this) GW249.out)|(rw [add_block];exact Nat.ne_of_lt (Nat.lt_of_lt_of_le (by have:=blC _ _ hw255_1;first|rwa [add_block] at this|exact this) GW249.out))|(show(Addr.add _ _).block ≠ _;rw [add_block];exact Nat.ne_of_lt (Nat.lt_of_lt_of_le (by have:=blC _ _ hw255_1;first|rwa [add_block] at this|exact this) GW249.out))|(dsimp only;exact Nat.ne_of_lt (Nat.lt_of_lt_of_le (by have:=blC _ _ hw255_1;first|rwa [add_block] at this|exact this) GW249.out))) _).trans (hHeld.2.2.2.1)))))),((cell_far (p:=⟨gb249,_,none⟩) (by first|exact Nat.ne_of_lt (Nat.lt_of_lt_of_le (by have:=blC _ _ hw255_2;first|rwa [add_block] at this|exact this) GW249.out)|(rw [add_block];exact Nat.ne_of_lt (Nat.lt_of_lt_of_le (by have:=blC _ _ hw255_2;first|rwa [add_block] at this|exact this) GW249.out))|(show(Addr.add _ _).block ≠ _;rw [add_block];exact Nat.ne_of_lt (Nat.lt_of_lt_of_le (by have:=blC _ _ hw255_2;first|rwa [add_block] at this|exact this) GW249.out))|(dsimp only;exact Nat.ne_of_lt (Nat.lt_of_lt_of_le (by have:=blC _ _ hw255_2;first|rwa [add_block] at this|exact this) GW249.out))) _).trans (((cell_far (p:=⟨gb249,_,none⟩) (by first|exact Nat.ne_of_lt (Nat.lt_of_lt_of_le (by have:=blC _ _ hw255_2;first|rwa [add_block] at this|exact this) GW249.out)|(rw [add_block];exact Nat.ne_of_lt (Nat.lt_of_lt_of_le (by have:=blC _ _ hw255_2;first|rwa [add_block] at this|exact this) GW249.out))|(show(Addr.add _ _).block ≠ _;rw [add_block];exact Nat.ne_of_lt (Nat.lt_of_lt_of_le (by have:=blC _ _ hw255_2;first|rwa [add_block] at this|exact this) GW249.out))|(dsimp only;exact Nat.ne_of_lt (Nat.lt_of_lt_of_le (by have:=blC _ _ hw255_2;first|rwa [add_block] at this|exact this) GW249.out))) _).trans (((cell_far (p:=⟨gb249,_,none⟩) (by first|exact Nat.ne_of_lt (Nat.lt_of_lt_of_le (by have:=blC _ _ hw255_2;first|rwa [add_block] at this|exact this) GW249.out)|(rw [add_block];exact Nat.ne_of_lt (Nat.lt_of_lt_of_le (by have:=blC _ _ hw255_2;first|rwa [add_block] at this|exact this) GW249.out))|(show(Addr.add _ _).block ≠ _;rw [add_block];exact Nat.ne_of_lt (Nat.lt_of_lt_of_le (by have:=blC _ _ hw255_2;first|rwa [add_block] at this|exact this) GW249.out))|(dsimp only;exact Nat.ne_of_lt (Nat.lt_of_lt_of_le (by have:=blC _ _ hw255_2;first|rwa [add_block] at this|exact this) GW249.out))) _).trans (hHeld.2.2.2.2))))))⟩ (fun hHeld=>?_)
        clear hK K
        refine pure_ (i:=11) (N:=some 6) (v:=?_) (a':=?_) #[true,true,true,true,true,true,true,true,true,true,true,true] rfl rfl (any_of HT_.out (by kernel_rfl)) (fun _ _ _ h=>h) (Or.inl ⟨by rfl,?_⟩) ?_ ?_
        rotate_left
        · intro w'
          go_simp
          with_reducible rfl
        rotate_left
        · simp only [Act.put,lsA,lsZ,lsS,i64_w,i32_w]
          rfl
        refine done_ (done_of HT_.out (by kernel_rfl)) ?_
        try go_wp2
        refine bodyPost_ret (results_list (rs:=[.cell 4 24,.cell 5 38,.tmp 6]) rfl (by simp) (.cell gb248 24 #[.int .i64 t251,.slice Ao20 t252.length co20] (0,0) _ rfl (by(with_reducible repeat first|apply bkN|apply bkD|apply bkA);refine blk_far ?_ NB248_249.out _;(with_reducible repeat first|apply bkN|apply bkD|apply bkA);refine blk_far ?_ NB248_249.out _;(with_reducible repeat first|apply bkN|apply bkD|apply bkA);refine blk_far ?_ NB248_249.out _;(with_reducible repeat first|apply bkN|apply bkD|apply bkA);refine blk_put (cs:=#[.int .i64 t251,.slice none 0 0]) ?_ 1 _ rfl;(with_reducible repeat first|apply bkN|apply bkD|apply bkA);refine blk_put (cs:=#[.int .i64 0,.slice none 0 0]) ?_ 0 _ rfl;(with_reducible repeat first|apply bkN|apply bkD|apply bkA);exact BK248.out) Try.underlying24 rfl (by kernel_rfl) (.cell gb249 38 #[.int .i64 t256,.int .i64 t257,.slice Ao24 t258.length co24] (0,0) _ rfl (by(with_reducible repeat first|apply bkN|apply bkD|apply bkA);refine blk_put (cs:=#[.int .i64 t256,.int .i64 t257,.slice none 0 0]) ?_ 2 _ rfl;(with_reducible repeat first|apply bkN|apply bkD|apply bkA);refine blk_put (cs:=#[.int .i64 t256,.int .i64 0,.slice none 0 0]) ?_ 1 _ rfl;(with_reducible repeat first|apply bkN|apply bkD|apply bkA);refine blk_put (cs:=#[.int .i64 0,.int .i64 0,.slice none 0 0]) ?_ 0 _ rfl;(with_reducible repeat first|apply bkN|apply bkD|apply bkA);refine blk_far ?_ NB249_248.out _;(with_reducible repeat first|apply bkN|apply bkD|apply bkA);refine blk_far ?_ NB249_248.out _;(with_reducible repeat first|apply bkN|apply bkD|apply bkA);exact BK249.out) Try.underlying38 rfl (by kernel_rfl) (.tmp .nil)))) rfl ?_
        exact⟨_,_,by first|rfl|(simp [errW_none,errW_some] <;> rfl)|(simp [*,errW_none,errW_some] <;> rfl),by(with_reducible repeat (first|apply Kd.S_alloc|apply Kd.S_drewN|apply Kd.S_drew));exact Kd.S_mono (Kd.S_far (p:=⟨gb249,2,none⟩) (Kd.S_far (p:=⟨gb249,1,none⟩) (Kd.S_far (p:=⟨gb249,0,none⟩) (Kd.S_far (p:=⟨gb248,1,none⟩) (Kd.S_far (p:=⟨gb248,0,none⟩) (Kd.S_mono (Kd.S_types HO254.out BK248.out (by decide)) (fun k_ hk=>(⟨hk,hk.1.1.2⟩ : _∧k_ ≠ gb249))) (fun _ hk=>hk.1.2) (.int .i64 t251)) (fun _ hk=>hk.1.2) (.slice Ao20 t252.length co20)) (fun _ hk=>hk.2) (.int .i64 t256)) (fun _ hk=>hk.2) (.int .i64 t257)) (fun _ hk=>hk.2) (.slice Ao24 t258.length co24)) (fun _ hk=>hk.1.1.2),by(with_reducible repeat (first|apply Kd.R_alloc|apply Kd.R_drewN|apply Kd.R_drew));exact Kd.R_mono (Kd.R_far (p:=⟨gb249,2,none⟩) (Kd.R_far (p:=⟨gb249,1,none⟩) (Kd.R_far (p:=⟨gb249,0,none⟩) (Kd.R_far (p:=⟨gb248,1,none⟩) (Kd.R_far (p:=⟨gb248,0,none⟩) (Kd.R_types (Kd.R_types HO260.out BK248.out (by decide)) BK249.out (by decide)) (fun _ hk=>hk.1.2) (.int .i64 t251)) (fun _ hk=>hk.1.2) (.slice Ao20 t252.length co20)) (fun _ hk=>hk.2) (.int .i64 t256)) (fun _ hk=>hk.2) (.int .i64 t257)) (fun _ hk=>hk.2) (.slice Ao24 t258.length co24)) (fun _ hk=>trivial),by repeat (with_reducible first|exact HB.out|apply bwA|apply bwN|apply bwD|refine bwS ?_ GE247.out|refine bwS ?_ GE248.out|refine bwS ?_ GE249.out)⟩
      · rw [if_neg c7] at H
        exact absurd H (by simp)
    · rw [if_neg c6] at H
      exact absurd H (by simp)
  · rw [if_neg c4] at H
    have c4b0 : (t250 == 0) = false:=beq_eq_false_iff_ne.mpr c4
    have c4b1 : (t250 != 0) = true:=bne_iff_ne.mpr c4
    simp only [Option.some.injEq,Prod.mk.injEq] at H
    obtain ⟨rfl,rfl,rfl,rfl,rfl,rfl⟩:=H
    go_enter Try.func16,Try.ntmps16
    go_wp2_with (first|((with_reducible refine gate_dst (N:=2) rfl ?_);refine box_event ?hg (N:=2) ?hd (cs:=#[.int .i64 a0_0,.slice A0_1 l0_1.length c0_1]) (t:=24) ?hr ?_;(case hd=>rfl);(case hg=>rfl);(case hr=>first|(go_simp;done)|(go_simp;rfl));intro gb247 hg w26 hbox hb;have n0_:=mkA (below_step (by repeat (with_reducible first|exact HB.out|apply bwA|apply bwN|apply bwD)) hb);have n1_:=mkA (hbox);have n2_:=mkA ((by rw [hg];exact(bwZ (by repeat (with_reducible first|exact HB.out|apply bwA|apply bwN|apply bwD))) : w.heap.size ≤ gb247));have n3_:=mkA ((by rw [hg];exact(bwZ (by repeat (with_reducible first|exact HB.out|apply bwA|apply bwN|apply bwD))) : w.heap.size ≤ gb247));clear HB;have HB:=n0_;have BK247:=n1_;have GW247:=n2_;have GE247:=n3_;clear n0_ n1_ n2_ n3_;clear hb hbox hg)|((with_reducible refine gate_dst (N:=4) rfl ?_);refine box_event ?hg (N:=4) ?hd (cs:=#[.int .i64 0,.slice none 0 0]) (t:=24) ?hr ?_;(case hd=>rfl);(case hg=>rfl);(case hr=>first|(go_simp;done)|(go_simp;rfl));intro gb248 hg w27 hbox hb;have n0_:=mkA (bkB (g:=gb247) (o:=.cells #[.int .i64 a0_0,.slice A0_1 l0_1.length c0_1] 24 (0,0)) (by(with_reducible repeat first|apply bkN|apply bkD|apply bkA);exact BK247.out) hb);have n1_:=mkA (below_step (by repeat (with_reducible first|exact HB.out|apply bwA|apply bwN|apply bwD|refine bwS ?_ GE247.out)) hb);have n2_:=mkA (hbox);have n3_:=mkA ((by rw [hg];exact(bwZ (by repeat (with_reducible first|exact HB.out|apply bwA|apply bwN|apply bwD|refine bwS ?_ GE247.out))) : w.heap.size ≤ gb248));have n4_:=mkA ((by rw [hg];exact(bwZ (by repeat (with_reducible first|exact HB.out|apply bwA|apply bwN|apply bwD|refine bwS ?_ GE247.out))) : w.heap.size ≤ gb248));have n5_:=mkA ((by rw [hg];exact Nat.ne_of_lt (blk_lt (g:=gb247) (o:=.cells #[.int .i64 a0_0,.slice A0_1 l0_1.length c0_1] 24 (0,0)) (by(with_reducible repeat first|apply bkN|apply bkD|apply bkA);exact BK247.out)) : gb247 ≠ gb248));have n6_:=mkA ((by rw [hg];exact Nat.ne_of_gt (blk_lt (g:=gb247) (o:=.cells #[.int .i64 a0_0,.slice A0_1 l0_1.length c0_1] 24 (0,0)) (by(with_reducible repeat first|apply bkN|apply bkD|apply bkA);exact BK247.out)) : gb248 ≠ gb247));clear BK247;clear HB;have BK247:=n0_;have HB:=n1_;have BK248:=n2_;have GW248:=n3_;have GE248:=n4_;have NB247_248:=n5_;have NB248_247:=n6_;clear n0_ n1_ n2_ n3_ n4_ n5_ n6_;clear hb hbox hg)|((with_reducible refine gate_dst (N:=5) rfl ?_);refine box_event ?hg (N:=5) ?hd (cs:=#[.int .i64 0,.int .i64 0,.slice none 0 0]) (t:=38) ?hr ?_;(case hd=>rfl);(case hg=>rfl);(case hr=>first|(go_simp;done)|(go_simp;rfl));intro gb249 hg w28 hbox hb;have n0_:=mkA (bkB (g:=gb247) (o:=.cells #[.int .i64 a0_0,.slice A0_1 l0_1.length c0_1] 24 (0,0)) (by(with_reducible repeat first|apply bkN|apply bkD|apply bkA);exact BK247.out) hb);have n1_:=mkA (bkB (g:=gb248) (o:=.cells #[.int .i64 0,.slice none 0 0] 24 (0,0)) (by(with_reducible repeat first|apply bkN|apply bkD|apply bkA);exact BK248.out) hb);have n2_:=mkA (below_step (by repeat (with_reducible first|exact HB.out|apply bwA|apply bwN|apply bwD|refine bwS ?_ GE247.out|refine bwS ?_ GE248.out)) hb);have n3_:=mkA (hbox);have n4_:=mkA ((by rw [hg];exact(bwZ (by repeat (with_reducible first|exact HB.out|apply bwA|apply bwN|apply bwD|refine bwS ?_ GE247.out|refine bwS ?_ GE248.out))) : w.heap.size ≤ gb249));have n5_:=mkA ((by rw [hg];exact(bwZ (by repeat (with_reducible first|exact HB.out|apply bwA|apply bwN|apply bwD|refine bwS ?_ GE247.out|refine bwS ?_ GE248.out))) : w.heap.size ≤ gb249));have n6_:=mkA ((by rw [hg];exact Nat.ne_of_lt (blk_lt (g:=gb247) (o:=.cells #[.int .i64 a0_0,.slice A0_1 l0_1.length c0_1] 24 (0,0)) (by(with_reducible repeat first|apply bkN|apply bkD|apply bkA);exact BK247.out)) : gb247 ≠ gb249));have n7_:=mkA ((by rw [hg];exact Nat.ne_of_gt (blk_lt (g:=gb247) (o:=.cells #[.int .i64 a0_0,.slice A0_1 l0_1.length c0_1] 24 (0,0)) (by(with_reducible repeat first|apply bkN|apply bkD|apply bkA);exact BK247.out)) : gb249 ≠ gb247));have n8_:=mkA ((by rw [hg];exact Nat.ne_of_lt (blk_lt (g:=gb248) (o:=.cells #[.int .i64 0,.slice none 0 0] 24 (0,0)) (by(with_reducible repeat first|apply bkN|apply bkD|apply bkA);exact BK248.out)) : gb248 ≠ gb249));have n9_:=mkA ((by rw [hg];exact Nat.ne_of_gt (blk_lt (g:=gb248) (o:=.cells #[.int .i64 0,.slice none 0 0] 24 (0,0)) (by(with_reducible repeat first|apply bkN|apply bkD|apply bkA);exact BK248.out)) : gb249 ≠ gb248));clear BK247;clear BK248;clear HB;have BK247:=n0_;have BK248:=n1_;have HB:=n2_;have BK249:=n3_;have GW249:=n4_;have GE249:=n5_;have NB247_249:=n6_;have NB249_247:=n7_;have NB248_249:=n8_;have NB249_248:=n9_;clear n0_ n1_ n2_ n3_ n4_ n5_ n6_ n7_ n8_ n9_;clear hb hbox hg;have hnb29:=NB247_248.out;have hnc29:=NB248_247.out;have hnb30:=NB247_249.out;have hnc30:=NB249_247.out;have hcz31_0 : w28.cell? ⟨gb247,0,none⟩ = some (.int .i64 a0_0):=(bkC BK247.out 0).trans rfl;have hcz31_1 : w28.cell? ⟨gb247,1,none⟩ = some (.slice A0_1 l0_1.length c0_1):=(bkC BK247.out 1).trans rfl;have hfz31_0:=bkF BK247.out 0;have hfz31_1:=bkF BK247.out 1)|((with_reducible refine gate_callee (f:=37) rfl ?_);refine goesL_ (some 10) rfl rfl Try.func37 (by kernel_rfl) rfl #[.agg #[.int .i64 a0_0,.slice A0_1 l0_1.length c0_1],.int .i64 a1] rfl (by(try simp only [List.map_toArray,List.map_cons,List.map_nil]);first|done|rfl) ?_;(with_reducible refine(undercroftref04_there.calls k a0_0 _ _ l0_1 a1 t250 _ ?side1 ?side2 A3.out).mono ?_);(case side1=>repeat (first|exact(Kd.C_below HR0_1.out HB.out)|(with_reducible refine Kd.C_alloc ?_ _)|(with_reducible refine Kd.C_drewN ?_ _)|(with_reducible refine Kd.C_drew ?_)));(case side2=>exact HC0_1.out);rintro e w32 ⟨rfl,hb⟩;refine⟨_,rfl,?_⟩;have n0_:=mkA (bkB (g:=gb247) (o:=.cells #[.int .i64 a0_0,.slice A0_1 l0_1.length c0_1] 24 (0,0)) (by(with_reducible repeat first|apply bkN|apply bkD|apply bkA);exact BK247.out) hb);have n1_:=mkA (bkB (g:=gb248) (o:=.cells #[.int .i64 0,.slice none 0 0] 24 (0,0)) (by(with_reducible repeat first|apply bkN|apply bkD|apply bkA);exact BK248.out) hb);have n2_:=mkA (bkB (g:=gb249) (o:=.cells #[.int .i64 0,.int .i64 0,.slice none 0 0] 38 (0,0)) (by(with_reducible repeat first|apply bkN|apply bkD|apply bkA);exact BK249.out) hb);have n3_:=mkA (below_step (by repeat (with_reducible first|exact HB.out|apply bwA|apply bwN|apply bwD|refine bwS ?_ GE247.out|refine bwS ?_ GE248.out|refine bwS ?_ GE249.out)) hb);clear BK247;clear BK248;clear BK249;clear HB;have BK247:=n0_;have BK248:=n1_;have BK249:=n2_;have HB:=n3_;clear n0_ n1_ n2_ n3_;(try clear hb);(try clear hb2);(try clear hk);(try clear hi);have hnb33:=NB248_249.out;have hnc33:=NB249_248.out;have hcz34_0 : w32.cell? ⟨gb248,0,none⟩ = some (.int .i64 0):=(bkC BK248.out 0).trans rfl;have hcz34_1 : w32.cell? ⟨gb248,1,none⟩ = some (.slice none 0 0):=(bkC BK248.out 1).trans rfl;have hfz34_0:=bkF BK248.out 0;have hfz34_1:=bkF BK248.out 1;have hcz35_0 : w32.cell? ⟨gb249,0,none⟩ = some (.int .i64 0):=(bkC BK249.out 0).trans rfl;have hcz35_1 : w32.cell? ⟨gb249,1,none⟩ = some (.int .i64 0):=(bkC BK249.out 1).trans rfl;have hcz35_2 : w32.cell? ⟨gb249,2,none⟩ = some (.slice none 0 0):=(bkC BK249.out 2).trans rfl;have hfz35_0:=bkF BK249.out 0;have hfz35_1:=bkF BK249.out 1;have hfz35_2:=bkF BK249.out 2))
    refine bodyPost_ret (results_list (rs:=[.cell 4 24,.cell 5 38,.tmp 6]) rfl (by simp) (.cell gb248 24 #[.int .i64 0,.slice none 0 0] (0,0) _ rfl (by(with_reducible repeat first|apply bkN|apply bkD|apply bkA);refine blk_far ?_ NB248_249.out _;(with_reducible repeat first|apply bkN|apply bkD|apply bkA);refine blk_far ?_ NB248_249.out _;(with_reducible repeat first|apply bkN|apply bkD|apply bkA);refine blk_far ?_ NB248_249.out _;(with_reducible repeat first|apply bkN|apply bkD|apply bkA);refine blk_put (cs:=#[.int .i64 0,.slice none 0 0]) ?_ 1 _ rfl;(with_reducible repeat first|apply bkN|apply bkD|apply bkA);refine blk_put (cs:=#[.int .i64 0,.slice none 0 0]) ?_ 0 _ rfl;(with_reducible repeat first|apply bkN|apply bkD|apply bkA);exact BK248.out) Try.underlying24 rfl (by kernel_rfl) (.cell gb249 38 #[.int .i64 0,.int .i64 0,.slice none 0 0] (0,0) _ rfl (by(with_reducible repeat first|apply bkN|apply bkD|apply bkA);refine blk_put (cs:=#[.int .i64 0,.int .i64 0,.slice none 0 0]) ?_ 2 _ rfl;(with_reducible repeat first|apply bkN|apply bkD|apply bkA);refine blk_put (cs:=#[.int .i64 0,.int .i64 0,.slice none 0 0]) ?_ 1 _ rfl;(with_reducible repeat first|apply bkN|apply bkD|apply bkA);refine blk_put (cs:=#[.int .i64 0,.int .i64 0,.slice none 0 0]) ?_ 0 _ rfl;(with_reducible repeat first|apply bkN|apply bkD|apply bkA);refine blk_far ?_ NB249_248.out _;(with_reducible repeat first|apply bkN|apply bkD|apply bkA);refine blk_far ?_ NB249_248.out _;(with_reducible repeat first|apply bkN|apply bkD|apply bkA);exact BK249.out) Try.underlying38 rfl (by kernel_rfl) (.tmp .nil)))) rfl ?_
    exact⟨_,_,by first|rfl|(simp [errW_none,errW_some] <;> rfl)|(simp [*,errW_none,errW_some] <;> rfl),by first|exact Kd.S_nil _ _ _ _ _|exact Kd.N_nil _ _ _ _ _|exact Kd.V_nil _ _ _ _ _|exact Kd.Q_nil _ _ _ _ _|exact Kd.R_nil _ _ _ _ _,by first|exact Kd.R_nil _ _ _ _ _|exact Kd.N_nil _ _ _ _ _|exact Kd.V_nil _ _ _ _ _|exact Kd.Q_nil _ _ _ _ _|exact Kd.S_nil _ _ _ _ _,by repeat (with_reducible first|exact HB.out|apply bwA|apply bwN|apply bwD|refine bwS ?_ GE247.out|refine bwS ?_ GE248.out|refine bwS ?_ GE249.out)⟩

/-! ### undercroftplain_SameBytes: function 38 -/
def undercroftplain_SameBytes.l0 : Nat→List Int→List Int→Int→Option (Bool)
  | 0,_,_,_=>none
  | k + 1,x0,x1,x5=>if x5 < (x0.length : Int) then(if 0 ≤ x5 then(if x5 < (x1.length : Int) then(if(rd x0 x5) = (rd x1 x5) then(undercroftplain_SameBytes.l0 k x0 x1 (wrap64 (x5 + 1))) else(some false)) else(none)) else(none)) else(some true)
def undercroftplain_SameBytes.f (k : Nat) (l0 : List Int) (l1 : List Int) : Option (Bool):=if(l0.length : Int) = (l1.length : Int) then(undercroftplain_SameBytes.l0 k l0 l1 0) else(some false)
theorem undercroftplain_SameBytes.mono_l : ∀ k,(∀ y0 y1 y2,LeO (undercroftplain_SameBytes.l0 k y0 y1 y2) (undercroftplain_SameBytes.l0 (k + 1) y0 y1 y2))
  | 0=>fun _ _ _ r h=>by simp [undercroftplain_SameBytes.l0] at h
  | k + 1=>by
    have ih0:=undercroftplain_SameBytes.mono_l k
    · intro y0 y1 y2
      unfold undercroftplain_SameBytes.l0
      repeat' first
      | (with_reducible exact ih0 _ _ _)
      | (with_reducible exact LeO.refl _)
      | (with_reducible exact LeO.none _)
      | (with_reducible refine LeO.ite ?_ ?_)
      | (with_reducible refine LeO.bind ?_ (fun _=>?_))
      | exact ih0 _ _ _
      | exact LeO.none _
      | refine LeO.ite ?_ ?_
      | refine LeO.bind ?_ (fun _=>?_)
theorem undercroftplain_SameBytes.mono : ∀ a0 a1 k,LeO (undercroftplain_SameBytes.f k a0 a1) (undercroftplain_SameBytes.f (k + 1) a0 a1):=by
  intro a0 a1 k
  have ih0:=undercroftplain_SameBytes.mono_l k
  unfold undercroftplain_SameBytes.f
  repeat' first
      | (with_reducible exact ih0 _ _ _)
      | (with_reducible exact LeO.refl _)
      | (with_reducible exact LeO.none _)
      | (with_reducible refine LeO.ite ?_ ?_)
      | (with_reducible refine LeO.bind ?_ (fun _=>?_))
      | exact ih0 _ _ _
      | exact LeO.none _
      | refine LeO.ite ?_ ?_
      | refine LeO.bind ?_ (fun _=>?_)
set_option maxHeartbeats 8000000 in
set_option maxRecDepth 100000 in
theorem undercroftplain_SameBytes.calls (k : Nat) (A0 : Option Addr) (c0 : Nat) (l0 : List Int) (A1 : Option Addr) (c1 : Nat) (l1 : List Int) (r : Bool) (w : World) (hr0 : Kd.C (Kd.int .u8) w A0 l0.length l0) (hc0 : l0.length ≤ c0) (hr1 : Kd.C (Kd.int .u8) w A1 l1.length l1) (hc1 : l1.length ≤ c1) (h : undercroftplain_SameBytes.f k l0 l1 = some r) :
    Calls Try.prog 38 #[.slice A0 l0.length c0,.slice A1 l1.length c1] w fun e w'=>e = .returned (.bool r)∧Drawn0 w w':=by
  have HR0:=mkA hr0
  have HC0:=mkA hc0
  clear hr0 hc0
  have HR1:=mkA hr1
  have HC1:=mkA hc1
  clear hr1 hc1
  have H : (if(l0.length : Int) = (l1.length : Int) then(undercroftplain_SameBytes.l0 k l0 l1 0) else(some false)) = some r:=h
  clear h
  by_cases c3 : (l0.length : Int) = (l1.length : Int)
  · rw [if_pos c3] at H
    have c3b0 : ((l0.length : Int) == (l1.length : Int)) = true:=beq_iff_eq.mpr c3
    have c3b1 : ((l0.length : Int) != (l1.length : Int)) = false:=bne_eq_false_iff_eq.mpr c3
    have c3b2 : (l0.length == l1.length) = true:=by first|simpa using c3|(simp at c3 ⊢;omega)
    clear c3
    have H':=mkA H
    clear H
    go_enter Try.func38,Try.ntmps38
    go_wp2
    repeat (go_quiet (fail);try go_wp2)
    go_loopg [5] k (fun kq v5 w'=>∃ (x5_1 : Int),v5 = .int .i64 x5_1∧Aside0 (undercroftplain_SameBytes.l0 kq l0 l1 x5_1 = some r)∧Aside0 (kq ≤ k)∧Drawn0 w w')
    case atStart=>exact⟨(0),(by first|rfl|(simp;done)|(simp [*];done)),H',⟨Nat.le_refl _⟩,by repeat (first|exact Drawn0.refl _|apply Drawn0.step)⟩
    case round =>
      clear H'
      try clear c1
      try clear p2
      try clear c3
      try clear c3b0
      try clear c3b1
      try clear c3b2
      obtain ⟨x5_1,rfl,HA,HK1,⟨m1,rfl⟩⟩:=hrel
      cases gk with
      | zero=>exact absurd HA.out (by simp [undercroftplain_SameBytes.l0])
      | succ k1 =>
        have H:=HA.out
        clear HA
        simp only [undercroftplain_SameBytes.l0] at H
        by_cases c4 : x5_1 < (l0.length : Int)
        · rw [if_pos c4] at H
          have c4b0 : decide (x5_1 < (l0.length : Int)) = true:=decide_eq_true c4
          clear c4
          by_cases c5 : 0 ≤ x5_1
          · rw [if_pos c5] at H
            have c5b0 : decide (0 ≤ x5_1) = true:=decide_eq_true c5
            clear c5
            by_cases c6 : x5_1 < (l1.length : Int)
            · rw [if_pos c6] at H
              have c6b0 : decide (x5_1 < (l1.length : Int)) = true:=decide_eq_true c6
              clear c6
              by_cases c7 : (rd l0 x5_1) = (rd l1 x5_1)
              · rw [if_pos c7] at H
                have c7b0 : ((rd l0 x5_1) == (rd l1 x5_1)) = true:=beq_iff_eq.mpr c7
                have c7b1 : ((rd l0 x5_1) != (rd l1 x5_1)) = false:=bne_eq_false_iff_eq.mpr c7
                clear c7
                have H':=mkA H
                clear H
                have p263 : 0 ≤ (x5_1 : Int):=odt (by first|(with_reducible assumption)|assumption)
                have q263 : x5_1 < (l0.length : Int):=odt (by first|(with_reducible assumption)|assumption)
                obtain ⟨ad263,e263,hx263_0⟩:=Kd.at_int HR0.out x5_1 p263 q263
                cases e263
                replace p263:=eq_true p263
                replace q263:=eq_true q263
                have p264 : 0 ≤ (x5_1 : Int):=odt (by first|(with_reducible assumption)|assumption)
                have q264 : x5_1 < (l1.length : Int):=odt (by first|(with_reducible assumption)|assumption)
                obtain ⟨ad264,e264,hx264_0⟩:=Kd.at_int HR1.out x5_1 p264 q264
                cases e264
                replace p264:=eq_true p264
                replace q264:=eq_true q264
                go_wp2
                repeat (go_quiet (fail);try go_wp2)
                go_roundg k1
                case measure=>have:=HK1.out;omega
                case rel=>exact⟨(wrap64 (x5_1 + 1)),(by first|rfl|(simp;done)|(simp [*];done)),H',⟨by have:=HK1.out;omega⟩,by repeat (first|exact Drawn0.refl _|apply Drawn0.step)⟩
              · rw [if_neg c7] at H
                have c7b0 : ((rd l0 x5_1) == (rd l1 x5_1)) = false:=beq_eq_false_iff_ne.mpr c7
                have c7b1 : ((rd l0 x5_1) != (rd l1 x5_1)) = true:=bne_iff_ne.mpr c7
                obtain rfl:=Option.some.inj H
                have p263 : 0 ≤ (x5_1 : Int):=odt (by first|(with_reducible assumption)|assumption)
                have q263 : x5_1 < (l0.length : Int):=odt (by first|(with_reducible assumption)|assumption)
                obtain ⟨ad263,e263,hx263_0⟩:=Kd.at_int HR0.out x5_1 p263 q263
                cases e263
                replace p263:=eq_true p263
                replace q263:=eq_true q263
                have p264 : 0 ≤ (x5_1 : Int):=odt (by first|(with_reducible assumption)|assumption)
                have q264 : x5_1 < (l1.length : Int):=odt (by first|(with_reducible assumption)|assumption)
                obtain ⟨ad264,e264,hx264_0⟩:=Kd.at_int HR1.out x5_1 p264 q264
                cases e264
                replace p264:=eq_true p264
                replace q264:=eq_true q264
                go_wp2
                repeat (go_quiet (fail);try go_wp2)
                go_ret
                exact⟨by first|rfl|(simp;done)|(simp [*];done),by repeat (first|exact Drawn0.refl _|apply Drawn0.step)⟩
            · rw [if_neg c6] at H
              exact absurd H (by simp)
          · rw [if_neg c5] at H
            exact absurd H (by simp)
        · rw [if_neg c4] at H
          have c4b0 : decide (x5_1 < (l0.length : Int)) = false:=decide_eq_false c4
          clear c4
          obtain rfl:=Option.some.inj H
          go_wp2
          repeat (go_quiet (fail);try go_wp2)
          go_ret
          exact⟨by first|rfl|(simp;done)|(simp [*];done),by repeat (first|exact Drawn0.refl _|apply Drawn0.step)⟩
  · rw [if_neg c3] at H
    have c3b0 : ((l0.length : Int) == (l1.length : Int)) = false:=beq_eq_false_iff_ne.mpr c3
    have c3b1 : ((l0.length : Int) != (l1.length : Int)) = true:=bne_iff_ne.mpr c3
    have c3b2 : (l0.length == l1.length) = false:=by first|simpa using c3|(simp at c3 ⊢;omega)
    obtain rfl:=Option.some.inj H
    go_enter Try.func38,Try.ntmps38
    go_wp2
    repeat (go_quiet (fail);try go_wp2)
    go_ret
    exact⟨by first|rfl|(simp;done)|(simp [*];done),by repeat (first|exact Drawn0.refl _|apply Drawn0.step)⟩

/-! ### undercroftlaw04_samePacket: function 19 -/
def undercroftlaw04_samePacket.f (k : Nat) (a0_0 : Int) (a0_1 : Int) (l0_2 : List Int) (a1_0 : Int) (a1_1 : Int) (l1_2 : List Int) : Option (Bool):=if a0_0 = a1_0 then(if a0_1 = a1_1 then((undercroftplain_SameBytes.f k l0_2 l1_2).bind fun t267=>(some t267)) else(some false)) else(some false)
theorem undercroftlaw04_samePacket.mono : ∀ a0 a1 a2 a3 a4 a5 k,LeO (undercroftlaw04_samePacket.f k a0 a1 a2 a3 a4 a5) (undercroftlaw04_samePacket.f (k + 1) a0 a1 a2 a3 a4 a5):=by
  intro a0 a1 a2 a3 a4 a5 k
  unfold undercroftlaw04_samePacket.f
  repeat' first
      | (with_reducible exact undercroftplain_SameBytes.mono _ _ _)
      | (with_reducible exact LeO.refl _)
      | (with_reducible exact LeO.none _)
      | (with_reducible refine LeO.ite ?_ ?_)
      | (with_reducible refine LeO.bind ?_ (fun _=>?_))
      | exact undercroftplain_SameBytes.mono _ _ _
      | exact LeO.none _
      | refine LeO.ite ?_ ?_
      | refine LeO.bind ?_ (fun _=>?_)
set_option maxHeartbeats 8000000 in
set_option maxRecDepth 100000 in
theorem undercroftlaw04_samePacket.calls (k : Nat) (a0_0 : Int) (a0_1 : Int) (A0_2 : Option Addr) (c0_2 : Nat) (l0_2 : List Int) (a1_0 : Int) (a1_1 : Int) (A1_2 : Option Addr) (c1_2 : Nat) (l1_2 : List Int) (r : Bool) (w : World) (hr0_2 : Kd.C (Kd.int .u8) w A0_2 l0_2.length l0_2) (hc0_2 : l0_2.length ≤ c0_2) (hr1_2 : Kd.C (Kd.int .u8) w A1_2 l1_2.length l1_2) (hc1_2 : l1_2.length ≤ c1_2) (h : undercroftlaw04_samePacket.f k a0_0 a0_1 l0_2 a1_0 a1_1 l1_2 = some r) :
    Calls Try.prog 19 #[.agg #[.int .i64 a0_0,.int .i64 a0_1,.slice A0_2 l0_2.length c0_2],.agg #[.int .i64 a1_0,.int .i64 a1_1,.slice A1_2 l1_2.length c1_2]] w fun e w'=>e = .returned (.bool r)∧Below w.heap.size w w':=by
  have hu40:=Try.underlying40
  have hu38:=Try.underlying38
  have HR0_2:=mkA hr0_2
  have HC0_2:=mkA hc0_2
  clear hr0_2 hc0_2
  have HR1_2:=mkA hr1_2
  have HC1_2:=mkA hc1_2
  clear hr1_2 hc1_2
  have HB:=mkA (Below.refl w.heap.size w)
  have H : (if a0_0 = a1_0 then(if a0_1 = a1_1 then((undercroftplain_SameBytes.f k l0_2 l1_2).bind fun t267=>(some t267)) else(some false)) else(some false)) = some r:=h
  clear h
  by_cases c3 : a0_0 = a1_0
  · rw [if_pos c3] at H
    have c3b0 : (a0_0 == a1_0) = true:=beq_iff_eq.mpr c3
    have c3b1 : (a0_0 != a1_0) = false:=bne_eq_false_iff_eq.mpr c3
    clear c3
    by_cases c4 : a0_1 = a1_1
    · rw [if_pos c4] at H
      have c4b0 : (a0_1 == a1_1) = true:=beq_iff_eq.mpr c4
      have c4b1 : (a0_1 != a1_1) = false:=bne_eq_false_iff_eq.mpr c4
      clear c4
      replace H:=Option.bind_eq_some_iff.mp H
      obtain ⟨t267,A50,H⟩:=H
      replace H : (some t267) = some r:=H
      have A5:=mkA A50
      clear A50
      obtain rfl:=Option.some.inj H
      go_enter Try.func19,Try.ntmps19
      go_wp2_with (first|((with_reducible refine gate_dst (N:=2) rfl ?_);refine box_event ?hg (N:=2) ?hd (cs:=#[.int .i64 a0_0,.int .i64 a0_1,.slice A0_2 l0_2.length c0_2]) (t:=40) ?hr ?_;(case hd=>rfl);(case hg=>rfl);(case hr=>first|(go_simp;done)|(go_simp;rfl));intro gb265 hg w6 hbox hb;have n0_:=mkA (below_step (by repeat (with_reducible first|exact HB.out|apply bwA|apply bwN|apply bwD)) hb);have n1_:=mkA (hbox);have n2_:=mkA ((by rw [hg];exact(bwZ (by repeat (with_reducible first|exact HB.out|apply bwA|apply bwN|apply bwD))) : w.heap.size ≤ gb265));have n3_:=mkA ((by rw [hg];exact(bwZ (by repeat (with_reducible first|exact HB.out|apply bwA|apply bwN|apply bwD))) : w.heap.size ≤ gb265));clear HB;have HB:=n0_;have BK265:=n1_;have GW265:=n2_;have GE265:=n3_;clear n0_ n1_ n2_ n3_;clear hb hbox hg)|((with_reducible refine gate_dst (N:=3) rfl ?_);refine box_event ?hg (N:=3) ?hd (cs:=#[.int .i64 a1_0,.int .i64 a1_1,.slice A1_2 l1_2.length c1_2]) (t:=38) ?hr ?_;(case hd=>rfl);(case hg=>rfl);(case hr=>first|(go_simp;done)|(go_simp;rfl));intro gb266 hg w7 hbox hb;have n0_:=mkA (bkB (g:=gb265) (o:=.cells #[.int .i64 a0_0,.int .i64 a0_1,.slice A0_2 l0_2.length c0_2] 40 (0,0)) (by(with_reducible repeat first|apply bkN|apply bkD|apply bkA);exact BK265.out) hb);have n1_:=mkA (below_step (by repeat (with_reducible first|exact HB.out|apply bwA|apply bwN|apply bwD|refine bwS ?_ GE265.out)) hb);have n2_:=mkA (hbox);have n3_:=mkA ((by rw [hg];exact(bwZ (by repeat (with_reducible first|exact HB.out|apply bwA|apply bwN|apply bwD|refine bwS ?_ GE265.out))) : w.heap.size ≤ gb266));have n4_:=mkA ((by rw [hg];exact(bwZ (by repeat (with_reducible first|exact HB.out|apply bwA|apply bwN|apply bwD|refine bwS ?_ GE265.out))) : w.heap.size ≤ gb266));have n5_:=mkA ((by rw [hg];exact Nat.ne_of_lt (blk_lt (g:=gb265) (o:=.cells #[.int .i64 a0_0,.int .i64 a0_1,.slice A0_2 l0_2.length c0_2] 40 (0,0)) (by(with_reducible repeat first|apply bkN|apply bkD|apply bkA);exact BK265.out)) : gb265 ≠ gb266));have n6_:=mkA ((by rw [hg];exact Nat.ne_of_gt (blk_lt (g:=gb265) (o:=.cells #[.int .i64 a0_0,.int .i64 a0_1,.slice A0_2 l0_2.length c0_2] 40 (0,0)) (by(with_reducible repeat first|apply bkN|apply bkD|apply bkA);exact BK265.out)) : gb266 ≠ gb265));clear BK265;clear HB;have BK265:=n0_;have HB:=n1_;have BK266:=n2_;have GW266:=n3_;have GE266:=n4_;have NB265_266:=n5_;have NB266_265:=n6_;clear n0_ n1_ n2_ n3_ n4_ n5_ n6_;clear hb hbox hg;have hnb8:=NB265_266.out;have hnc8:=NB266_265.out;have hcz9_0 : w7.cell? ⟨gb265,0,none⟩ = some (.int .i64 a0_0):=(bkC BK265.out 0).trans rfl;have hcz9_1 : w7.cell? ⟨gb265,1,none⟩ = some (.int .i64 a0_1):=(bkC BK265.out 1).trans rfl;have hcz9_2 : w7.cell? ⟨gb265,2,none⟩ = some (.slice A0_2 l0_2.length c0_2):=(bkC BK265.out 2).trans rfl;have hfz9_0:=bkF BK265.out 0;have hfz9_1:=bkF BK265.out 1;have hfz9_2:=bkF BK265.out 2;have hcz10_0 : w7.cell? ⟨gb266,0,none⟩ = some (.int .i64 a1_0):=(bkC BK266.out 0).trans rfl;have hcz10_1 : w7.cell? ⟨gb266,1,none⟩ = some (.int .i64 a1_1):=(bkC BK266.out 1).trans rfl;have hcz10_2 : w7.cell? ⟨gb266,2,none⟩ = some (.slice A1_2 l1_2.length c1_2):=(bkC BK266.out 2).trans rfl;have hfz10_0:=bkF BK266.out 0;have hfz10_1:=bkF BK266.out 1;have hfz10_2:=bkF BK266.out 2)|(go_at_call 38;(with_reducible refine(undercroftplain_SameBytes.calls k _ _ l0_2 _ _ l1_2 t267 _ ?side1 ?side2 ?side3 ?side4 A5.out).mono ?_);(case side1=>repeat (first|exact(Kd.C_below HR0_2.out HB.out)|(with_reducible refine Kd.C_alloc ?_ _)|(with_reducible refine Kd.C_drewN ?_ _)|(with_reducible refine Kd.C_drew ?_)));(case side2=>exact HC0_2.out);(case side3=>repeat (first|exact(Kd.C_below HR1_2.out HB.out)|(with_reducible refine Kd.C_alloc ?_ _)|(with_reducible refine Kd.C_drewN ?_ _)|(with_reducible refine Kd.C_drew ?_)));(case side4=>exact HC1_2.out);rintro e w' ⟨rfl,⟨nd,rfl⟩⟩))
      go_ret
      exact⟨by first|rfl|(simp [errW_none,errW_some] <;> rfl)|(simp [*,errW_none,errW_some] <;> rfl),by repeat (with_reducible first|exact HB.out|apply bwA|apply bwN|apply bwD|refine bwS ?_ GE265.out|refine bwS ?_ GE266.out)⟩
    · rw [if_neg c4] at H
      have c4b0 : (a0_1 == a1_1) = false:=beq_eq_false_iff_ne.mpr c4
      have c4b1 : (a0_1 != a1_1) = true:=bne_iff_ne.mpr c4
      obtain rfl:=Option.some.inj H
      go_enter Try.func19,Try.ntmps19
      go_wp2_with (first|((with_reducible refine gate_dst (N:=2) rfl ?_);refine box_event ?hg (N:=2) ?hd (cs:=#[.int .i64 a0_0,.int .i64 a0_1,.slice A0_2 l0_2.length c0_2]) (t:=40) ?hr ?_;(case hd=>rfl);(case hg=>rfl);(case hr=>first|(go_simp;done)|(go_simp;rfl));intro gb265 hg w11 hbox hb;have n0_:=mkA (below_step (by repeat (with_reducible first|exact HB.out|apply bwA|apply bwN|apply bwD)) hb);have n1_:=mkA (hbox);have n2_:=mkA ((by rw [hg];exact(bwZ (by repeat (with_reducible first|exact HB.out|apply bwA|apply bwN|apply bwD))) : w.heap.size ≤ gb265));have n3_:=mkA ((by rw [hg];exact(bwZ (by repeat (with_reducible first|exact HB.out|apply bwA|apply bwN|apply bwD))) : w.heap.size ≤ gb265));clear HB;have HB:=n0_;have BK265:=n1_;have GW265:=n2_;have GE265:=n3_;clear n0_ n1_ n2_ n3_;clear hb hbox hg)|((with_reducible refine gate_dst (N:=3) rfl ?_);refine box_event ?hg (N:=3) ?hd (cs:=#[.int .i64 a1_0,.int .i64 a1_1,.slice A1_2 l1_2.length c1_2]) (t:=38) ?hr ?_;(case hd=>rfl);(case hg=>rfl);(case hr=>first|(go_simp;done)|(go_simp;rfl));intro gb266 hg w12 hbox hb;have n0_:=mkA (bkB (g:=gb265) (o:=.cells #[.int .i64 a0_0,.int .i64 a0_1,.slice A0_2 l0_2.length c0_2] 40 (0,0)) (by(with_reducible repeat first|apply bkN|apply bkD|apply bkA);exact BK265.out) hb);have n1_:=mkA (below_step (by repeat (with_reducible first|exact HB.out|apply bwA|apply bwN|apply bwD|refine bwS ?_ GE265.out)) hb);have n2_:=mkA (hbox);have n3_:=mkA ((by rw [hg];exact(bwZ (by repeat (with_reducible first|exact HB.out|apply bwA|apply bwN|apply bwD|refine bwS ?_ GE265.out))) : w.heap.size ≤ gb266));have n4_:=mkA ((by rw [hg];exact(bwZ (by repeat (with_reducible first|exact HB.out|apply bwA|apply bwN|apply bwD|refine bwS ?_ GE265.out))) : w.heap.size ≤ gb266));have n5_:=mkA ((by rw [hg];exact Nat.ne_of_lt (blk_lt (g:=gb265) (o:=.cells #[.int .i64 a0_0,.int .i64 a0_1,.slice A0_2 l0_2.length c0_2] 40 (0,0)) (by(with_reducible repeat first|apply bkN|apply bkD|apply bkA);exact BK265.out)) : gb265 ≠ gb266));have n6_:=mkA ((by rw [hg];exact Nat.ne_of_gt (blk_lt (g:=gb265) (o:=.cells #[.int .i64 a0_0,.int .i64 a0_1,.slice A0_2 l0_2.length c0_2] 40 (0,0)) (by(with_reducible repeat first|apply bkN|apply bkD|apply bkA);exact BK265.out)) : gb266 ≠ gb265));clear BK265;clear HB;have BK265:=n0_;have HB:=n1_;have BK266:=n2_;have GW266:=n3_;have GE266:=n4_;have NB265_266:=n5_;have NB266_265:=n6_;clear n0_ n1_ n2_ n3_ n4_ n5_ n6_;clear hb hbox hg;have hnb13:=NB265_266.out;have hnc13:=NB266_265.out;have hcz14_0 : w12.cell? ⟨gb265,0,none⟩ = some (.int .i64 a0_0):=(bkC BK265.out 0).trans rfl;have hcz14_1 : w12.cell? ⟨gb265,1,none⟩ = some (.int .i64 a0_1):=(bkC BK265.out 1).trans rfl;have hcz14_2 : w12.cell? ⟨gb265,2,none⟩ = some (.slice A0_2 l0_2.length c0_2):=(bkC BK265.out 2).trans rfl;have hfz14_0:=bkF BK265.out 0;have hfz14_1:=bkF BK265.out 1;have hfz14_2:=bkF BK265.out 2;have hcz15_0 : w12.cell? ⟨gb266,0,none⟩ = some (.int .i64 a1_0):=(bkC BK266.out 0).trans rfl;have hcz15_1 : w12.cell? ⟨gb266,1,none⟩ = some (.int .i64 a1_1):=(bkC BK266.out 1).trans rfl;have hcz15_2 : w12.cell? ⟨gb266,2,none⟩ = some (.slice A1_2 l1_2.length c1_2):=(bkC BK266.out 2).trans rfl;have hfz15_0:=bkF BK266.out 0;have hfz15_1:=bkF BK266.out 1;have hfz15_2:=bkF BK266.out 2))
      go_ret
      exact⟨by first|rfl|(simp [errW_none,errW_some] <;> rfl)|(simp [*,errW_none,errW_some] <;> rfl),by repeat (with_reducible first|exact HB.out|apply bwA|apply bwN|apply bwD|refine bwS ?_ GE265.out|refine bwS ?_ GE266.out)⟩
  · rw [if_neg c3] at H
    have c3b0 : (a0_0 == a1_0) = false:=beq_eq_false_iff_ne.mpr c3
    have c3b1 : (a0_0 != a1_0) = true:=bne_iff_ne.mpr c3
    obtain rfl:=Option.some.inj H
    go_enter Try.func19,Try.ntmps19
    go_wp2_with (first|((with_reducible refine gate_dst (N:=2) rfl ?_);refine box_event ?hg (N:=2) ?hd (cs:=#[.int .i64 a0_0,.int .i64 a0_1,.slice A0_2 l0_2.length c0_2]) (t:=40) ?hr ?_;(case hd=>rfl);(case hg=>rfl);(case hr=>first|(go_simp;done)|(go_simp;rfl));intro gb265 hg w16 hbox hb;have n0_:=mkA (below_step (by repeat (with_reducible first|exact HB.out|apply bwA|apply bwN|apply bwD)) hb);have n1_:=mkA (hbox);have n2_:=mkA ((by rw [hg];exact(bwZ (by repeat (with_reducible first|exact HB.out|apply bwA|apply bwN|apply bwD))) : w.heap.size ≤ gb265));have n3_:=mkA ((by rw [hg];exact(bwZ (by repeat (with_reducible first|exact HB.out|apply bwA|apply bwN|apply bwD))) : w.heap.size ≤ gb265));clear HB;have HB:=n0_;have BK265:=n1_;have GW265:=n2_;have GE265:=n3_;clear n0_ n1_ n2_ n3_;clear hb hbox hg)|((with_reducible refine gate_dst (N:=3) rfl ?_);refine box_event ?hg (N:=3) ?hd (cs:=#[.int .i64 a1_0,.int .i64 a1_1,.slice A1_2 l1_2.length c1_2]) (t:=38) ?hr ?_;(case hd=>rfl);(case hg=>rfl);(case hr=>first|(go_simp;done)|(go_simp;rfl));intro gb266 hg w17 hbox hb;have n0_:=mkA (bkB (g:=gb265) (o:=.cells #[.int .i64 a0_0,.int .i64 a0_1,.slice A0_2 l0_2.length c0_2] 40 (0,0)) (by(with_reducible repeat first|apply bkN|apply bkD|apply bkA);exact BK265.out) hb);have n1_:=mkA (below_step (by repeat (with_reducible first|exact HB.out|apply bwA|apply bwN|apply bwD|refine bwS ?_ GE265.out)) hb);have n2_:=mkA (hbox);have n3_:=mkA ((by rw [hg];exact(bwZ (by repeat (with_reducible first|exact HB.out|apply bwA|apply bwN|apply bwD|refine bwS ?_ GE265.out))) : w.heap.size ≤ gb266));have n4_:=mkA ((by rw [hg];exact(bwZ (by repeat (with_reducible first|exact HB.out|apply bwA|apply bwN|apply bwD|refine bwS ?_ GE265.out))) : w.heap.size ≤ gb266));have n5_:=mkA ((by rw [hg];exact Nat.ne_of_lt (blk_lt (g:=gb265) (o:=.cells #[.int .i64 a0_0,.int .i64 a0_1,.slice A0_2 l0_2.length c0_2] 40 (0,0)) (by(with_reducible repeat first|apply bkN|apply bkD|apply bkA);exact BK265.out)) : gb265 ≠ gb266));have n6_:=mkA ((by rw [hg];exact Nat.ne_of_gt (blk_lt (g:=gb265) (o:=.cells #[.int .i64 a0_0,.int .i64 a0_1,.slice A0_2 l0_2.length c0_2] 40 (0,0)) (by(with_reducible repeat first|apply bkN|apply bkD|apply bkA);exact BK265.out)) : gb266 ≠ gb265));clear BK265;clear HB;have BK265:=n0_;have HB:=n1_;have BK266:=n2_;have GW266:=n3_;have GE266:=n4_;have NB265_266:=n5_;have NB266_265:=n6_;clear n0_ n1_ n2_ n3_ n4_ n5_ n6_;clear hb hbox hg;have hnb18:=NB265_266.out;have hnc18:=NB266_265.out;have hcz19_0 : w17.cell? ⟨gb265,0,none⟩ = some (.int .i64 a0_0):=(bkC BK265.out 0).trans rfl;have hcz19_1 : w17.cell? ⟨gb265,1,none⟩ = some (.int .i64 a0_1):=(bkC BK265.out 1).trans rfl;have hcz19_2 : w17.cell? ⟨gb265,2,none⟩ = some (.slice A0_2 l0_2.length c0_2):=(bkC BK265.out 2).trans rfl;have hfz19_0:=bkF BK265.out 0;have hfz19_1:=bkF BK265.out 1;have hfz19_2:=bkF BK265.out 2;have hcz20_0 : w17.cell? ⟨gb266,0,none⟩ = some (.int .i64 a1_0):=(bkC BK266.out 0).trans rfl;have hcz20_1 : w17.cell? ⟨gb266,1,none⟩ = some (.int .i64 a1_1):=(bkC BK266.out 1).trans rfl;have hcz20_2 : w17.cell? ⟨gb266,2,none⟩ = some (.slice A1_2 l1_2.length c1_2):=(bkC BK266.out 2).trans rfl;have hfz20_0:=bkF BK266.out 0;have hfz20_1:=bkF BK266.out 1;have hfz20_2:=bkF BK266.out 2))
    go_ret
    exact⟨by first|rfl|(simp [errW_none,errW_some] <;> rfl)|(simp [*,errW_none,errW_some] <;> rfl),by repeat (with_reducible first|exact HB.out|apply bwA|apply bwN|apply bwD|refine bwS ?_ GE265.out|refine bwS ?_ GE266.out)⟩
end Go.Proofs.Ytgglmibbbjallaa.T
