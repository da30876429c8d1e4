/- enter. extend. What an answer (prepared) makes of the machine. An answer that is heard. The deferred closure of Step: it gives the error of a panic. -/
import Derived.Defers
import Derived.Recover
import Derived.Test.YtojjnifbnppliaaQ04
import Derived.Test.YtojjnifbnppliaaQ06
section
namespace Go.Proofs.Ytojjnifbnppliaa.T
open Go.RowKit Go.Proofs.YtojjnifbnppliaaW.PrintWords Go.Proofs.YtojjnifbnppliaaW.PrintLast Go.Proofs.YtojjnifbnppliaaW.PrintMore
attribute [local go_sem] max2_int min2_int max_two min_two max_three min_three max_four min_four
set_option linter.unusedVariables false
set_option linter.unusedSimpArgs false
def beginM : Ms:={ kind:=3,fro:=0,dst:=0,view:=0,last:=0,prev:=0,log:=[],commit:=0,mat:=0 }
def viewS (s : St) (v : Int) : St:={ s with view:=v }
def elS (s : St) (v : Int) : St:={ s with elapsed:=v }
def e1S (s : St) (v : Int) : St:=drawS (elS (changeS (viewS s v)) 0)
def marksV (m : List Bool) (l : List Int) : List Bool:=l.foldl (fun m i=>m.set i.toNat true) m
def marksS (s : St) (l : List Int) : St:={ s with marks:=marksV s.marks l }
theorem marksV_len (l : List Int) : ∀ m : List Bool,(marksV m l).length = m.length:=by
  induction l with
  | nil=>intro m;rfl
  | cons a r ih=>intro m;show(marksV (m.set _ _) r).length = _;rw [ih,List.length_set]
theorem marksV_take (m : List Bool) (l : List Int) (k : Nat) (h : k < l.length) : marksV m (l.take (k + 1)) = (marksV m (l.take k)).set (rd l (k : Int)).toNat true:=by
  have hrd : rd l (k : Int) = l[k]:=by show l.getD _ _ = _;rw [Int.toNat_natCast,List.getD_eq_getElem?_getD,List.getElem?_eq_getElem h];rfl
  rw [hrd]
  unfold marksV
  rw [List.take_succ_eq_append_getElem h,List.foldl_append]
  rfl
def preR (ms : List Ms) (r : Except Int (St × List Ms)) : Except Int (St × List Ms):=match r with
  | .error c=>.error c
  | .ok y=>.ok (y.1,ms ++ y.2)
def enterR (s : St) (v : Int) (l : List Int) : Except Int (St × List Ms):=preR (tellAllM (e1S s v) beginM s.n.toNat) (lookR (marksS (e1S s v) l))
/-- What enter asks of the state. -/
structure EnterOk (s : St) : Prop where
  n : 1 ≤ s.n∧s.n ≤ 9
  id : 0 ≤ s.id∧s.id < s.n
  com : 0 ≤ s.commit∧s.commit ≤ s.log.length
  fl : FitsL s.log∧s.log.length ≤ 1000000
theorem EnterOk.look {s : St} (h : EnterOk s) (v : Int) (l : List Int) : LookOk (marksS (e1S s v) l) where
  n:=h.n
  id:=h.id
  com:=h.com
  fl:=h.fl
  bals:=fun hp=>by
    have e : (marksS (e1S s v) l).bals = List.replicate s.n.toNat z69:=by show(if primaryV s.id s.n v = true then _ else _) = _;exact if_pos hp
    rw [e]
    refine⟨by rw [List.length_replicate];have:=h.n;show((s.n.toNat : Nat) : Int) = s.n;omega,fun y hy=>?_⟩
    rw [(List.mem_replicate.1 hy).2]
    exact⟨⟨Nat.zero_le _,fun y hy=>by cases hy⟩,Nat.zero_le _⟩
set_option maxHeartbeats 8000000 in
set_option maxRecDepth 100000 in
theorem enter.mac (b gd : Nat) (P : Nat→Prop) (s : St) (out : List Ms) (v : Int) (A : Option Addr) (cA : Nat) (l : List Int) (w : World) (hM : Mac w b gd P s out) (hP : ∀ k,w.heap.size ≤ k→P k) (hg : ¬ P gd∧gd ≠ b) (hPb : ¬ P b) (hs : EnterOk s) (hlen : out.length ≤ 800) (hl : ∀ W,Keeps w W (fun k=>k = b∨P k)→Kd.C (Kd.int .i64) W A l.length l) (hll : l.length ≤ 9) (hx : ∀ i ∈ l,0 ≤ i∧i < s.n) :
    Calls Try.prog 45 #[.pointer (some ⟨b,0,none⟩),.int .i64 v,.slice A l.length cA] w fun e w'=>Keeps w w' (fun k=>k = b∨P k)∧EndsR (enterR s v l) e (fun s' ms=>Mac w' b gd P s' (out ++ ms)):=by
  have hM0:=hM
  obtain ⟨hgl,AL,cL,AM,cM,AK,cK,AB,cB,AD,cD,AO,cO,hb,_⟩:=hM0
  have hu29:=Try.underlying29
  have hu61:=Try.underlying61
  have hu26:=Try.underlying26
  have hu23:=Try.underlying23
  have hu37:=Try.underlying37
  have HQ:=Aside0.mk (And.intro hM (And.intro hP (And.intro hg (And.intro hPb (And.intro hs (And.intro hlen (And.intro hl (And.intro hll hx))))))))
  have x2 : w.cell? ⟨b,2,none⟩ = some (.int .i64 s.view):=(blk_cell hb 2).trans rfl
  have f2:=blk_frozen hb 2
  clear hM hP hg hPb hs hlen hb hl hll hx
  go_enter Try.func45,Try.ntmps45
  go_upto_region 5 with (first|(go_at_call 61;refine(change.mac b gd P (viewS s v) out _ (HQ.out.1.set_view HQ.out.2.2.1.2 v) (fun k hk=>HQ.out.2.1 k (by simpa using hk)) HQ.out.2.2.1 HQ.out.2.2.2.1 HQ.out.2.2.2.2.1.n HQ.out.2.2.2.2.1.id).mono ?_;rintro e w1 ⟨rfl,hk1,hm1⟩;have hm1':=hm1;obtain ⟨_,AL1,cL1,AM1,cM1,AK1,cK1,AB1,cB1,AD1,cD1,AO1,cO1,kb1,_⟩:=hm1';have y11 : w1.cell? ⟨b,11,none⟩ = some (.int .i64 s.elapsed):=(blk_cell kb1 11).trans rfl;have f11:=blk_frozen kb1 11;have H1:=Aside0.mk (And.intro hk1 hm1);clear hk1 hm1 kb1)|(go_at_call 18;refine(draw.mac b gd P (elS (changeS (viewS s v)) 0) out _ (H1.out.2.set_elapsed HQ.out.2.2.1.2 0) HQ.out.2.2.1.2 ⟨HQ.out.2.2.2.2.1.id.1,by have h1:=HQ.out.2.2.2.2.1.id.2;have h2:=HQ.out.2.2.2.2.1.n.2;show s.id < 9;omega⟩).mono ?_;rintro e w2 ⟨rfl,hk2,hm2⟩;have H2:=Aside0.mk (And.intro hk2 (hm2 HQ.out.2.2.2.1));clear hk2 hm2)|(go_at_call 62;refine(tellAll.mac b gd P (e1S s v) out beginM none 0 _ H2.out.2 (fun k hk=>HQ.out.2.1 k (by have h1:=H1.out.1.size;have h2:=H2.out.1.size;simp at h1 h2;omega)) HQ.out.2.2.1 HQ.out.2.2.2.2.1.n (Kd.C_nil _ _) ⟨Nat.zero_le _,fun y hy=>by cases hy⟩ (by have:=HQ.out.2.2.2.2.2.1;omega)).mono ?_;rintro e w3 ⟨rfl,hk3,hm3⟩;have H3:=Aside0.mk (And.intro hk3 hm3);clear hk3 hm3))
  have hlx : (viewS s v).n = s.n:=rfl
  have HW:=Aside0.mk (show Keeps w w3 (fun k=>k = b∨P k)∧Mac w3 b gd P (e1S s v) (out ++ tellAllM (e1S s v) beginM s.n.toNat)∧(∀ k,w3.heap.size ≤ k→P k) from⟨((((Keeps.fld 2 (.int .i64 v)).trans' H1.out.1 (fun k hk=>.inl hk)).setCell (p:=⟨b,11,none⟩) (.inl (.inl rfl)) _).trans' H2.out.1 (fun k hk=>.inl hk)).trans' H3.out.1 (fun k hk=>.inl hk),H3.out.2,fun k hk=>HQ.out.2.1 k (by have h1:=H1.out.1.size;have h2:=H2.out.1.size;have h3:=H3.out.1.size;simp at h1 h2;omega)⟩)
  have HS:=Aside0.mk (show(e1S s v).marks.length = s.n.toNat∧s.n = (s.n.toNat : Int) from⟨by show((List.replicate s.n.toNat false).set _ true).length = _;rw [List.length_set,List.length_replicate],by have:=HQ.out.2.2.2.2.1.n;omega⟩)
  have HL:=Aside0.mk (And.intro (HQ.out.2.2.2.2.2.2.1 w3 HW.out.1) HQ.out.2.2.2.2.2.2.2)
  have HQ2:=Aside0.mk (And.intro HQ.out.2.2.1 (And.intro HQ.out.2.2.2.1 (And.intro HQ.out.2.2.2.2.1 (And.intro HQ.out.2.2.2.2.2.1 HQ.out.2.2.2.2.2.2.1))))
  have HT:=Aside0.mk (tellAllM_len (e1S s v) beginM s.n.toNat)
  clear H1 H2 H3 y11 f11 x2 f2 HQ hlx
  go_wp2
  go_loopg [7,30] (l.length + 1) (fun gg _ s30 wr=>∃ kk : Nat,s30 = .int .i64 (kk : Int)∧Aside0 (kk ≤ l.length∧l.length - kk < gg∧Keeps w wr (fun k=>k = b∨P k)∧Mac wr b gd P (marksS (e1S s v) (l.take kk)) (out ++ tellAllM (e1S s v) beginM s.n.toNat)∧(∀ k,wr.heap.size ≤ k→P k)))
  case atStart=>exact⟨0,rfl,⟨Nat.zero_le _,by omega,HW.out.1,HW.out.2.1,HW.out.2.2⟩⟩
  case round =>
    obtain ⟨kk,rfl,A⟩:=hrel
    clear HW
    by_cases hlt : kk < l.length
    · have c1 : decide ((kk : Int) < (l.length : Int)) = true:=decide_eq_true (by omega)
      have hC:=HQ2.out.2.2.2.2 wr A.out.2.2.1
      obtain ⟨ad,e,hx0⟩:=Kd.at_int hC (kk : Int) (by omega) (by omega)
      cases e
      rw [Int.toNat_natCast] at hx0
      have p1 : (0 ≤ (kk : Int)) = True:=eq_true (by omega)
      have p2 : ((kk : Int) < (l.length : Int)) = True:=eq_true (by omega)
      have hmem : rd l (kk : Int) ∈ l:=by
        show l.getD _ _ ∈ l
        rw [Int.toNat_natCast,List.getD_eq_getElem?_getD,List.getElem?_eq_getElem hlt]
        exact List.getElem_mem hlt
      have hlen : (marksS (e1S s v) (l.take kk)).marks.length = s.n.toNat:=(marksV_len _ _).trans HS.out.1
      have hrx:=HL.out.2.2 _ hmem
      obtain ⟨g,cap,y8,xg0,fg,hPg,hgb,cont⟩:=A.out.2.2.2.1.marks_cell HQ2.out.1.1 HQ2.out.2.1 (rd l (kk : Int)) hrx.1 (by rw [hlen];have:=HS.out.2;omega)
      rw [hlen] at y8
      have i0 : (0 ≤ rd l (kk : Int)) = True:=eq_true hrx.1
      have i1 : (rd l (kk : Int) < (s.n.toNat : Int)) = True:=eq_true (by have:=HS.out.2;omega)
      obtain ⟨vb,xg⟩ : ∃ vb,wr.cell? ⟨g,(rd l (kk : Int)).toNat,none⟩ = some (.bool vb):=⟨_,xg0⟩
      have HT3:=Aside0.mk (show Keeps w (wr.setCell ⟨g,(rd l (kk : Int)).toNat,none⟩ (.bool true)) (fun k=>k = b∨P k)∧Mac (wr.setCell ⟨g,(rd l (kk : Int)).toNat,none⟩ (.bool true)) b gd P (marksS (e1S s v) (l.take (kk + 1))) (out ++ tellAllM (e1S s v) beginM s.n.toNat)∧(∀ k,(wr.setCell ⟨g,(rd l (kk : Int)).toNat,none⟩ (.bool true)).heap.size ≤ k→P k) from⟨A.out.2.2.1.setCell (p:=⟨g,_,none⟩) (.inl (.inr hPg)) _,by
        have:=cont true
        unfold marksS
        rw [marksV_take _ _ _ hlt]
        exact this,fun k hk=>A.out.2.2.2.2 k (by simpa using hk)⟩)
      have hw : wrap64 ((kk : Int) + 1) = ((kk + 1 : Nat) : Int):=by have:=HL.out.2.1;unfold wrap64;omega
      have hA:=Aside0.mk (And.intro A.out.1 (And.intro A.out.2.1 hlt))
      clear hC hmem hlen hrx xg0 hPg hgb cont hlt A
      generalize rd l (kk : Int) = ix at *
      obtain ⟨nn,hnn⟩ : ∃ nn,s.n.toNat = nn:=⟨_,rfl⟩
      rw [hnn] at y8 i1
      clear hnn
      go_wp2
      rw [hw]
      obtain ⟨gg,rfl⟩ : ∃ m,gk = m + 1:=⟨gk - 1,by have:=hA.out;omega⟩
      have hA:=hA.out
      go_roundg gg
      case measure=>omega
      case rel=>exact⟨kk + 1,rfl,⟨by omega,by omega,HT3.out.1,HT3.out.2.1,HT3.out.2.2⟩⟩
    · have c1 : decide ((kk : Int) < (l.length : Int)) = false:=decide_eq_false (by omega)
      have c1n : decide (kk < l.length) = false:=decide_eq_false hlt
      have e : l.take kk = l:=List.take_of_length_le (by omega)
      rw [e] at A
      have hlk0 : (out ++ tellAllM (e1S s v) beginM s.n.toNat).length ≤ 900:=by have:=HT.out;have h2:=HQ2.out.2.2.2.1;have h3:=HQ2.out.2.2.1.n;rw [List.length_append];omega
      have HLK:=Aside0.mk hlk0
      clear hlk0
      cases hr : lookR (marksS (e1S s v) l) with
      | error code =>
        have HR:=Aside0.mk hr
        clear hr
        go_wp2_with ((go_at_call 63;refine(look.mac b gd P (marksS (e1S s v) l) _ _ A.out.2.2.2.1 A.out.2.2.2.2 HQ2.out.1 HQ2.out.2.1 (HQ2.out.2.2.1.look v l) HLK.out).mono ?_;rw [HR.out];rintro e w6 ⟨hk6,he⟩;have H6:=Aside0.mk hk6;have he2 : e = .panicked [{ v:=.iface 30 (.int .i64 code),recovered:=false }]:=he;subst he2;clear hk6 he))
        unfold enterR
        rw [HR.out]
        exact⟨rfl,A.out.2.2.1.trans' H6.out (fun k hk=>.inl hk),rfl⟩
      | ok y =>
        have HR:=Aside0.mk hr
        clear hr
        go_wp2_with ((go_at_call 63;refine(look.mac b gd P (marksS (e1S s v) l) _ _ A.out.2.2.2.1 A.out.2.2.2.2 HQ2.out.1 HQ2.out.2.1 (HQ2.out.2.2.1.look v l) HLK.out).mono ?_;rw [HR.out];rintro e w6 ⟨hk6,he⟩;have H6:=Aside0.mk (And.intro hk6 he.2);have he2 : e = .returned (.tuple #[]):=he.1;subst he2;clear hk6 he))
        go_end0
        unfold enterR
        rw [HR.out]
        refine⟨A.out.2.2.1.trans' H6.out.1 (fun k hk=>.inl hk),rfl,?_⟩
        have:=H6.out.2
        show Mac _ b gd P y.1 (out ++ (tellAllM (e1S s v) beginM s.n.toNat ++ y.2))
        rw [← List.append_assoc]
        exact this
end Go.Proofs.Ytojjnifbnppliaa.T
end
section
namespace Go.Proofs.Ytojjnifbnppliaa.T
open Go.RowKit Go.Proofs.YtojjnifbnppliaaW.PrintWords Go.Proofs.YtojjnifbnppliaaW.PrintLast Go.Proofs.YtojjnifbnppliaaW.PrintMore
attribute [local go_sem] max2_int min2_int max_two min_two max_three min_three max_four min_four
set_option linter.unusedVariables false
set_option linter.unusedSimpArgs false
def extL (s : St) (x : Ms) : List (List Int):=if(s.log.length : Int) - x.prev < x.log.length then s.log ++ x.log.drop ((s.log.length : Int) - x.prev).toNat else s.log
def extS (s : St) (x : Ms) : St:={ s with log:=extL s x,commit:=max s.commit (min x.commit (extL s x).length) }
def extR (s : St) (x : Ms) : Except Int (St × List Ms):=if((extL s x).length : Int) > 512 then .error 51 else .ok (extS s x,[])
/-- What extend asks. -/
structure ExtOk (s : St) (x : Ms) : Prop where
  com : 0 ≤ s.commit∧s.commit ≤ s.log.length
  prev : 0 ≤ x.prev∧x.prev ≤ s.log.length
  len : s.log.length ≤ 512∧x.log.length ≤ 512
  fl : FitsL x.log
  bals : s.bals = []
theorem R_readsRow {α : Type} {d : Kd α} {e base n c : Nat} {ok : Nat→Prop} {w : World} {A : Option Addr} {xs : List α} (h : d.R e w base ok (.slice A n c) xs) : ReadsRow (d.M w base (fun k=>ok k∧some k ≠ (Value.slice A n c).ownBlock)) d.sz w A n xs:=by
  obtain ⟨A',c',hv,_,hrd⟩:=h.2.reads
  injection hv with e1 e2 e3
  subst e1
  subst e2
  exact hrd
/-- The log's row has grown; nothing else is read by it. -/
theorem Mac.grow {W w2 w3 : World} {b gd : Nat} {P : Nat→Prop} {s : St} {out : List Ms} (AL : Option Addr) (cL : Nat) (AM : Option Addr) (cM : Nat) (AK : Option Addr) (cK : Nat) (AB : Option Addr) (cB : Nat) (AD : Option Addr) (cD : Nat) (AO : Option Addr) (cO : Nat) (hgl : gd < W.heap.size) (hb : W.heap[b]? = some (.cells #[.int .i64 s.id,.int .i64 s.n,.int .i64 s.view,.int .i64 s.last,.int .i64 s.status,.slice AL s.log.length cL,.int .i64 s.commit,.slice AM s.mat.length cM,.slice AK s.marks.length cK,.bool s.sent,.slice AB s.bals.length cB,.int .i64 s.elapsed,.int .i64 s.timeout,.slice AD s.draws.length cD,.slice AO out.length cO] 61 (0,0))) (h1 : (Kd.slice 5 (Kd.int .u8)).R 22 W 0 P (.slice AL s.log.length cL) s.log) (h2 : (Kd.int .i64).R 3 W 0 P (.slice AM s.mat.length cM) s.mat) (h3 : Kd.bool.R 4 W 0 P (.slice AK s.marks.length cK) s.marks) (h4 : k69.R 69 W 0 P (.slice AB s.bals.length cB) s.bals) (h5 : kMs.R 37 W 0 P (.slice AO out.length cO) out) (h6 : s.draws.length ≤ cD) (h7 : Kd.F (Kd.int .i64) W (fun k=>k = gd) AD s.draws.length s.draws) (hbals : s.bals = []) (hout : out = []) (hg : ¬ P gd∧gd ≠ b) (hB : Below W.heap.size W w2) (hg3 : w2.grownBy w3 (Value.slice AL s.log.length cL).ownBlock) {A3 : Option Addr} {c3 : Nat} {l : List (List Int)} (ho : (Kd.slice 5 (Kd.int .u8)).R 22 w3 0 P (.slice A3 l.length c3) l) :
    w3.heap[b]? = some (.cells #[.int .i64 s.id,.int .i64 s.n,.int .i64 s.view,.int .i64 s.last,.int .i64 s.status,.slice AL s.log.length cL,.int .i64 s.commit,.slice AM s.mat.length cM,.slice AK s.marks.length cK,.bool s.sent,.slice AB s.bals.length cB,.int .i64 s.elapsed,.int .i64 s.timeout,.slice AD s.draws.length cD,.slice AO out.length cO] 61 (0,0))∧Mac (w3.setCell ⟨b,5,none⟩ (.slice A3 l.length c3)) b gd P { s with log:=l } out∧Keeps W (w3.setCell ⟨b,5,none⟩ (.slice A3 l.length c3)) (fun k=>k = b∨P k):=by
  have hKb:=blk_below hb hB
  have q1:=Kd.R_below h1 hB
  have hty:=Kd.R_typed q1
  have hnb:=Kd.R_ne q1 hKb (by decide)
  have hown : ∀ k,(Value.slice AL s.log.length cL).ownBlock = some k→P k:=h1.1
  have hgd : some gd ≠ (Value.slice AL s.log.length cL).ownBlock:=fun e=>hg.1 (hown gd e.symm)
  have m7:=blk_grown hKb hg3 hnb
  have m2:=Kd.R_over' (Kd.R_below h2 hB) hty (by decide) hg3
  have m3:=Kd.R_over' (Kd.R_below h3 hB) hty (by decide) hg3
  have m4:=R_over0 hbals (Kd.R_below h4 hB) (fun k hk e=>by obtain ⟨c,hc⟩:=Kd.R_typed (Kd.R_below h4 hB) k hk;obtain ⟨c',hc'⟩:=hty k e.symm;rw [hc] at hc';exact absurd hc' (by simp)) hg3
  have m5:=R_over0 hout (Kd.R_below h5 hB) (fun k hk e=>by obtain ⟨c,hc⟩:=Kd.R_typed (Kd.R_below h5 hB) k hk;obtain ⟨c',hc'⟩:=hty k e.symm;rw [hc] at hc';exact absurd hc' (by simp)) hg3
  have m6:=Kd.F_step h7 (fun k hk hl=>by subst hk;exact(hg3.block k (Nat.lt_of_lt_of_le hl hB.size) hgd).trans (hB.block k hl))
  refine⟨m7,⟨Nat.lt_of_lt_of_le (Nat.lt_of_lt_of_le hgl (Nat.le_trans hB.size hg3.size)) (by simp),A3,c3,AM,cM,AK,cK,AB,cB,AD,cD,AO,cO,blk_put m7 5 (.slice A3 l.length c3) rfl,Kd.R_set ho m7 (by decide) 5 _,Kd.R_set m2 m7 (by decide) 5 _,Kd.R_set m3 m7 (by decide) 5 _,Kd.R_set m4 m7 (by decide) 5 _,Kd.R_set m5 m7 (by decide) 5 _,h6,Kd.F_step m6 (fun k hk _=>Below.heap_setCell w3 _ _ k (by subst hk;exact hg.2))⟩,((Keeps.of_belows hB _).grown hg3 (fun k hk=>.inl (.inr (hown k hk)))).setCell (p:=⟨b,5,none⟩) (.inl (.inl rfl)) _⟩
set_option maxHeartbeats 8000000 in
set_option maxRecDepth 100000 in
theorem extend.mac (b gd : Nat) (P : Nat→Prop) (s : St) (out : List Ms) (x : Ms) (AX : Option Addr) (cX : Nat) (w : World) (hM : Mac w b gd P s out) (hP : ∀ k,w.heap.size ≤ k→P k) (hg : ¬ P gd∧gd ≠ b) (hPb : ¬ P b) (hs : ExtOk s x) (hout : out = []) (hX : ∀ W,Keeps w W (fun k=>k = b∨P k)→Kd.C (Kd.slice 5 (Kd.int .u8)) W AX x.log.length x.log) (hcX : x.log.length ≤ cX) :
    Calls Try.prog 65 #[.pointer (some ⟨b,0,none⟩),.agg #[.int .i64 x.kind,.int .i64 x.fro,.int .i64 x.dst,.int .i64 x.view,.int .i64 x.last,.int .i64 x.prev,.slice AX x.log.length cX,.int .i64 x.commit,.int .i64 x.mat]] w fun e w'=>Keeps w w' (fun k=>k = b∨P k)∧EndsR (extR s x) e (fun s' ms=>Mac w' b gd P s' (out ++ ms)):=by
  have hM0:=hM.box (.cells #[.int .i64 x.kind,.int .i64 x.fro,.int .i64 x.dst,.int .i64 x.view,.int .i64 x.last,.int .i64 x.prev,.slice AX x.log.length cX,.int .i64 x.commit,.int .i64 x.mat] 37)
  have kg:=heap_alloc_new w (.cells #[.int .i64 x.kind,.int .i64 x.fro,.int .i64 x.dst,.int .i64 x.view,.int .i64 x.last,.int .i64 x.prev,.slice AX x.log.length cX,.int .i64 x.commit,.int .i64 x.mat] 37)
  have HK0:=Aside0.mk (show Keeps w (w.alloc (.cells #[.int .i64 x.kind,.int .i64 x.fro,.int .i64 x.dst,.int .i64 x.view,.int .i64 x.last,.int .i64 x.prev,.slice AX x.log.length cX,.int .i64 x.commit,.int .i64 x.mat] 37)) (fun k=>k = b∨P k)∧b ≠ w.heap.size∧gd ≠ w.heap.size from⟨(Keeps.refl w _).alloc _,Nat.ne_of_lt hM.blt,Nat.ne_of_lt hM.gdlt⟩)
  have hu29:=Try.underlying29
  have hu25:=Try.underlying25
  have hu61:=Try.underlying61
  have hu37:=Try.underlying37
  have HQ:=Aside0.mk (And.intro hM0 (And.intro hP (And.intro hg (And.intro hPb (And.intro hs (And.intro hout (And.intro hX (And.intro kg hcX))))))))
  have hM1:=hM0
  obtain ⟨hgl,AL,cL,AM,cM,AK,cK,AB,cB,AD,cD,AO,cO,hb,_⟩:=hM1
  have x5 : (w.alloc (.cells #[.int .i64 x.kind,.int .i64 x.fro,.int .i64 x.dst,.int .i64 x.view,.int .i64 x.last,.int .i64 x.prev,.slice AX x.log.length cX,.int .i64 x.commit,.int .i64 x.mat] 37)).cell? ⟨b,5,none⟩ = some (.slice AL s.log.length cL):=(blk_cell hb 5).trans rfl
  have y5 : (w.alloc (.cells #[.int .i64 x.kind,.int .i64 x.fro,.int .i64 x.dst,.int .i64 x.view,.int .i64 x.last,.int .i64 x.prev,.slice AX x.log.length cX,.int .i64 x.commit,.int .i64 x.mat] 37)).cell? ⟨w.heap.size,5,none⟩ = some (.int .i64 x.prev):=(blk_cell kg 5).trans rfl
  have y6 : (w.alloc (.cells #[.int .i64 x.kind,.int .i64 x.fro,.int .i64 x.dst,.int .i64 x.view,.int .i64 x.last,.int .i64 x.prev,.slice AX x.log.length cX,.int .i64 x.commit,.int .i64 x.mat] 37)).cell? ⟨w.heap.size,6,none⟩ = some (.slice AX x.log.length cX):=(blk_cell kg 6).trans rfl
  obtain ⟨hv,hhv⟩ : ∃ hv : Int,(s.log.length : Int) - x.prev = hv:=⟨_,rfl⟩
  have hw : wrap64 ((s.log.length : Int) - x.prev) = hv:=by have:=hs.prev;have:=hs.len;unfold wrap64;omega
  have HV:=Aside0.mk (show hv = (s.log.length : Int) - x.prev∧0 ≤ hv∧hv ≤ 512 from by have:=hs.prev;have:=hs.len;omega)
  clear hM hM0 hP hg hPb hs hout hX kg hb hhv
  by_cases hlt : hv < (x.log.length : Int)
  · have c1 : decide (hv < (x.log.length : Int)) = true:=decide_eq_true hlt
    have HLT:=Aside0.mk hlt
    clear hlt
    go_enter Try.func65,Try.ntmps65
    go_upto_region 3 with (fail)
    go_quiet (fail)
    go_upto_region 3 with (fail)
    rw [hw]
    have HW:=Aside0.mk (show Keeps w ((w.alloc (.cells #[.int .i64 x.kind,.int .i64 x.fro,.int .i64 x.dst,.int .i64 x.view,.int .i64 x.last,.int .i64 x.prev,.slice AX x.log.length cX,.int .i64 x.commit,.int .i64 x.mat] 37)).drewN nq) (fun k=>k = b∨P k)∧Mac ((w.alloc (.cells #[.int .i64 x.kind,.int .i64 x.fro,.int .i64 x.dst,.int .i64 x.view,.int .i64 x.last,.int .i64 x.prev,.slice AX x.log.length cX,.int .i64 x.commit,.int .i64 x.mat] 37)).drewN nq) b gd (fun k=>P k∧k ≠ w.heap.size) s out∧(∀ k,((w.alloc (.cells #[.int .i64 x.kind,.int .i64 x.fro,.int .i64 x.dst,.int .i64 x.view,.int .i64 x.last,.int .i64 x.prev,.slice AX x.log.length cX,.int .i64 x.commit,.int .i64 x.mat] 37)).drewN nq).heap.size ≤ k→P k∧k ≠ w.heap.size)∧((w.alloc (.cells #[.int .i64 x.kind,.int .i64 x.fro,.int .i64 x.dst,.int .i64 x.view,.int .i64 x.last,.int .i64 x.prev,.slice AX x.log.length cX,.int .i64 x.commit,.int .i64 x.mat] 37)).drewN nq).heap[w.heap.size]? = some (.cells #[.int .i64 x.kind,.int .i64 x.fro,.int .i64 x.dst,.int .i64 x.view,.int .i64 x.last,.int .i64 x.prev,.slice AX x.log.length cX,.int .i64 x.commit,.int .i64 x.mat] 37 (0,0)) from⟨HK0.out.1.drewN nq,HQ.out.1.below (pw_below_drewN (Below.refl _ _) nq),fun k hk=>by simp at hk;exact⟨HQ.out.2.1 k (by omega),by omega⟩,blk_drewN HQ.out.2.2.2.2.2.2.2.1 nq⟩)
    clear x5 y5 y6 hgl
    generalize ((w.alloc (.cells #[.int .i64 x.kind,.int .i64 x.fro,.int .i64 x.dst,.int .i64 x.view,.int .i64 x.last,.int .i64 x.prev,.slice AX x.log.length cX,.int .i64 x.commit,.int .i64 x.mat] 37)).drewN nq) = W at *
    obtain ⟨hg0,AL1,cL1,AM1,cM1,AK1,cK1,AB1,cB1,AD1,cD1,AO1,cO1,kb,h1,h2,h3,h4,h5,h6,h7⟩:=HW.out.2.1
    have x5 : W.cell? ⟨b,5,none⟩ = some (.slice AL1 s.log.length cL1):=(blk_cell kb 5).trans rfl
    have f5:=blk_frozen kb 5
    have y6 : W.cell? ⟨w.heap.size,6,none⟩ = some (.slice AX x.log.length cX):=(blk_cell HW.out.2.2.2 6).trans rfl
    obtain ⟨i0,hi0,_,hsz,_⟩:=info_parts info22
    have hcut:=cut_from (P:=Try.prog) 25 22 .i64 Try.underlying25 hi0 1 hsz AX x.log.length cX hv HV.out.2.1 (by have:=HLT.out;omega)
    obtain ⟨ys,hys⟩ : ∃ ys,x.log.drop hv.toNat = ys:=⟨_,rfl⟩
    have hyl : x.log.length - hv.toNat = ys.length:=by rw [← hys,List.length_drop]
    obtain ⟨A9,hA9⟩ : ∃ A9,(if cX = hv.toNat then AX else AX.map (·.add (hv.toNat * 1))) = A9:=⟨_,rfl⟩
    obtain ⟨c9,hc9⟩ : ∃ c9,cX - hv.toNat = c9:=⟨_,rfl⟩
    rw [hyl,hA9,hc9] at hcut
    have HY:=Aside0.mk (show(∀ W',Keeps w W' (fun k=>k = b∨P k)→Kd.C (Kd.slice 5 (Kd.int .u8)) W' A9 ys.length ys)∧FitsL ys∧extL s x = s.log ++ ys∧ys.length ≤ 512 from⟨fun W' hk=>by
        have:=Kd.C_drop (m:=hv.toNat) (c:=cX) (HQ.out.2.2.2.2.2.2.1 W' hk) (by have:=HLT.out;omega) HQ.out.2.2.2.2.2.2.2.2
        rw [hys] at this
        rw [← hA9]
        exact this,⟨by have:=HQ.out.2.2.2.2.1.fl.1;omega,fun y hy=>HQ.out.2.2.2.2.1.fl.2 y (by rw [← hys] at hy;exact List.mem_of_mem_drop hy)⟩,by unfold extL;rw [← HV.out.1,if_pos HLT.out,hys],by have:=HQ.out.2.2.2.2.1.len;omega⟩)
    clear hyl hA9 hc9 hys hi0 hsz
    have ne1 : ¬ (b = w.heap.size):=HK0.out.2.1
    have ne2 : ¬ (w.heap.size = b):=fun e=>HK0.out.2.1 e.symm
    have HC:=Aside0.mk (And.intro h1 (And.intro kb (fun (w2 w3 : World) (hB : Below W.heap.size W w2) (hg3 : w2.grownBy w3 (Value.slice AL1 s.log.length cL1).ownBlock) (A3 : Option Addr) (c3 : Nat) (l : List (List Int)) (ho : (Kd.slice 5 (Kd.int .u8)).R 22 w3 0 (fun k=>P k∧k ≠ w.heap.size) (.slice A3 l.length c3) l)=>Mac.grow AL1 cL1 AM1 cM1 AK1 cK1 AB1 cB1 AD1 cD1 AO1 cO1 hg0 kb h1 h2 h3 h4 h5 h6 h7 HQ.out.2.2.2.2.1.bals HQ.out.2.2.2.2.2.1 ⟨fun h=>HQ.out.2.2.1.1 h.1,HQ.out.2.2.1.2⟩ hB hg3 ho)))
    clear kb h1 h2 h3 h4 h5 h6 h7 hg0
    refine regionC (fun i=>Cells (tbl [(5,[(⟨b,5,none⟩,.slice AL1 s.log.length cL1)]),(7,[(⟨w.heap.size,6,none⟩,.slice AX x.log.length cX)])] i)) (by kernel_rfl) ?_
    refine takeC 0 (by kernel_rfl) (fun _ _ _ h=>h) (Or.inl ⟨by rfl,fun W hS=>by dsimp only [opAt];go_simp;(try with_reducible rfl)⟩) trivial ?_
    simp only [opAt,Act.put,List.setIfInBounds_toArray,List.set_cons_zero,List.set_cons_succ]
    refine takeC 1 (by kernel_rfl) (fun _ _ _ h=>h) (Or.inl ⟨by rfl,fun W hS=>by dsimp only [opAt];go_simp;(try with_reducible rfl)⟩) trivial ?_
    simp only [opAt,Act.put,List.setIfInBounds_toArray,List.set_cons_zero,List.set_cons_succ]
    refine takeC 2 (by kernel_rfl) (fun _ _ _ h=>h) (Or.inl ⟨by rfl,fun W hS=>by dsimp only [opAt];go_simp;(try with_reducible rfl)⟩) trivial ?_
    simp only [opAt,Act.put,List.setIfInBounds_toArray,List.set_cons_zero,List.set_cons_succ]
    refine takeC 3 (by kernel_rfl) (fun _ _ _ h=>h) (Or.inl ⟨by rfl,fun W hS=>by dsimp only [opAt];go_simp;(try with_reducible rfl)⟩) trivial ?_
    simp only [opAt,Act.put,List.setIfInBounds_toArray,List.set_cons_zero,List.set_cons_succ]
    refine takeC 4 (by kernel_rfl) (fun _ _ _ h=>h) (Or.inl ⟨by rfl,fun W hS=>by dsimp only [opAt];go_simp;(try with_reducible rfl)⟩) trivial ?_
    simp only [opAt,Act.put,List.setIfInBounds_toArray,List.set_cons_zero,List.set_cons_succ]
    refine takeC 5 (by kernel_rfl) (fun _ _ _ h=>h) (Or.inl ⟨by rfl,fun W hS=>by obtain ⟨h0,_⟩:=hS;dsimp only [opAt];dsimp only at h0;go_simp;(try with_reducible rfl)⟩) ⟨x5,trivial⟩ ?_
    simp only [opAt,Act.put,List.setIfInBounds_toArray,List.set_cons_zero,List.set_cons_succ]
    refine takeC 6 (by kernel_rfl) (fun _ _ _ h=>h) (Or.inl ⟨by rfl,fun W hS=>by dsimp only [opAt];go_simp;(try with_reducible rfl)⟩) trivial ?_
    simp only [opAt,Act.put,List.setIfInBounds_toArray,List.set_cons_zero,List.set_cons_succ]
    refine takeC 7 (by kernel_rfl) (fun _ _ _ h=>h) (Or.inl ⟨by rfl,fun W hS=>by obtain ⟨h0,_⟩:=hS;dsimp only [opAt];dsimp only at h0;go_simp;(try with_reducible rfl)⟩) ⟨y6,trivial⟩ ?_
    simp only [opAt,Act.put,List.setIfInBounds_toArray,List.set_cons_zero,List.set_cons_succ]
    refine takeC 8 (by kernel_rfl) (fun _ _ _ h=>h) (Or.inl ⟨by rfl,fun W hS=>by dsimp only [opAt];go_simp;(try with_reducible rfl)⟩) trivial ?_
    simp only [opAt,Act.put,List.setIfInBounds_toArray,List.set_cons_zero,List.set_cons_succ]
    refine takeC 9 (by kernel_rfl) (fun _ _ _ h=>h) (Or.inl ⟨by rfl,fun W hS=>by dsimp only [opAt];go_simp;(try with_reducible rfl)⟩) trivial ?_
    simp only [opAt,Act.put,List.setIfInBounds_toArray,List.set_cons_zero,List.set_cons_succ]
    refine actC 10 (by kernel_rfl) rfl (fun K hK=>?_)
    dsimp only [opAt]
    refine wc_ Try.func41 (by kernel_rfl) rfl #[.slice A9 ys.length c9] rfl (by simp only [List.map_toArray,List.map_cons,List.map_nil,Act.eval];rfl) ((cloneLog.calls A9 c9 ys _ (HY.out.1 _ HW.out.1.drew) HY.out.2.1.1 HY.out.2.1.2).mono ?_)
    rintro e w2 ⟨v,rfl,hR2,hb2⟩
    obtain ⟨A2,c2,rfl⟩:=Kd.R_slice hR2
    refine⟨_,rfl,hK _ _ (presB hb2) ?_⟩
    clear hK K
    simp only [opAt,Act.put,List.setIfInBounds_toArray,List.set_cons_zero,List.set_cons_succ]
    have g6:=(hb2.cell (World.block_lt_of_cell? _ _ y6)).trans y6
    have kb2:=blk_below (blk_drew HC.out.2.1) hb2
    have q5 : w2.cell? ⟨b,5,none⟩ = some (.slice AL1 s.log.length cL1):=(blk_cell kb2 5).trans rfl
    have kg2:=blk_below (blk_drew HW.out.2.2.2) hb2
    have hb2':=(below_drew (Below.refl W.heap.size W)).trans hb2
    have HR3:=Kd.R_mono (Kd.R_lower (Kd.R_bound hR2) (Nat.zero_le _)) (ok':=fun k=>W.heap.size ≤ k) (fun k hk=>by have:=hk.2.1;simpa using this)
    have hrd:=R_readsRow HR3
    have C2:=Aside0.mk (And.intro hrd (And.intro hb2' (And.intro kg2 (Kd.R_below HC.out.1 hb2'))))
    clear hR2 hb2 kb2 kg2 hb2' HR3 hrd
    refine actC 11 (by kernel_rfl) rfl (fun K hK=>?_)
    dsimp only [opAt]
    refine unif rfl (Kd.R_append_rows_step (Kd.slice 5 (Kd.int .u8)) (Rr:=(Kd.slice 5 (Kd.int .u8)).M w2 0 (fun k=>W.heap.size ≤ k∧some k ≠ (Value.slice A2 ys.length c2).ownBlock)) (w0:=w2) 0 (by rfl) (.tmp 24) (.tmp 29) 25 22 (.slice none 0 0) 24 (by rfl) Try.underlying25 info22 rfl (by decide) (by omega) (.slice AL1 s.log.length cL1) s.log ys A2 ys.length c2 (fun k=>P k∧k ≠ w.heap.size) (fun k=>W.heap.size ≤ k∧some k ≠ (Value.slice A2 ys.length c2).ownBlock) (by rfl) (by rfl) C2.out.2.2.2 C2.out.1 (fun _ _ h=>h) (fun k hk=>⟨HW.out.2.2.1 k hk.1,fun e=>by have h1:=Kd.R_lt HC.out.1 k e.symm;have h2:=hk.1;omega⟩) (fun k hk=>HW.out.2.2.1 k (Nat.le_trans C2.out.2.1.size hk)) (Below.refl _ _) (Nat.zero_le _) (by have:=HY.out.2.2.2;have:=HQ.out.2.2.2.2.1.len;omega) ?_)
    intro v1 w3 ho hb3 hg3 hat
    obtain ⟨A3,c3,rfl⟩:=Kd.R_slice ho
    have hgr:=HC.out.2.2 w2 w3 C2.out.2.1 hg3 A3 c3 _ ho
    have kb3:=hgr.1
    have r5 : w3.cell? ⟨b,5,none⟩ = some (.slice AL1 s.log.length cL1):=(blk_cell kb3 5).trans rfl
    have l5:=blk_frozen kb3 5
    have kg3:=blk_grown C2.out.2.2.1 hg3 (fun e=>(C2.out.2.2.2.1 _ e.symm).2 rfl)
    have r6 : w3.cell? ⟨w.heap.size,6,none⟩ = some (.slice AX x.log.length cX):=(blk_cell kg3 6).trans rfl
    have G3:=Aside0.mk (And.intro hgr.2.1 (And.intro hgr.2.2 (And.intro kg3 ho)))
    clear ho hb3 hg3 hat hgr kb3 kg3
    refine hK _ _ (presA ⟨⟨r5,trivial⟩,⟨r6,trivial⟩,trivial⟩) ?_
    clear hK K
    simp only [opAt,Act.put,List.setIfInBounds_toArray,List.set_cons_zero,List.set_cons_succ]
    refine takeC 12 (by kernel_rfl) (fun _ _ _ h=>h) (Or.inl ⟨by rfl,fun W hS=>by dsimp only [opAt];go_simp;(try with_reducible rfl)⟩) trivial ?_
    simp only [opAt,Act.put,List.setIfInBounds_toArray,List.set_cons_zero,List.set_cons_succ]
    refine takeC 13 (by kernel_rfl) (fun _ _ _ h=>h) (Or.inl ⟨by rfl,fun W hS=>by dsimp only [opAt];go_simp;(try with_reducible rfl)⟩) trivial ?_
    simp only [opAt,Act.put,List.setIfInBounds_toArray,List.set_cons_zero,List.set_cons_succ]
    refine takeC 14 (by kernel_rfl) (fun _ _ _ h=>h) (Or.inl ⟨by rfl,fun W hS=>by dsimp only [opAt];go_simp;(try with_reducible rfl)⟩) trivial ?_
    simp only [opAt,Act.put,List.setIfInBounds_toArray,List.set_cons_zero,List.set_cons_succ]
    refine actC 15 (by kernel_rfl) rfl (fun K hK=>?_)
    dsimp only [opAt]
    refine ws_ (w1:=w3.setCell ⟨b,5,none⟩ (.slice A3 (s.log.length + ys.length) c3)) (by go_simp) (hK _ _ (presW (by kernel_rfl)) ?_)
    clear hK K
    simp only [opAt,Act.put,List.setIfInBounds_toArray,List.set_cons_zero,List.set_cons_succ]
    refine doneC (by kernel_rfl) ?_ _
    have eL : (s.log ++ ys).length = s.log.length + ys.length:=List.length_append
    have HZ:=Aside0.mk (show Keeps w (w3.setCell ⟨b,5,none⟩ (.slice A3 (s.log.length + ys.length) c3)) (fun k=>k = b∨P k)∧Mac (w3.setCell ⟨b,5,none⟩ (.slice A3 (s.log.length + ys.length) c3)) b gd (fun k=>P k∧k ≠ w.heap.size) { s with log:=extL s x } out∧(w3.setCell ⟨b,5,none⟩ (.slice A3 (s.log.length + ys.length) c3)).heap[w.heap.size]? = some (.cells #[.int .i64 x.kind,.int .i64 x.fro,.int .i64 x.dst,.int .i64 x.view,.int .i64 x.last,.int .i64 x.prev,.slice AX x.log.length cX,.int .i64 x.commit,.int .i64 x.mat] 37 (0,0)) from by
      obtain ⟨m1,m2,m3,_⟩:=G3.out
      rw [eL] at m1 m2
      rw [HY.out.2.2.1]
      exact⟨HW.out.1.trans' m2 (fun k hk=>.inl (hk.imp id (fun h=>h.1))),m1,blk_far m3 (p:=⟨b,5,none⟩) ne2 _⟩)
    clear eL G3 C2 HC HW HY hcut ne1 ne2 x5 f5 y6 g6 q5 r5 l5 r6
    obtain ⟨lx,hlx⟩ : ∃ lx,extL s x = lx:=⟨_,rfl⟩
    have LX:=Aside0.mk hlx
    rw [hlx] at HZ
    clear hlx
    generalize w3.setCell ⟨b,5,none⟩ (.slice A3 (s.log.length + ys.length) c3) = W4 at *
    obtain ⟨_,AL4,cL4,AM4,cM4,AK4,cK4,AB4,cB4,AD4,cD4,AO4,cO4,kb,_⟩:=HZ.out.2.1
    have x5 : W4.cell? ⟨b,5,none⟩ = some (.slice AL4 lx.length cL4):=(blk_cell kb 5).trans rfl
    have x6 : W4.cell? ⟨b,6,none⟩ = some (.int .i64 s.commit):=(blk_cell kb 6).trans rfl
    have f6:=blk_frozen kb 6
    have y7 : W4.cell? ⟨w.heap.size,7,none⟩ = some (.int .i64 x.commit):=(blk_cell HZ.out.2.2 7).trans rfl
    clear kb
    by_cases hbig : 512 < lx.length
    · have d1 : decide (512 < (lx.length : Int)) = true:=decide_eq_true (by omega)
      have d2 : decide (512 < lx.length) = true:=decide_eq_true hbig
      have e : extR s x = .error 51:=by unfold extR;rw [LX.out,if_pos (by omega)]
      have E:=Aside0.mk e
      clear e hbig
      go_wp2_with (go_at_call_of 44 (Value.bool true);refine(fail_bad.calls _ _ _).mono ?_;rintro e w' ⟨rfl,rfl⟩)
      rw [E.out]
      exact⟨rfl,HZ.out.1,rfl⟩
    · have d1 : decide (512 < (lx.length : Int)) = false:=decide_eq_false (by omega)
      have d2 : decide (512 < lx.length) = false:=decide_eq_false hbig
      obtain ⟨mm,hmm⟩ : ∃ mm : Int,(if(lx.length : Int) < x.commit then(lx.length : Int) else x.commit) = mm:=⟨_,rfl⟩
      obtain ⟨mx,hmx⟩ : ∃ mx : Int,(if s.commit < mm then mm else s.commit) = mx:=⟨_,rfl⟩
      have HMX:=Aside0.mk (show max s.commit (min x.commit (lx.length : Int)) = mx from by rw [← hmx,← hmm];split <;> split <;> omega)
      have e : extR s x = .ok ({ s with log:=lx,commit:=mx },[]):=by unfold extR extS;rw [LX.out,if_neg (by omega),HMX.out]
      have E:=Aside0.mk e
      clear e hbig
      go_upto_region 5 with (go_at_call_of 44 (Value.bool false);refine(fail_ok.calls _ _ _).mono ?_;rintro e w' ⟨rfl,hw'⟩;have hw':=hw'.symm;subst hw')
      go_still_tail 19,(by kernel_rfl)
      change wpList _ _ _ _ _ W4.drew
      go_wp2
      go_end0
      rw [E.out]
      refine⟨HZ.out.1.drew.setCell (p:=⟨b,6,none⟩) (.inl (.inl rfl)) _,rfl,?_⟩
      show Mac _ b gd P { s with log:=lx,commit:=mx } (out ++ [])
      rw [List.append_nil]
      exact((HZ.out.2.1.below (below_drew (Below.refl _ _))).set_commit HQ.out.2.2.1.2 mx).mono (fun k hk=>hk.1)
  · have c1 : decide (hv < (x.log.length : Int)) = false:=decide_eq_false hlt
    have HLT:=Aside0.mk hlt
    clear hlt
    go_enter Try.func65,Try.ntmps65
    go_upto_region 3 with (fail)
    go_quiet (fail)
    go_upto_region 4 with (fail)
    rw [hw]
    have HZ:=Aside0.mk (show Keeps w ((w.alloc (.cells #[.int .i64 x.kind,.int .i64 x.fro,.int .i64 x.dst,.int .i64 x.view,.int .i64 x.last,.int .i64 x.prev,.slice AX x.log.length cX,.int .i64 x.commit,.int .i64 x.mat] 37)).drewN nq) (fun k=>k = b∨P k)∧Mac ((w.alloc (.cells #[.int .i64 x.kind,.int .i64 x.fro,.int .i64 x.dst,.int .i64 x.view,.int .i64 x.last,.int .i64 x.prev,.slice AX x.log.length cX,.int .i64 x.commit,.int .i64 x.mat] 37)).drewN nq) b gd (fun k=>P k∧k ≠ w.heap.size) { s with log:=extL s x } out∧((w.alloc (.cells #[.int .i64 x.kind,.int .i64 x.fro,.int .i64 x.dst,.int .i64 x.view,.int .i64 x.last,.int .i64 x.prev,.slice AX x.log.length cX,.int .i64 x.commit,.int .i64 x.mat] 37)).drewN nq).heap[w.heap.size]? = some (.cells #[.int .i64 x.kind,.int .i64 x.fro,.int .i64 x.dst,.int .i64 x.view,.int .i64 x.last,.int .i64 x.prev,.slice AX x.log.length cX,.int .i64 x.commit,.int .i64 x.mat] 37 (0,0)) from⟨HK0.out.1.drewN nq,by
      have e : extL s x = s.log:=by unfold extL;rw [← HV.out.1,if_neg (by have:=HLT.out;omega)]
      rw [e]
      exact HQ.out.1.below (pw_below_drewN (Below.refl _ _) nq),blk_drewN HQ.out.2.2.2.2.2.2.2.1 nq⟩)
    clear x5 y5 y6 hgl
    obtain ⟨lx,hlx⟩ : ∃ lx,extL s x = lx:=⟨_,rfl⟩
    have LX:=Aside0.mk hlx
    rw [hlx] at HZ
    clear hlx
    generalize (w.alloc (.cells #[.int .i64 x.kind,.int .i64 x.fro,.int .i64 x.dst,.int .i64 x.view,.int .i64 x.last,.int .i64 x.prev,.slice AX x.log.length cX,.int .i64 x.commit,.int .i64 x.mat] 37)).drewN nq = W4 at *
    obtain ⟨_,AL4,cL4,AM4,cM4,AK4,cK4,AB4,cB4,AD4,cD4,AO4,cO4,kb,_⟩:=HZ.out.2.1
    have x5 : W4.cell? ⟨b,5,none⟩ = some (.slice AL4 lx.length cL4):=(blk_cell kb 5).trans rfl
    have x6 : W4.cell? ⟨b,6,none⟩ = some (.int .i64 s.commit):=(blk_cell kb 6).trans rfl
    have f6:=blk_frozen kb 6
    have y7 : W4.cell? ⟨w.heap.size,7,none⟩ = some (.int .i64 x.commit):=(blk_cell HZ.out.2.2 7).trans rfl
    clear kb
    by_cases hbig : 512 < lx.length
    · have d1 : decide (512 < (lx.length : Int)) = true:=decide_eq_true (by omega)
      have d2 : decide (512 < lx.length) = true:=decide_eq_true hbig
      have e : extR s x = .error 51:=by unfold extR;rw [LX.out,if_pos (by omega)]
      have E:=Aside0.mk e
      clear e hbig
      go_wp2_with (go_at_call_of 44 (Value.bool true);refine(fail_bad.calls _ _ _).mono ?_;rintro e w' ⟨rfl,rfl⟩)
      rw [E.out]
      exact⟨rfl,HZ.out.1,rfl⟩
    · have d1 : decide (512 < (lx.length : Int)) = false:=decide_eq_false (by omega)
      have d2 : decide (512 < lx.length) = false:=decide_eq_false hbig
      obtain ⟨mm,hmm⟩ : ∃ mm : Int,(if(lx.length : Int) < x.commit then(lx.length : Int) else x.commit) = mm:=⟨_,rfl⟩
      obtain ⟨mx,hmx⟩ : ∃ mx : Int,(if s.commit < mm then mm else s.commit) = mx:=⟨_,rfl⟩
      have HMX:=Aside0.mk (show max s.commit (min x.commit (lx.length : Int)) = mx from by rw [← hmx,← hmm];split <;> split <;> omega)
      have e : extR s x = .ok ({ s with log:=lx,commit:=mx },[]):=by unfold extR extS;rw [LX.out,if_neg (by omega),HMX.out]
      have E:=Aside0.mk e
      clear e hbig
      go_upto_region 5 with (go_at_call_of 44 (Value.bool false);refine(fail_ok.calls _ _ _).mono ?_;rintro e w' ⟨rfl,hw'⟩;have hw':=hw'.symm;subst hw')
      go_still_tail 19,(by kernel_rfl)
      change wpList _ _ _ _ _ W4.drew
      go_wp2
      go_end0
      rw [E.out]
      refine⟨HZ.out.1.drew.setCell (p:=⟨b,6,none⟩) (.inl (.inl rfl)) _,rfl,?_⟩
      show Mac _ b gd P { s with log:=lx,commit:=mx } (out ++ [])
      rw [List.append_nil]
      exact((HZ.out.2.1.below (below_drew (Below.refl _ _))).set_commit HQ.out.2.2.1.2 mx).mono (fun k hk=>hk.1)
end Go.Proofs.Ytojjnifbnppliaa.T
end
section
namespace Go.Proofs.Ytojjnifbnppliaa.T
open Go.RowKit Go.Proofs.YtojjnifbnppliaaW.PrintWords Go.Proofs.YtojjnifbnppliaaW.PrintLast Go.Proofs.YtojjnifbnppliaaW.PrintMore
attribute [local go_sem] max2_int min2_int max_two min_two max_three min_three max_four min_four
set_option linter.unusedVariables false
set_option linter.unusedSimpArgs false
def prepM (s : St) (x : Ms) : List Int:=s.mat.set x.fro.toNat (max (s.mat.getD x.fro.toNat 0) x.mat)
def prepS (s : St) (x : Ms) : St:=if hereV s.status s.view x.view = true∧leadsV s.id s.n s.view s.status = true then { s with mat:=prepM s x,commit:=agreeV s.n (prepM s x) s.log.length s.commit } else s
def prepE (s : St) (x : Ms) : Option Int:=if hereV s.status s.view x.view = true∧leadsV s.id s.n s.view s.status = true then(if x.mat > s.log.length then some 4 else none) else none
set_option maxHeartbeats 8000000 in
set_option maxRecDepth 100000 in
theorem onPrepared.calls (b gd : Nat) (P : Nat→Prop) (s : St) (out : List Ms) (x : Ms) (AX : Option Addr) (cX : Nat) (w : World) (hM : Mac w b gd P s out) (hP : ∀ k,w.heap.size ≤ k→P k) (hg : ¬ P gd∧gd ≠ b) (hk : Okm s) (hx : 0 ≤ x.fro∧x.fro < s.n) :
    Calls Try.prog 48 #[.pointer (some ⟨b,0,none⟩),.agg #[.int .i64 x.kind,.int .i64 x.fro,.int .i64 x.dst,.int .i64 x.view,.int .i64 x.last,.int .i64 x.prev,.slice AX x.log.length cX,.int .i64 x.commit,.int .i64 x.mat]] w fun e w'=>Keeps w w' (fun k=>k = b∨P k)∧Ends (prepE s x) e (Mac w' b gd P (prepS s x) out):=by
  have hM0:=hM
  obtain ⟨hgl,AL,cL,AM,cM,AK,cK,AB,cB,AD,cD,AO,cO,hb,h1,h2,h3,h4,h5,h6,h7⟩:=hM
  have hu:=Try.underlying37
  have hu61:=Try.underlying61
  have hu29:=Try.underlying29
  have hu25:=Try.underlying25
  have hu23:=Try.underlying23
  have hlb : b < w.heap.size:=blk_lt hb
  have hn0 : s.n ≠ 0:=by have:=hk.n;omega
  have HK:=Aside0.mk (blk_alloc hb (.cells #[.int .i64 x.kind,.int .i64 x.fro,.int .i64 x.dst,.int .i64 x.view,.int .i64 x.last,.int .i64 x.prev,.slice AX x.log.length cX,.int .i64 x.commit,.int .i64 x.mat] 37))
  have HBX:=Aside0.mk (heap_alloc_new w (.cells #[.int .i64 x.kind,.int .i64 x.fro,.int .i64 x.dst,.int .i64 x.view,.int .i64 x.last,.int .i64 x.prev,.slice AX x.log.length cX,.int .i64 x.commit,.int .i64 x.mat] 37))
  have HQ:=Aside0.mk (And.intro hP (And.intro hg (And.intro hgl (And.intro hlb (And.intro hk hx)))))
  have HKP:=Aside0.mk (Keeps.alloc (Keeps.refl w (fun k=>k = b∨P k)) (.cells #[.int .i64 x.kind,.int .i64 x.fro,.int .i64 x.dst,.int .i64 x.view,.int .i64 x.last,.int .i64 x.prev,.slice AX x.log.length cX,.int .i64 x.commit,.int .i64 x.mat] 37))
  have HM0:=Aside0.mk (hM0.below (below_alloc (Below.refl _ _) (.cells #[.int .i64 x.kind,.int .i64 x.fro,.int .i64 x.dst,.int .i64 x.view,.int .i64 x.last,.int .i64 x.prev,.slice AX x.log.length cX,.int .i64 x.commit,.int .i64 x.mat] 37)))
  have HBW:=Aside0.mk (below_alloc (Below.refl w.heap.size w) (.cells #[.int .i64 x.kind,.int .i64 x.fro,.int .i64 x.dst,.int .i64 x.view,.int .i64 x.last,.int .i64 x.prev,.slice AX x.log.length cX,.int .i64 x.commit,.int .i64 x.mat] 37))
  have HR:=Aside0.mk (And.intro h1 (And.intro h2 (And.intro h3 (And.intro h4 (And.intro h5 (And.intro h6 h7))))))
  clear h1 h2 h3 h4 h5 h6 h7 hP hg hgl hk hx hM0
  have x0 : (w.alloc (.cells #[.int .i64 x.kind,.int .i64 x.fro,.int .i64 x.dst,.int .i64 x.view,.int .i64 x.last,.int .i64 x.prev,.slice AX x.log.length cX,.int .i64 x.commit,.int .i64 x.mat] 37)).cell? ⟨b,0,none⟩ = some (.int .i64 s.id):=(blk_cell HK.out 0).trans rfl
  have x1 : (w.alloc (.cells #[.int .i64 x.kind,.int .i64 x.fro,.int .i64 x.dst,.int .i64 x.view,.int .i64 x.last,.int .i64 x.prev,.slice AX x.log.length cX,.int .i64 x.commit,.int .i64 x.mat] 37)).cell? ⟨b,1,none⟩ = some (.int .i64 s.n):=(blk_cell HK.out 1).trans rfl
  have x2 : (w.alloc (.cells #[.int .i64 x.kind,.int .i64 x.fro,.int .i64 x.dst,.int .i64 x.view,.int .i64 x.last,.int .i64 x.prev,.slice AX x.log.length cX,.int .i64 x.commit,.int .i64 x.mat] 37)).cell? ⟨b,2,none⟩ = some (.int .i64 s.view):=(blk_cell HK.out 2).trans rfl
  have x4 : (w.alloc (.cells #[.int .i64 x.kind,.int .i64 x.fro,.int .i64 x.dst,.int .i64 x.view,.int .i64 x.last,.int .i64 x.prev,.slice AX x.log.length cX,.int .i64 x.commit,.int .i64 x.mat] 37)).cell? ⟨b,4,none⟩ = some (.int .i64 s.status):=(blk_cell HK.out 4).trans rfl
  clear hb hlb
  cases hh : hereV s.status s.view x.view with
  | false =>
    have e : prepE s x = none:=by unfold prepE;rw [if_neg (fun h=>by rw [hh] at h;exact absurd h.1 (by simp))]
    have e2 : prepS s x = s:=by unfold prepS;rw [if_neg (fun h=>by rw [hh] at h;exact absurd h.1 (by simp))]
    rw [e,e2]
    clear e e2
    go_enter Try.func48,Try.ntmps48
    go_wp2_with (first|(go_at_call 64;refine(here.calls b s.status s.view x (.int .i64 0) _ x2 x4 AX cX).mono ?_;rw [hh];rintro e w1 ⟨rfl,hb1⟩;replace HKP:=Aside0.mk (HKP.out.below hb1);replace HK:=Aside0.mk (blk_below HK.out hb1);replace HBX:=Aside0.mk (blk_below HBX.out hb1);replace HM0:=Aside0.mk (HM0.out.below hb1);replace HBW:=Aside0.mk (HBW.out.trans (hb1.mono HBW.out.size));clear hb1;replace x0 : w1.cell? ⟨b,0,none⟩ = some (.int .i64 s.id):=(blk_cell HK.out 0).trans rfl;replace x1 : w1.cell? ⟨b,1,none⟩ = some (.int .i64 s.n):=(blk_cell HK.out 1).trans rfl;replace x2 : w1.cell? ⟨b,2,none⟩ = some (.int .i64 s.view):=(blk_cell HK.out 2).trans rfl;replace x4 : w1.cell? ⟨b,4,none⟩ = some (.int .i64 s.status):=(blk_cell HK.out 4).trans rfl))
    (first|go_end0|refine bodyPost_ret (results_none rfl _ _ _) rfl ?_)
    exact⟨HKP.out,rfl,HM0.out⟩
  | true =>
    cases hl : leadsV s.id s.n s.view s.status with
    | false =>
      have e : prepE s x = none:=by unfold prepE;rw [if_neg (fun h=>by rw [hl] at h;exact absurd h.2 (by simp))]
      have e2 : prepS s x = s:=by unfold prepS;rw [if_neg (fun h=>by rw [hl] at h;exact absurd h.2 (by simp))]
      rw [e,e2]
      clear e e2
      go_enter Try.func48,Try.ntmps48
      go_wp2_with (first|(go_at_call 64;refine(here.calls b s.status s.view x (.int .i64 0) _ x2 x4 AX cX).mono ?_;rw [hh];rintro e w1 ⟨rfl,hb1⟩;replace HKP:=Aside0.mk (HKP.out.below hb1);replace HK:=Aside0.mk (blk_below HK.out hb1);replace HBX:=Aside0.mk (blk_below HBX.out hb1);replace HM0:=Aside0.mk (HM0.out.below hb1);replace HBW:=Aside0.mk (HBW.out.trans (hb1.mono HBW.out.size));clear hb1;replace x0 : w1.cell? ⟨b,0,none⟩ = some (.int .i64 s.id):=(blk_cell HK.out 0).trans rfl;replace x1 : w1.cell? ⟨b,1,none⟩ = some (.int .i64 s.n):=(blk_cell HK.out 1).trans rfl;replace x2 : w1.cell? ⟨b,2,none⟩ = some (.int .i64 s.view):=(blk_cell HK.out 2).trans rfl;replace x4 : w1.cell? ⟨b,4,none⟩ = some (.int .i64 s.status):=(blk_cell HK.out 4).trans rfl)|(go_at_call 16;refine(leads.calls b s.id s.n s.view s.status hn0 _ x0 x1 x2 x4).mono ?_;rw [hl];rintro e w' ⟨rfl,⟨m,rfl⟩⟩;replace HKP:=Aside0.mk (HKP.out.drewN m)))
      (first|go_end0|refine bodyPost_ret (results_none rfl _ _ _) rfl ?_)
      exact⟨HKP.out,rfl,HM0.out.below (pw_below_drewN (Below.refl _ _) _)⟩
    | true =>
      by_cases h3 : x.mat > (s.log.length : Int)
      · have d3 : decide ((s.log.length : Int) < x.mat) = true:=decide_eq_true h3
        have e : prepE s x = some 4:=by unfold prepE;rw [if_pos ⟨hh,hl⟩,if_pos h3]
        rw [e]
        clear e h3
        go_enter Try.func48,Try.ntmps48
        go_upto_region 2 with (first|(go_at_call 64;refine(here.calls b s.status s.view x (.int .i64 0) _ x2 x4 AX cX).mono ?_;rw [hh];rintro e w1 ⟨rfl,hb1⟩;replace HKP:=Aside0.mk (HKP.out.below hb1);replace HK:=Aside0.mk (blk_below HK.out hb1);replace HBX:=Aside0.mk (blk_below HBX.out hb1);replace HM0:=Aside0.mk (HM0.out.below hb1);replace HBW:=Aside0.mk (HBW.out.trans (hb1.mono HBW.out.size));clear hb1;replace x0 : w1.cell? ⟨b,0,none⟩ = some (.int .i64 s.id):=(blk_cell HK.out 0).trans rfl;replace x1 : w1.cell? ⟨b,1,none⟩ = some (.int .i64 s.n):=(blk_cell HK.out 1).trans rfl;replace x2 : w1.cell? ⟨b,2,none⟩ = some (.int .i64 s.view):=(blk_cell HK.out 2).trans rfl;replace x4 : w1.cell? ⟨b,4,none⟩ = some (.int .i64 s.status):=(blk_cell HK.out 4).trans rfl)|(go_at_call 16;refine(leads.calls b s.id s.n s.view s.status hn0 _ x0 x1 x2 x4).mono ?_;rw [hl];rintro e w' ⟨rfl,⟨m,rfl⟩⟩;replace HKP:=Aside0.mk (HKP.out.drewN m)))
        have kb : (w1.drewN m).heap[b]? = some (.cells #[.int .i64 s.id,.int .i64 s.n,.int .i64 s.view,.int .i64 s.last,.int .i64 s.status,.slice AL s.log.length cL,.int .i64 s.commit,.slice AM s.mat.length cM,.slice AK s.marks.length cK,.bool s.sent,.slice AB s.bals.length cB,.int .i64 s.elapsed,.int .i64 s.timeout,.slice AD s.draws.length cD,.slice AO out.length cO] 61 (0,0)):=HK.out
        have kx : (w1.drewN m).heap[w.heap.size]? = some (.cells #[.int .i64 x.kind,.int .i64 x.fro,.int .i64 x.dst,.int .i64 x.view,.int .i64 x.last,.int .i64 x.prev,.slice AX x.log.length cX,.int .i64 x.commit,.int .i64 x.mat] 37 (0,0)):=HBX.out
        have hbw : Below w.heap.size w (w1.drewN m):=pw_below_drewN HBW.out m
        clear x0 x1 x2 x4 HK HBX HM0 HBW
        generalize w1.drewN m = W at *
        have y5 : W.cell? ⟨b,5,none⟩ = some (.slice AL s.log.length cL):=(blk_cell kb 5).trans rfl
        have z8 : W.cell? ⟨w.heap.size,8,none⟩ = some (.int .i64 x.mat):=(blk_cell kx 8).trans rfl
        have ZW:=Aside0.mk (And.intro kb (And.intro kx hbw))
        clear kb kx hbw
        go_still_tail 10,(by kernel_rfl)
        change wpList _ _ _ _ _ W.drew
        go_wp2_with (first|(go_at_call_of 44 (Value.bool true);refine(fail_bad.calls _ _ _).mono ?_;rintro e w' ⟨rfl,rfl⟩))
        exact⟨rfl,HKP.out.drew,rfl⟩
      · have d3 : decide ((s.log.length : Int) < x.mat) = false:=decide_eq_false h3
        have e : prepE s x = none:=by unfold prepE;rw [if_pos ⟨hh,hl⟩,if_neg h3]
        have e2 : prepS s x = { s with mat:=prepM s x,commit:=agreeV s.n (prepM s x) s.log.length s.commit }:=by unfold prepS;rw [if_pos ⟨hh,hl⟩]
        rw [e,e2]
        have HLL:=Aside0.mk hl
        clear e e2 h3
        go_enter Try.func48,Try.ntmps48
        go_upto_region 2 with (first|(go_at_call 64;refine(here.calls b s.status s.view x (.int .i64 0) _ x2 x4 AX cX).mono ?_;rw [hh];rintro e w1 ⟨rfl,hb1⟩;replace HKP:=Aside0.mk (HKP.out.below hb1);replace HK:=Aside0.mk (blk_below HK.out hb1);replace HBX:=Aside0.mk (blk_below HBX.out hb1);replace HM0:=Aside0.mk (HM0.out.below hb1);replace HBW:=Aside0.mk (HBW.out.trans (hb1.mono HBW.out.size));clear hb1;replace x0 : w1.cell? ⟨b,0,none⟩ = some (.int .i64 s.id):=(blk_cell HK.out 0).trans rfl;replace x1 : w1.cell? ⟨b,1,none⟩ = some (.int .i64 s.n):=(blk_cell HK.out 1).trans rfl;replace x2 : w1.cell? ⟨b,2,none⟩ = some (.int .i64 s.view):=(blk_cell HK.out 2).trans rfl;replace x4 : w1.cell? ⟨b,4,none⟩ = some (.int .i64 s.status):=(blk_cell HK.out 4).trans rfl)|(go_at_call 16;refine(leads.calls b s.id s.n s.view s.status hn0 _ x0 x1 x2 x4).mono ?_;rw [hl];rintro e w' ⟨rfl,⟨m,rfl⟩⟩;replace HKP:=Aside0.mk (HKP.out.drewN m)))
        have kb : (w1.drewN m).heap[b]? = some (.cells #[.int .i64 s.id,.int .i64 s.n,.int .i64 s.view,.int .i64 s.last,.int .i64 s.status,.slice AL s.log.length cL,.int .i64 s.commit,.slice AM s.mat.length cM,.slice AK s.marks.length cK,.bool s.sent,.slice AB s.bals.length cB,.int .i64 s.elapsed,.int .i64 s.timeout,.slice AD s.draws.length cD,.slice AO out.length cO] 61 (0,0)):=HK.out
        have kx : (w1.drewN m).heap[w.heap.size]? = some (.cells #[.int .i64 x.kind,.int .i64 x.fro,.int .i64 x.dst,.int .i64 x.view,.int .i64 x.last,.int .i64 x.prev,.slice AX x.log.length cX,.int .i64 x.commit,.int .i64 x.mat] 37 (0,0)):=HBX.out
        have hbw : Below w.heap.size w (w1.drewN m):=pw_below_drewN HBW.out m
        clear x0 x1 x2 x4 HK HBX HM0 HBW
        generalize w1.drewN m = W at *
        have y5 : W.cell? ⟨b,5,none⟩ = some (.slice AL s.log.length cL):=(blk_cell kb 5).trans rfl
        have z8 : W.cell? ⟨w.heap.size,8,none⟩ = some (.int .i64 x.mat):=(blk_cell kx 8).trans rfl
        have ZW:=Aside0.mk (And.intro kb (And.intro kx hbw))
        clear kb kx hbw
        go_still_tail 10,(by kernel_rfl)
        change wpList _ _ _ _ _ W.drew
        go_upto_region 3 with (first|(go_at_call_of 44 (Value.bool false);refine(fail_ok.calls _ _ _).mono ?_;rintro e w' ⟨rfl,rfl⟩))
        have kb : W.drew.heap[b]? = some (.cells #[.int .i64 s.id,.int .i64 s.n,.int .i64 s.view,.int .i64 s.last,.int .i64 s.status,.slice AL s.log.length cL,.int .i64 s.commit,.slice AM s.mat.length cM,.slice AK s.marks.length cK,.bool s.sent,.slice AB s.bals.length cB,.int .i64 s.elapsed,.int .i64 s.timeout,.slice AD s.draws.length cD,.slice AO out.length cO] 61 (0,0)):=ZW.out.1
        have kx : W.drew.heap[w.heap.size]? = some (.cells #[.int .i64 x.kind,.int .i64 x.fro,.int .i64 x.dst,.int .i64 x.view,.int .i64 x.last,.int .i64 x.prev,.slice AX x.log.length cX,.int .i64 x.commit,.int .i64 x.mat] 37 (0,0)):=ZW.out.2.1
        have hbw : Below w.heap.size w W.drew:=below_drew ZW.out.2.2
        replace HKP:=Aside0.mk (HKP.out.drew)
        clear y5 z8 ZW
        generalize W.drew = V at *
        obtain ⟨r1,r2,r3,r4,r5,r6,r7⟩:=HR.out
        have h1:=Kd.R_below r1 hbw
        have h2:=Kd.R_below r2 hbw
        have h3:=Kd.R_below r3 hbw
        have h4:=Kd.R_below r4 hbw
        have h5:=Kd.R_below r5 hbw
        have h7:=Kd.F_step r7 (fun k hk hl=>hbw.block k hl)
        have hk:=HQ.out.2.2.2.2.1
        have hx:=HQ.out.2.2.2.2.2
        have hml : (s.mat.length : Int) = s.n:=hk.mat HLL.out
        obtain ⟨g,cap,hv,_,hgl,hcells⟩:=Kd.R_form h2 (by omega)
        have hv1 : AM = some ⟨g,0,none⟩:=by injection hv
        subst hv1
        have y5 : V.cell? ⟨b,5,none⟩ = some (.slice AL s.log.length cL):=(blk_cell kb 5).trans rfl
        have y7 : V.cell? ⟨b,7,none⟩ = some (.slice (some ⟨g,0,none⟩) s.mat.length cM):=(blk_cell kb 7).trans rfl
        have z8 : V.cell? ⟨w.heap.size,8,none⟩ = some (.int .i64 x.mat):=(blk_cell kx 8).trans rfl
        have z1 : V.cell? ⟨w.heap.size,1,none⟩ = some (.int .i64 x.fro):=(blk_cell kx 1).trans rfl
        have i0 : (0 ≤ x.fro) = True:=eq_true hx.1
        have i1 : (x.fro < (s.mat.length : Int)) = True:=eq_true (by omega)
        obtain ⟨ov,hov⟩ : ∃ ov,ov = s.mat.getD x.fro.toNat 0:=⟨_,rfl⟩
        have HOV:=Aside0.mk hov
        have xg : V.cell? ⟨g,x.fro.toNat,none⟩ = some (.int .i64 ov):=by
          rw [hov]
          obtain ⟨c,hc,hM,hcell,_⟩:=Kd.R_elem h2 (0 : Int) x.fro hx.1 (by omega)
          have h0 : c = [.int .i64 (s.mat.getD x.fro.toNat 0)]:=hM
          have:=hcell 0 _ (by rw [h0];rfl)
          simpa [Kd.int,Kd.scalar,List.getD_eq_getElem?_getD] using this
        have fg:=(by obtain ⟨_,_,_,_,hf⟩:=Kd.R_elem h2 (0 : Int) x.fro hx.1 (by omega);simpa [Kd.int,Kd.scalar] using hf 0 : V.frozen? ⟨g,x.fro.toNat,none⟩ = false)
        clear hov
        have hgb : g ≠ b:=fun e=>by obtain ⟨cells,hc⟩:=hcells;rw [e,kb] at hc;cases hc
        have hPg : P g:=h2.1 g rfl
        have Z:=Aside0.mk (And.intro kb (And.intro h1 (And.intro h2 (And.intro h3 (And.intro h4 (And.intro h5 (And.intro r6 (And.intro h7 (And.intro hgb (And.intro hPg hcells))))))))))
        clear kb kx hbw h1 h2 h3 h4 h5 h7 r1 r2 r3 r4 r5 r6 r7 hgb hPg hcells hk hx hml hgl hv
        by_cases hmx : ov < x.mat
        · have hmx2:=decide_eq_true hmx
          go_still_tail 19,(by kernel_rfl)
          change wpList _ _ _ _ _ V.drew
          go_wp2_with (go_at_call 55;refine Aside0.out ?_)
          refine Aside0.mk ?_
          obtain ⟨hb,h1,h2,h3,h4,h5,h6,h7,hgb,hPg,hcells⟩:=Z.out
          have hk:=HQ.out.2.2.2.2.1
          obtain ⟨gc,hgc⟩:=hcells
          have k2 : (V.setCell ⟨g,x.fro.toNat,none⟩ (.int .i64 x.mat)).heap[b]? = _:=blk_far hb (p:=⟨g,x.fro.toNat,none⟩) (fun e=>hgb e.symm) _
          have m2:=Kd.R_putn h2 x.fro x.mat
          have m1:=Kd.R_set h1 hgc (by decide) x.fro.toNat (.int .i64 x.mat)
          have m3:=Kd.R_set h3 hgc (by decide) x.fro.toNat (.int .i64 x.mat)
          have m4:=Kd.R_set h4 hgc (by decide) x.fro.toNat (.int .i64 x.mat)
          have m5:=Kd.R_set h5 hgc (by decide) x.fro.toNat (.int .i64 x.mat)
          have m7:=Kd.F_step h7 (W1:=V.setCell ⟨g,x.fro.toNat,none⟩ (.int .i64 x.mat)) (fun k hk2 _=>Below.heap_setCell V ⟨g,x.fro.toNat,none⟩ _ k (fun e=>by have e2 : k = g:=e;exact HQ.out.2.1.1 (by rw [← hk2,e2];exact hPg)))
          have mk:=HKP.out.setCell (p:=⟨g,x.fro.toNat,none⟩) (.inl (.inr hPg)) (.int .i64 x.mat)
          have hmm : s.mat.set x.fro.toNat x.mat = prepM s x:=by unfold prepM;rw [← HOV.out,Int.max_eq_right (by omega)]
          rw [hmm] at m2
          have hlen : (prepM s x).length = s.mat.length:=by unfold prepM;rw [List.length_set]
          refine(agree.calls b 61 #[.int .i64 s.id,.int .i64 s.n,.int .i64 s.view,.int .i64 s.last,.int .i64 s.status,.slice AL s.log.length cL,.int .i64 s.commit,.slice (some ⟨g,0,none⟩) s.mat.length cM,.slice AK s.marks.length cK,.bool s.sent,.slice AB s.bals.length cB,.int .i64 s.elapsed,.int .i64 s.timeout,.slice AD s.draws.length cD,.slice AO out.length cO] s.n s.commit AL cL s.log (some ⟨g,0,none⟩) cM (prepM s x) _ ?kb rfl rfl rfl (by rw [hlen];rfl) hk.n hk.commit (by have:=hk.log;omega) ?kM).mono ?_
          case kb=>exact k2
          case kM=>exact fun W hW=>by have:=Kd.R_reads' (Kd.R_keeps (Kd.R_drew (Kd.R_types m2 k2 (by decide))) hW (fun k hk3=>hk3.2));rw [hlen] at *;exact this.2.2
          rintro e w9 ⟨rfl,hb9,hk9⟩
          go_wp2
          go_end0
          have mv : ∀ k,k ≠ b→k < (V.setCell ⟨g,x.fro.toNat,none⟩ (.int .i64 x.mat)).heap.size→w9.heap[k]? = (V.setCell ⟨g,x.fro.toNat,none⟩ (.int .i64 x.mat)).heap[k]?:=fun k hk3 hl3=>hk9.block k hl3 hk3
          refine⟨(mk.drew).trans (hk9.mono (fun k hk3=>.inl hk3)),rfl,?_⟩
          have n2:=Kd.R_mono (Kd.R_step (Kd.R_types m2 k2 (by decide)) (fun k hk3 hl3=>mv k hk3.2 hl3)) (fun _ hk3=>hk3.1)
          rw [show(Value.slice (some ⟨g,0,none⟩) s.mat.length cM) = .slice (some ⟨g,0,none⟩) (prepM s x).length cM from by rw [hlen]] at n2
          refine⟨Nat.lt_of_lt_of_le HQ.out.2.2.1 (Nat.le_trans HKP.out.size (Nat.le_trans (by simp) hk9.size)),AL,cL,some ⟨g,0,none⟩,cM,AK,cK,AB,cB,AD,cD,AO,cO,?_,Kd.R_mono (Kd.R_step (Kd.R_types m1 k2 (by decide)) (fun k hk3 hl3=>mv k hk3.2 hl3)) (fun _ hk3=>hk3.1),n2,Kd.R_mono (Kd.R_step (Kd.R_types m3 k2 (by decide)) (fun k hk3 hl3=>mv k hk3.2 hl3)) (fun _ hk3=>hk3.1),Kd.R_mono (Kd.R_step (Kd.R_types m4 k2 (by decide)) (fun k hk3 hl3=>mv k hk3.2 hl3)) (fun _ hk3=>hk3.1),Kd.R_mono (Kd.R_step (Kd.R_types m5 k2 (by decide)) (fun k hk3 hl3=>mv k hk3.2 hl3)) (fun _ hk3=>hk3.1),h6,Kd.F_step m7 (fun k hk3 hl3=>mv k (by rw [hk3];exact HQ.out.2.1.2) hl3)⟩
          show w9.heap[b]? = some (.cells #[.int .i64 s.id,.int .i64 s.n,.int .i64 s.view,.int .i64 s.last,.int .i64 s.status,.slice AL s.log.length cL,.int .i64 (agreeV s.n (prepM s x) s.log.length s.commit),.slice (some ⟨g,0,none⟩) (prepM s x).length cM,.slice AK s.marks.length cK,.bool s.sent,.slice AB s.bals.length cB,.int .i64 s.elapsed,.int .i64 s.timeout,.slice AD s.draws.length cD,.slice AO out.length cO] 61 (0,0))
          rw [hlen]
          exact hb9
        · have hmx2:=decide_eq_false hmx
          have hmx3 : x.mat ≤ ov:=by omega
          go_still_tail 19,(by kernel_rfl)
          change wpList _ _ _ _ _ V.drew
          go_wp2_with (go_at_call 55;refine Aside0.out ?_)
          refine Aside0.mk ?_
          obtain ⟨hb,h1,h2,h3,h4,h5,h6,h7,hgb,hPg,hcells⟩:=Z.out
          have hk:=HQ.out.2.2.2.2.1
          obtain ⟨gc,hgc⟩:=hcells
          have k2 : (V.setCell ⟨g,x.fro.toNat,none⟩ (.int .i64 ov)).heap[b]? = _:=blk_far hb (p:=⟨g,x.fro.toNat,none⟩) (fun e=>hgb e.symm) _
          have m2:=Kd.R_putn h2 x.fro ov
          have m1:=Kd.R_set h1 hgc (by decide) x.fro.toNat (.int .i64 ov)
          have m3:=Kd.R_set h3 hgc (by decide) x.fro.toNat (.int .i64 ov)
          have m4:=Kd.R_set h4 hgc (by decide) x.fro.toNat (.int .i64 ov)
          have m5:=Kd.R_set h5 hgc (by decide) x.fro.toNat (.int .i64 ov)
          have m7:=Kd.F_step h7 (W1:=V.setCell ⟨g,x.fro.toNat,none⟩ (.int .i64 ov)) (fun k hk2 _=>Below.heap_setCell V ⟨g,x.fro.toNat,none⟩ _ k (fun e=>by have e2 : k = g:=e;exact HQ.out.2.1.1 (by rw [← hk2,e2];exact hPg)))
          have mk:=HKP.out.setCell (p:=⟨g,x.fro.toNat,none⟩) (.inl (.inr hPg)) (.int .i64 ov)
          have hmm : s.mat.set x.fro.toNat ov = prepM s x:=by unfold prepM;rw [← HOV.out,Int.max_eq_left (by omega)]
          rw [hmm] at m2
          have hlen : (prepM s x).length = s.mat.length:=by unfold prepM;rw [List.length_set]
          refine(agree.calls b 61 #[.int .i64 s.id,.int .i64 s.n,.int .i64 s.view,.int .i64 s.last,.int .i64 s.status,.slice AL s.log.length cL,.int .i64 s.commit,.slice (some ⟨g,0,none⟩) s.mat.length cM,.slice AK s.marks.length cK,.bool s.sent,.slice AB s.bals.length cB,.int .i64 s.elapsed,.int .i64 s.timeout,.slice AD s.draws.length cD,.slice AO out.length cO] s.n s.commit AL cL s.log (some ⟨g,0,none⟩) cM (prepM s x) _ ?kb rfl rfl rfl (by rw [hlen];rfl) hk.n hk.commit (by have:=hk.log;omega) ?kM).mono ?_
          case kb=>exact k2
          case kM=>exact fun W hW=>by have:=Kd.R_reads' (Kd.R_keeps (Kd.R_drew (Kd.R_types m2 k2 (by decide))) hW (fun k hk3=>hk3.2));rw [hlen] at *;exact this.2.2
          rintro e w9 ⟨rfl,hb9,hk9⟩
          go_wp2
          go_end0
          have mv : ∀ k,k ≠ b→k < (V.setCell ⟨g,x.fro.toNat,none⟩ (.int .i64 ov)).heap.size→w9.heap[k]? = (V.setCell ⟨g,x.fro.toNat,none⟩ (.int .i64 ov)).heap[k]?:=fun k hk3 hl3=>hk9.block k hl3 hk3
          refine⟨(mk.drew).trans (hk9.mono (fun k hk3=>.inl hk3)),rfl,?_⟩
          have n2:=Kd.R_mono (Kd.R_step (Kd.R_types m2 k2 (by decide)) (fun k hk3 hl3=>mv k hk3.2 hl3)) (fun _ hk3=>hk3.1)
          rw [show(Value.slice (some ⟨g,0,none⟩) s.mat.length cM) = .slice (some ⟨g,0,none⟩) (prepM s x).length cM from by rw [hlen]] at n2
          refine⟨Nat.lt_of_lt_of_le HQ.out.2.2.1 (Nat.le_trans HKP.out.size (Nat.le_trans (by simp) hk9.size)),AL,cL,some ⟨g,0,none⟩,cM,AK,cK,AB,cB,AD,cD,AO,cO,?_,Kd.R_mono (Kd.R_step (Kd.R_types m1 k2 (by decide)) (fun k hk3 hl3=>mv k hk3.2 hl3)) (fun _ hk3=>hk3.1),n2,Kd.R_mono (Kd.R_step (Kd.R_types m3 k2 (by decide)) (fun k hk3 hl3=>mv k hk3.2 hl3)) (fun _ hk3=>hk3.1),Kd.R_mono (Kd.R_step (Kd.R_types m4 k2 (by decide)) (fun k hk3 hl3=>mv k hk3.2 hl3)) (fun _ hk3=>hk3.1),Kd.R_mono (Kd.R_step (Kd.R_types m5 k2 (by decide)) (fun k hk3 hl3=>mv k hk3.2 hl3)) (fun _ hk3=>hk3.1),h6,Kd.F_step m7 (fun k hk3 hl3=>mv k (by rw [hk3];exact HQ.out.2.1.2) hl3)⟩
          show w9.heap[b]? = some (.cells #[.int .i64 s.id,.int .i64 s.n,.int .i64 s.view,.int .i64 s.last,.int .i64 s.status,.slice AL s.log.length cL,.int .i64 (agreeV s.n (prepM s x) s.log.length s.commit),.slice (some ⟨g,0,none⟩) (prepM s x).length cM,.slice AK s.marks.length cK,.bool s.sent,.slice AB s.bals.length cB,.int .i64 s.elapsed,.int .i64 s.timeout,.slice AD s.draws.length cD,.slice AO out.length cO] 61 (0,0))
          rw [hlen]
          exact hb9
end Go.Proofs.Ytojjnifbnppliaa.T
end
section
namespace Go.Proofs.Ytojjnifbnppliaa.T
open Go.RowKit Go.Proofs.YtojjnifbnppliaaW.PrintWords Go.Proofs.YtojjnifbnppliaaW.PrintLast Go.Proofs.YtojjnifbnppliaaW.PrintMore
attribute [local go_sem] max2_int min2_int max_two min_two max_three min_three max_four min_four
set_option linter.unusedVariables false
set_option linter.unusedSimpArgs false
/-- The message may be: what hear asks. -/
structure MsgOk (id n : Int) (x : Ms) : Prop where
  kind : wi x.kind 1 7 = true
  fro : wi x.fro 0 (n - 1) = true
  dst : (x.dst != id) = false
  own : (x.fro == id) = false
  view : wi x.view 0 1099511627776 = true
  len : x.log.length ≤ 512
  log : mayLogV x.log = true
  prev : wi x.prev 0 512 = true
  commit : wi x.commit 0 512 = true
  mat : wi x.mat 0 512 = true
/-- The method values, by kind. -/
def mths (p : Value) : Value:=.agg #[.nilFunc,.func (.func 47) #[p] #[],.func (.func 48) #[p] #[],.func (.func 49) #[p] #[],.func (.func 50) #[p] #[],.func (.func 51) #[p] #[],.func (.func 52) #[p] #[],.func (.func 53) #[p] #[]]
set_option maxHeartbeats 8000000 in
set_option maxRecDepth 100000 in
theorem hear_go.calls (b : Nat) (cs : Array Value) (id n view : Int) (hf : Nat) (r : Option Int) (Rq Rm : World→Prop) (k : Int) (x : Ms) (AX : Option Addr) (cX : Nat) (A : Option Addr) (c : Nat) (data : List Int) (w : World) (hb : w.heap[b]? = some (.cells cs 61 (0,0))) (e0 : cs[0]? = some (.int .i64 id)) (e1 : cs[1]? = some (.int .i64 n)) (e2 : cs[2]? = some (.int .i64 view)) (hn : 1 ≤ n∧n ≤ 9) (hx : MsgOk id n x) (hv : decide (x.view < view) = false) (hlog : Kd.C (Kd.slice 5 (Kd.int .u8)) w AX x.log.length x.log) (eg : ∀ args w,(callFunc hf args).run Try.prog w = .ok (.enter hf args) w)
    (ix : ∀ w,(Instr.index 87 (mths (.pointer (some ⟨b,0,none⟩))) (.int .i64 x.kind)).run Try.prog w = .ok (.func (.func hf) #[.pointer (some ⟨b,0,none⟩)] #[]) w)
    (H : ∀ w1,Below w.heap.size w w1→Calls Try.prog hf #[.pointer (some ⟨b,0,none⟩),.agg #[.int .i64 x.kind,.int .i64 x.fro,.int .i64 x.dst,.int .i64 x.view,.int .i64 x.last,.int .i64 x.prev,.slice AX x.log.length cX,.int .i64 x.commit,.int .i64 x.mat]] w1 fun e w'=>Rq w'∧Ends r e (Rm w')) :
    Calls Try.prog 23 #[.pointer (some ⟨b,0,none⟩),.agg #[.int .i64 k,.int .i64 x.kind,.int .i64 x.fro,.int .i64 x.dst,.int .i64 x.view,.int .i64 x.last,.int .i64 x.prev,.slice AX x.log.length cX,.int .i64 x.commit,.int .i64 x.mat,.slice A data.length c]] w fun e w'=>Rq w'∧Ends r e (Rm w'):=by
  have HH:=Aside0.mk H
  clear H
  unfold mths at ix
  have hu39:=Try.underlying39
  have hu:=Try.underlying37
  have hu61:=Try.underlying61
  have hu86:=Try.underlying86
  have hu87:=Try.underlying87
  have hu29:=Try.underlying29
  have HX:=Aside0.mk hx
  have HLOG:=Aside0.mk hlog
  clear hlog
  have c1:=hx.kind
  have c2:=hx.fro
  have c3:=hx.dst
  have c4:=hx.own
  have c5:=hx.view
  have c6:=hx.log
  have c7 : decide (512 < (x.log.length : Int)) = false:=decide_eq_false (by have:=hx.len;omega)
  have c8 : decide (512 < x.log.length) = false:=decide_eq_false (by have:=hx.len;omega)
  have hwn : wrap64 (n - 1) = n - 1:=by unfold wrap64;omega
  have hwn2 : IntKind.i64.wrap (n - 1) = n - 1:=(i64_w _).trans hwn
  have x0 : w.cell? ⟨b,0,none⟩ = some (.int .i64 id):=(blk_cell hb 0).trans e0
  have x1 : w.cell? ⟨b,1,none⟩ = some (.int .i64 n):=(blk_cell hb 1).trans e1
  have hlb : b < w.heap.size:=blk_lt hb
  have hlb' : ¬ (b = w.heap.size):=by omega
  have KX:=Aside0.mk (show((w.alloc (.cells #[.int .i64 k,.int .i64 x.kind,.int .i64 x.fro,.int .i64 x.dst,.int .i64 x.view,.int .i64 x.last,.int .i64 x.prev,.slice AX x.log.length cX,.int .i64 x.commit,.int .i64 x.mat,.slice A data.length c] 39)).alloc (.cells #[.int .i64 x.kind,.int .i64 x.fro,.int .i64 x.dst,.int .i64 x.view,.int .i64 x.last,.int .i64 x.prev,.slice AX x.log.length cX,.int .i64 x.commit,.int .i64 x.mat] 37)).heap[w.heap.size + 1]? = some (.cells #[.int .i64 x.kind,.int .i64 x.fro,.int .i64 x.dst,.int .i64 x.view,.int .i64 x.last,.int .i64 x.prev,.slice AX x.log.length cX,.int .i64 x.commit,.int .i64 x.mat] 37 (0,0)) from by have:=heap_alloc_new (w.alloc (.cells #[.int .i64 k,.int .i64 x.kind,.int .i64 x.fro,.int .i64 x.dst,.int .i64 x.view,.int .i64 x.last,.int .i64 x.prev,.slice AX x.log.length cX,.int .i64 x.commit,.int .i64 x.mat,.slice A data.length c] 39)) (.cells #[.int .i64 x.kind,.int .i64 x.fro,.int .i64 x.dst,.int .i64 x.view,.int .i64 x.last,.int .i64 x.prev,.slice AX x.log.length cX,.int .i64 x.commit,.int .i64 x.mat] 37);simpa using this)
  have KB:=Aside0.mk (blk_alloc (blk_alloc hb (.cells #[.int .i64 k,.int .i64 x.kind,.int .i64 x.fro,.int .i64 x.dst,.int .i64 x.view,.int .i64 x.last,.int .i64 x.prev,.slice AX x.log.length cX,.int .i64 x.commit,.int .i64 x.mat,.slice A data.length c] 39)) (.cells #[.int .i64 x.kind,.int .i64 x.fro,.int .i64 x.dst,.int .i64 x.view,.int .i64 x.last,.int .i64 x.prev,.slice AX x.log.length cX,.int .i64 x.commit,.int .i64 x.mat] 37))
  have E2:=Aside0.mk e2
  clear hx hb e0 e1 e2 hn
  go_enter Try.func23,Try.ntmps23
  go_wp2
  go_quiet (first|(go_at_call 14;refine(within.calls _ _ _ _).mono ?_;rintro e w' ⟨rfl,rfl⟩;(try first|exact⟨rfl,_,rfl⟩))|(go_at_call_of 44 (Value.bool false);refine(fail_ok.calls _ _ _).mono ?_;rintro e w' ⟨rfl,rfl⟩;(try first|exact⟨rfl,_,rfl⟩)))
  go_wp2_with (first|(go_at_call_of 44 (Value.bool false);refine(fail_ok.calls _ _ _).mono ?_;rintro e w1 ⟨rfl,rfl⟩)|(go_at_call 34;refine(mayLog.calls AX cX x.log _ (by repeat (first|exact HLOG.out|(with_reducible refine Kd.C_drewN ?_ _)|(with_reducible refine Kd.C_drew ?_)|(with_reducible refine Kd.C_alloc ?_ _)))).mono ?_;rw [c6];rintro e w1 ⟨rfl,hb1⟩;have KX1:=Aside0.mk (blk_below (by(with_reducible repeat (first|refine blk_drewN ?_ _|refine blk_drew ?_));exact KX.out) hb1);have KB1:=Aside0.mk (blk_below (by(with_reducible repeat (first|refine blk_drewN ?_ _|refine blk_drew ?_));exact KB.out) hb1);have HB1:=Aside0.mk hb1;clear hb1;have z0 : w1.cell? ⟨w.heap.size + 1,0,none⟩ = some (.int .i64 x.kind):=(blk_cell KX1.out 0).trans rfl;have z1 : w1.cell? ⟨w.heap.size + 1,1,none⟩ = some (.int .i64 x.fro):=(blk_cell KX1.out 1).trans rfl;have z2 : w1.cell? ⟨w.heap.size + 1,2,none⟩ = some (.int .i64 x.dst):=(blk_cell KX1.out 2).trans rfl;have z3 : w1.cell? ⟨w.heap.size + 1,3,none⟩ = some (.int .i64 x.view):=(blk_cell KX1.out 3).trans rfl;have z4 : w1.cell? ⟨w.heap.size + 1,4,none⟩ = some (.int .i64 x.last):=(blk_cell KX1.out 4).trans rfl;have z5 : w1.cell? ⟨w.heap.size + 1,5,none⟩ = some (.int .i64 x.prev):=(blk_cell KX1.out 5).trans rfl;have z6 : w1.cell? ⟨w.heap.size + 1,6,none⟩ = some (.slice AX x.log.length cX):=(blk_cell KX1.out 6).trans rfl;have z7 : w1.cell? ⟨w.heap.size + 1,7,none⟩ = some (.int .i64 x.commit):=(blk_cell KX1.out 7).trans rfl;have z8 : w1.cell? ⟨w.heap.size + 1,8,none⟩ = some (.int .i64 x.mat):=(blk_cell KX1.out 8).trans rfl;have x2 : w1.cell? ⟨b,2,none⟩ = some (.int .i64 view):=(blk_cell KB1.out 2).trans E2.out))
  have hix0 : ∀ (p q r : Int) (w : World),(Instr.index 86 (.agg #[.int .i64 p,.int .i64 q,.int .i64 r]) (.int .i64 0)).run Try.prog w = .ok (.int .i64 p) w:=fun _ _ _ _=>by first|rfl|kernel_rfl
  have hix1 : ∀ (p q r : Int) (w : World),(Instr.index 86 (.agg #[.int .i64 p,.int .i64 q,.int .i64 r]) (.int .i64 1)).run Try.prog w = .ok (.int .i64 q) w:=fun _ _ _ _=>by first|rfl|kernel_rfl
  have hix2 : ∀ (p q r : Int) (w : World),(Instr.index 86 (.agg #[.int .i64 p,.int .i64 q,.int .i64 r]) (.int .i64 2)).run Try.prog w = .ok (.int .i64 r) w:=fun _ _ _ _=>by first|rfl|kernel_rfl
  have c9:=HX.out.prev
  have c10:=HX.out.commit
  have c11:=HX.out.mat
  go_loopg [6,72] 4 (fun gg _ s72 wr=>∃ i : Int,s72 = .int .i64 i∧wr = w1∧Aside0 (0 ≤ i∧i ≤ 3∧3 - i < gg))
  case atStart=>exact⟨0,rfl,rfl,⟨by omega,by omega,by omega⟩⟩
  case round =>
    obtain ⟨i,rfl,rfl,Z⟩:=hrel
    obtain ⟨gg,rfl⟩ : ∃ m,gk = m + 1:=⟨gk - 1,by have:=Z.out;omega⟩
    have hi : i = 0∨i = 1∨i = 2∨i = 3:=by have:=Z.out;omega
    rcases hi with rfl|rfl|rfl|rfl
    · go_wp2_with (first|(go_at_call 14;refine(within.calls _ _ _ _).mono ?_;rw [c9];rintro e w' ⟨rfl,rfl⟩)|(go_at_call_of 44 (Value.bool false);refine(fail_ok.calls _ _ _).mono ?_;rintro e w' ⟨rfl,rfl⟩))
      go_roundg gg
      case measure=>omega
      case rel=>exact⟨1,rfl,rfl,⟨by omega,by omega,by have:=Z.out;omega⟩⟩
    · go_wp2_with (first|(go_at_call 14;refine(within.calls _ _ _ _).mono ?_;rw [c10];rintro e w' ⟨rfl,rfl⟩)|(go_at_call_of 44 (Value.bool false);refine(fail_ok.calls _ _ _).mono ?_;rintro e w' ⟨rfl,rfl⟩))
      go_roundg gg
      case measure=>omega
      case rel=>exact⟨2,rfl,rfl,⟨by omega,by omega,by have:=Z.out;omega⟩⟩
    · go_wp2_with (first|(go_at_call 14;refine(within.calls _ _ _ _).mono ?_;rw [c11];rintro e w' ⟨rfl,rfl⟩)|(go_at_call_of 44 (Value.bool false);refine(fail_ok.calls _ _ _).mono ?_;rintro e w' ⟨rfl,rfl⟩))
      go_roundg gg
      case measure=>omega
      case rel=>exact⟨3,rfl,rfl,⟨by omega,by omega,by have:=Z.out;omega⟩⟩
    · go_wp2
      go_quiet (fail)
      go_wp2
      have hmf : ∀ (fn : Fn) (first cap : Array Value) (w : World),(Instr.makeFunc fn first cap).run Try.prog w = .ok (.func fn first cap) w:=fun _ _ _ _=>rfl
      have KX2 : (wr.drewN nq).heap[w.heap.size + 1]? = some (.cells #[.int .i64 x.kind,.int .i64 x.fro,.int .i64 x.dst,.int .i64 x.view,.int .i64 x.last,.int .i64 x.prev,.slice AX x.log.length cX,.int .i64 x.commit,.int .i64 x.mat] 37 (0,0)):=KX1.out
      have hB0:=below_alloc (below_alloc (Below.refl w.heap.size w) (.cells #[.int .i64 k,.int .i64 x.kind,.int .i64 x.fro,.int .i64 x.dst,.int .i64 x.view,.int .i64 x.last,.int .i64 x.prev,.slice AX x.log.length cX,.int .i64 x.commit,.int .i64 x.mat,.slice A data.length c] 39)) (.cells #[.int .i64 x.kind,.int .i64 x.fro,.int .i64 x.dst,.int .i64 x.view,.int .i64 x.last,.int .i64 x.prev,.slice AX x.log.length cX,.int .i64 x.commit,.int .i64 x.mat] 37)
      have HB2:=Aside0.mk (pw_below_drewN ((pw_below_drewN hB0 _).trans (HB1.out.mono (pw_below_drewN hB0 _).size)) nq)
      clear hB0
      clear x2 z0 z1 z2 z3 z4 z5 z6 z7 z8 KX1 KB1 HB1 hix0 hix1 hix2
      generalize wr.drewN nq = W at *
      have z0 : W.cell? ⟨w.heap.size + 1,0,none⟩ = some (.int .i64 x.kind):=(blk_cell KX2 0).trans rfl
      have z1 : W.cell? ⟨w.heap.size + 1,1,none⟩ = some (.int .i64 x.fro):=(blk_cell KX2 1).trans rfl
      have z2 : W.cell? ⟨w.heap.size + 1,2,none⟩ = some (.int .i64 x.dst):=(blk_cell KX2 2).trans rfl
      have z3 : W.cell? ⟨w.heap.size + 1,3,none⟩ = some (.int .i64 x.view):=(blk_cell KX2 3).trans rfl
      have z4 : W.cell? ⟨w.heap.size + 1,4,none⟩ = some (.int .i64 x.last):=(blk_cell KX2 4).trans rfl
      have z5 : W.cell? ⟨w.heap.size + 1,5,none⟩ = some (.int .i64 x.prev):=(blk_cell KX2 5).trans rfl
      have z6 : W.cell? ⟨w.heap.size + 1,6,none⟩ = some (.slice AX x.log.length cX):=(blk_cell KX2 6).trans rfl
      have z7 : W.cell? ⟨w.heap.size + 1,7,none⟩ = some (.int .i64 x.commit):=(blk_cell KX2 7).trans rfl
      have z8 : W.cell? ⟨w.heap.size + 1,8,none⟩ = some (.int .i64 x.mat):=(blk_cell KX2 8).trans rfl
      clear KX2
      go_still_tail 19,(by kernel_rfl)
      change wpList _ _ _ _ _ W.drew
      cases r with
      | none =>
        go_wp2_with (go_at_fn hf;refine(HH.out _ (below_drew HB2.out)).mono ?_;rintro e w' ⟨hq,rfl,hm⟩)
        go_end0
        exact⟨hq,rfl,hm⟩
      | some ec =>
        go_wp2_with (go_at_fn hf;refine(HH.out _ (below_drew HB2.out)).mono ?_;rintro e w' ⟨hq,rfl⟩)
        exact⟨rfl,hq,rfl⟩
set_option maxHeartbeats 8000000 in
set_option maxRecDepth 100000 in
theorem hear_old.calls (b : Nat) (cs : Array Value) (id n view : Int) (k : Int) (x : Ms) (AX : Option Addr) (cX : Nat) (A : Option Addr) (c : Nat) (data : List Int) (w : World) (hb : w.heap[b]? = some (.cells cs 61 (0,0))) (e0 : cs[0]? = some (.int .i64 id)) (e1 : cs[1]? = some (.int .i64 n)) (e2 : cs[2]? = some (.int .i64 view)) (hn : 1 ≤ n∧n ≤ 9) (hx : MsgOk id n x) (hv : decide (x.view < view) = true) (hlog : Kd.C (Kd.slice 5 (Kd.int .u8)) w AX x.log.length x.log) :
    Calls Try.prog 23 #[.pointer (some ⟨b,0,none⟩),.agg #[.int .i64 k,.int .i64 x.kind,.int .i64 x.fro,.int .i64 x.dst,.int .i64 x.view,.int .i64 x.last,.int .i64 x.prev,.slice AX x.log.length cX,.int .i64 x.commit,.int .i64 x.mat,.slice A data.length c]] w fun e w'=>e = .returned (.tuple #[])∧Below w.heap.size w w':=by
  have hu39:=Try.underlying39
  have hu:=Try.underlying37
  have hu61:=Try.underlying61
  have hu86:=Try.underlying86
  have hu87:=Try.underlying87
  have hu29:=Try.underlying29
  have HX:=Aside0.mk hx
  have HLOG:=Aside0.mk hlog
  clear hlog
  have c1:=hx.kind
  have c2:=hx.fro
  have c3:=hx.dst
  have c4:=hx.own
  have c5:=hx.view
  have c6:=hx.log
  have c7 : decide (512 < (x.log.length : Int)) = false:=decide_eq_false (by have:=hx.len;omega)
  have c8 : decide (512 < x.log.length) = false:=decide_eq_false (by have:=hx.len;omega)
  have hwn : wrap64 (n - 1) = n - 1:=by unfold wrap64;omega
  have hwn2 : IntKind.i64.wrap (n - 1) = n - 1:=(i64_w _).trans hwn
  have x0 : w.cell? ⟨b,0,none⟩ = some (.int .i64 id):=(blk_cell hb 0).trans e0
  have x1 : w.cell? ⟨b,1,none⟩ = some (.int .i64 n):=(blk_cell hb 1).trans e1
  have hlb : b < w.heap.size:=blk_lt hb
  have hlb' : ¬ (b = w.heap.size):=by omega
  have KX:=Aside0.mk (show((w.alloc (.cells #[.int .i64 k,.int .i64 x.kind,.int .i64 x.fro,.int .i64 x.dst,.int .i64 x.view,.int .i64 x.last,.int .i64 x.prev,.slice AX x.log.length cX,.int .i64 x.commit,.int .i64 x.mat,.slice A data.length c] 39)).alloc (.cells #[.int .i64 x.kind,.int .i64 x.fro,.int .i64 x.dst,.int .i64 x.view,.int .i64 x.last,.int .i64 x.prev,.slice AX x.log.length cX,.int .i64 x.commit,.int .i64 x.mat] 37)).heap[w.heap.size + 1]? = some (.cells #[.int .i64 x.kind,.int .i64 x.fro,.int .i64 x.dst,.int .i64 x.view,.int .i64 x.last,.int .i64 x.prev,.slice AX x.log.length cX,.int .i64 x.commit,.int .i64 x.mat] 37 (0,0)) from by have:=heap_alloc_new (w.alloc (.cells #[.int .i64 k,.int .i64 x.kind,.int .i64 x.fro,.int .i64 x.dst,.int .i64 x.view,.int .i64 x.last,.int .i64 x.prev,.slice AX x.log.length cX,.int .i64 x.commit,.int .i64 x.mat,.slice A data.length c] 39)) (.cells #[.int .i64 x.kind,.int .i64 x.fro,.int .i64 x.dst,.int .i64 x.view,.int .i64 x.last,.int .i64 x.prev,.slice AX x.log.length cX,.int .i64 x.commit,.int .i64 x.mat] 37);simpa using this)
  have KB:=Aside0.mk (blk_alloc (blk_alloc hb (.cells #[.int .i64 k,.int .i64 x.kind,.int .i64 x.fro,.int .i64 x.dst,.int .i64 x.view,.int .i64 x.last,.int .i64 x.prev,.slice AX x.log.length cX,.int .i64 x.commit,.int .i64 x.mat,.slice A data.length c] 39)) (.cells #[.int .i64 x.kind,.int .i64 x.fro,.int .i64 x.dst,.int .i64 x.view,.int .i64 x.last,.int .i64 x.prev,.slice AX x.log.length cX,.int .i64 x.commit,.int .i64 x.mat] 37))
  have E2:=Aside0.mk e2
  clear hx hb e0 e1 e2 hn
  go_enter Try.func23,Try.ntmps23
  go_wp2
  go_quiet (first|(go_at_call 14;refine(within.calls _ _ _ _).mono ?_;rintro e w' ⟨rfl,rfl⟩;(try first|exact⟨rfl,_,rfl⟩))|(go_at_call_of 44 (Value.bool false);refine(fail_ok.calls _ _ _).mono ?_;rintro e w' ⟨rfl,rfl⟩;(try first|exact⟨rfl,_,rfl⟩)))
  go_wp2_with (first|(go_at_call_of 44 (Value.bool false);refine(fail_ok.calls _ _ _).mono ?_;rintro e w1 ⟨rfl,rfl⟩)|(go_at_call 34;refine(mayLog.calls AX cX x.log _ (by repeat (first|exact HLOG.out|(with_reducible refine Kd.C_drewN ?_ _)|(with_reducible refine Kd.C_drew ?_)|(with_reducible refine Kd.C_alloc ?_ _)))).mono ?_;rw [c6];rintro e w1 ⟨rfl,hb1⟩;have KX1:=Aside0.mk (blk_below (by(with_reducible repeat (first|refine blk_drewN ?_ _|refine blk_drew ?_));exact KX.out) hb1);have KB1:=Aside0.mk (blk_below (by(with_reducible repeat (first|refine blk_drewN ?_ _|refine blk_drew ?_));exact KB.out) hb1);have HB1:=Aside0.mk hb1;clear hb1;have z0 : w1.cell? ⟨w.heap.size + 1,0,none⟩ = some (.int .i64 x.kind):=(blk_cell KX1.out 0).trans rfl;have z1 : w1.cell? ⟨w.heap.size + 1,1,none⟩ = some (.int .i64 x.fro):=(blk_cell KX1.out 1).trans rfl;have z2 : w1.cell? ⟨w.heap.size + 1,2,none⟩ = some (.int .i64 x.dst):=(blk_cell KX1.out 2).trans rfl;have z3 : w1.cell? ⟨w.heap.size + 1,3,none⟩ = some (.int .i64 x.view):=(blk_cell KX1.out 3).trans rfl;have z4 : w1.cell? ⟨w.heap.size + 1,4,none⟩ = some (.int .i64 x.last):=(blk_cell KX1.out 4).trans rfl;have z5 : w1.cell? ⟨w.heap.size + 1,5,none⟩ = some (.int .i64 x.prev):=(blk_cell KX1.out 5).trans rfl;have z6 : w1.cell? ⟨w.heap.size + 1,6,none⟩ = some (.slice AX x.log.length cX):=(blk_cell KX1.out 6).trans rfl;have z7 : w1.cell? ⟨w.heap.size + 1,7,none⟩ = some (.int .i64 x.commit):=(blk_cell KX1.out 7).trans rfl;have z8 : w1.cell? ⟨w.heap.size + 1,8,none⟩ = some (.int .i64 x.mat):=(blk_cell KX1.out 8).trans rfl;have x2 : w1.cell? ⟨b,2,none⟩ = some (.int .i64 view):=(blk_cell KB1.out 2).trans E2.out))
  have hix0 : ∀ (p q r : Int) (w : World),(Instr.index 86 (.agg #[.int .i64 p,.int .i64 q,.int .i64 r]) (.int .i64 0)).run Try.prog w = .ok (.int .i64 p) w:=fun _ _ _ _=>by first|rfl|kernel_rfl
  have hix1 : ∀ (p q r : Int) (w : World),(Instr.index 86 (.agg #[.int .i64 p,.int .i64 q,.int .i64 r]) (.int .i64 1)).run Try.prog w = .ok (.int .i64 q) w:=fun _ _ _ _=>by first|rfl|kernel_rfl
  have hix2 : ∀ (p q r : Int) (w : World),(Instr.index 86 (.agg #[.int .i64 p,.int .i64 q,.int .i64 r]) (.int .i64 2)).run Try.prog w = .ok (.int .i64 r) w:=fun _ _ _ _=>by first|rfl|kernel_rfl
  have c9:=HX.out.prev
  have c10:=HX.out.commit
  have c11:=HX.out.mat
  go_loopg [6,72] 4 (fun gg _ s72 wr=>∃ i : Int,s72 = .int .i64 i∧wr = w1∧Aside0 (0 ≤ i∧i ≤ 3∧3 - i < gg))
  case atStart=>exact⟨0,rfl,rfl,⟨by omega,by omega,by omega⟩⟩
  case round =>
    obtain ⟨i,rfl,rfl,Z⟩:=hrel
    obtain ⟨gg,rfl⟩ : ∃ m,gk = m + 1:=⟨gk - 1,by have:=Z.out;omega⟩
    have hi : i = 0∨i = 1∨i = 2∨i = 3:=by have:=Z.out;omega
    rcases hi with rfl|rfl|rfl|rfl
    · go_wp2_with (first|(go_at_call 14;refine(within.calls _ _ _ _).mono ?_;rw [c9];rintro e w' ⟨rfl,rfl⟩)|(go_at_call_of 44 (Value.bool false);refine(fail_ok.calls _ _ _).mono ?_;rintro e w' ⟨rfl,rfl⟩))
      go_roundg gg
      case measure=>omega
      case rel=>exact⟨1,rfl,rfl,⟨by omega,by omega,by have:=Z.out;omega⟩⟩
    · go_wp2_with (first|(go_at_call 14;refine(within.calls _ _ _ _).mono ?_;rw [c10];rintro e w' ⟨rfl,rfl⟩)|(go_at_call_of 44 (Value.bool false);refine(fail_ok.calls _ _ _).mono ?_;rintro e w' ⟨rfl,rfl⟩))
      go_roundg gg
      case measure=>omega
      case rel=>exact⟨2,rfl,rfl,⟨by omega,by omega,by have:=Z.out;omega⟩⟩
    · go_wp2_with (first|(go_at_call 14;refine(within.calls _ _ _ _).mono ?_;rw [c11];rintro e w' ⟨rfl,rfl⟩)|(go_at_call_of 44 (Value.bool false);refine(fail_ok.calls _ _ _).mono ?_;rintro e w' ⟨rfl,rfl⟩))
      go_roundg gg
      case measure=>omega
      case rel=>exact⟨3,rfl,rfl,⟨by omega,by omega,by have:=Z.out;omega⟩⟩
    · go_wp2
      go_quiet (fail)
      go_wp2
      have hB0:=below_alloc (below_alloc (Below.refl w.heap.size w) (.cells #[.int .i64 k,.int .i64 x.kind,.int .i64 x.fro,.int .i64 x.dst,.int .i64 x.view,.int .i64 x.last,.int .i64 x.prev,.slice AX x.log.length cX,.int .i64 x.commit,.int .i64 x.mat,.slice A data.length c] 39)) (.cells #[.int .i64 x.kind,.int .i64 x.fro,.int .i64 x.dst,.int .i64 x.view,.int .i64 x.last,.int .i64 x.prev,.slice AX x.log.length cX,.int .i64 x.commit,.int .i64 x.mat] 37)
      (first|go_end0|refine bodyPost_ret (results_none rfl _ _ _) rfl ?_)
      exact⟨rfl,pw_below_drewN ((pw_below_drewN hB0 _).trans (HB1.out.mono (pw_below_drewN hB0 _).size)) nq⟩
end Go.Proofs.Ytojjnifbnppliaa.T
end
section
namespace Go.Proofs.Ytojjnifbnppliaa.T
open Go.RowKit Go.Proofs.YtojjnifbnppliaaW.PrintWords Go.Proofs.YtojjnifbnppliaaW.PrintLast Go.Proofs.YtojjnifbnppliaaW.PrintMore
attribute [local go_sem] max2_int min2_int max_two min_two max_three min_three max_four min_four
set_option linter.unusedVariables false
set_option linter.unusedSimpArgs false
theorem rep10 : Array.replicate 10 undef = #[undef,undef,undef,undef,undef,undef,undef,undef,undef,undef]:=rfl
theorem ta_none : ∀ w : World,(Instr.typeAssert .nilIface 20 30 true).run Try.prog w = .ok (.tuple #[.int .i64 0,.bool false]) w:=fun _=>by kernel_rfl
theorem ta_some (x : Int) : ∀ w : World,(Instr.typeAssert (.iface 30 (.int .i64 x)) 20 30 true).run Try.prog w = .ok (.tuple #[.int .i64 x,.bool true]) w:=fun _=>by kernel_rfl
theorem Catch.idle (p q r : Addr) (w : World) :
    CallsD Try.prog 20 #[.pointer (some p),.pointer (some q),.pointer (some r)] .returning w fun e u' w'=>e = .returned (.tuple #[])∧u' = .returning∧w' = w:=by
  refine callsD_of_wpS Try.func20 rfl fun c₀ cs hu=>?_
  apply wpS_seq
  apply wpS_region
  simp [wpOpsS,go_sem,recoverD,hu,Try.ntmps20,Exit.thenS,ta_none]
  apply wpS_seq
  apply wpS_region
  simp [wpOpsS,go_sem,Exit.thenS]
  refine wpS_cond (t:=false) (by simp [Act.eval,Array.replicate]) ?_
  simp only [Bool.false_eq_true,if_false]
  refine wpS_of_wp (wp_skip ?_)
  cases c₀
  simp_all [bodyPostS,results,Try.results20]
set_option maxHeartbeats 1000000 in
theorem Catch.bad (p q r : Nat) (c0 : Array Value) (v1 v2 : Value) (x : Int) (older : List PanicEntry) (w : World) (hp : w.heap[p]? = some (.cells c0 29 (0,0))) (hq : w.heap[q]? = some (.cells #[v1] 33 (0,0))) (hr : w.heap[r]? = some (.cells #[v2] 30 (0,0))) (hs : c0.size = 14) (n1 : p ≠ q) (n2 : q ≠ r) (n3 : p ≠ r) :
    CallsD Try.prog 20 #[.pointer (some ⟨p,0,none⟩),.pointer (some ⟨q,0,none⟩),.pointer (some ⟨r,0,none⟩)] (.panicking ({ v:=.iface 30 (.int .i64 x),recovered:=false } :: older)) w fun e u' w' =>
      e = .returned (.tuple #[])∧u' = .panicking ({ v:=.iface 30 (.int .i64 x),recovered:=true } :: older)∧w'.heap[p]? = some (.cells #[.int .i64 0,.int .i64 0,.int .i64 0,.int .i64 0,.int .i64 0,.slice none 0 0,.int .i64 0,.slice none 0 0,.slice none 0 0,.bool false,.slice none 0 0,.int .i64 0,.int .i64 0,.slice none 0 0] 29 (0,0))∧w'.heap[q]? = some (.cells #[.slice none 0 0] 33 (0,0))∧w'.heap[r]? = some (.cells #[.int .i64 x] 30 (0,0))∧Keeps w w' (fun k=>k = p∨k = q∨k = r):=by
  refine callsD_of_wpS Try.func20 rfl fun c₀ cs hu=>?_
  apply wpS_seq
  apply wpS_region
  simp [wpOpsS,go_sem,recoverD,hu,Try.ntmps20,Exit.thenS,ta_some,rep10]
  apply wpS_seq
  apply wpS_region
  simp [wpOpsS,go_sem,Exit.thenS]
  refine wpS_cond (t:=true) (by simp [Act.eval]) ?_
  simp only [if_true]
  refine wpS_of_wp ?_
  have HS:=Aside0.mk (And.intro n1 (And.intro n2 n3))
  have HP:=Aside0.mk hp
  have k1:=Aside0.mk (setRow_heap w p c0 #[.int .i64 0,.int .i64 0,.int .i64 0,.int .i64 0,.int .i64 0,.slice none 0 0,.int .i64 0,.slice none 0 0,.slice none 0 0,.bool false,.slice none 0 0,.int .i64 0,.int .i64 0,.slice none 0 0] 29 (0,0) hp)
  have k2:=Aside0.mk ((setRow_other w p q #[.int .i64 0,.int .i64 0,.int .i64 0,.int .i64 0,.int .i64 0,.slice none 0 0,.int .i64 0,.slice none 0 0,.slice none 0 0,.bool false,.slice none 0 0,.int .i64 0,.int .i64 0,.slice none 0 0] (fun e=>n1 e.symm)).trans hq)
  have k3:=Aside0.mk ((setRow_other w p r #[.int .i64 0,.int .i64 0,.int .i64 0,.int .i64 0,.int .i64 0,.slice none 0 0,.int .i64 0,.slice none 0 0,.slice none 0 0,.bool false,.slice none 0 0,.int .i64 0,.int .i64 0,.slice none 0 0] (fun e=>n3 e.symm)).trans hr)
  have KK:=Aside0.mk (show Keeps w (w.setRow p #[.int .i64 0,.int .i64 0,.int .i64 0,.int .i64 0,.int .i64 0,.slice none 0 0,.int .i64 0,.slice none 0 0,.slice none 0 0,.bool false,.slice none 0 0,.int .i64 0,.int .i64 0,.slice none 0 0]) (fun k=>k = p∨k = q∨k = r) from⟨rfl,rfl,rfl,by simp,fun k _ hk=>setRow_other w p k _ (fun e=>hk (.inl e))⟩)
  have n4 : ¬ q = r:=n2
  have n5 : ¬ r = q:=fun e=>n2 e.symm
  clear hp hq hr hu n1 n2 n3
  go_wp2_with ((with_reducible refine gate_ (.store 29 (.tmp 0) (.tmp 11)) rfl ?_);refine wpList_store_row rfl 29 (.tmp 0) (.tmp 11) rfl p #[.int .i64 0,.int .i64 0,.int .i64 0,.int .i64 0,.int .i64 0,.slice none 0 0,.int .i64 0,.slice none 0 0,.slice none 0 0,.bool false,.slice none 0 0,.int .i64 0,.int .i64 0,.slice none 0 0] rfl rfl 29 c0 HP.out (by kernel_rfl) hs (by kernel_rfl) ?_;generalize w.setRow p #[.int .i64 0,.int .i64 0,.int .i64 0,.int .i64 0,.int .i64 0,.slice none 0 0,.int .i64 0,.slice none 0 0,.slice none 0 0,.bool false,.slice none 0 0,.int .i64 0,.int .i64 0,.slice none 0 0] = W at *;have x2 : W.cell? ⟨q,0,none⟩ = some v1:=(blk_cell k2.out 0).trans rfl;have x3 : W.cell? ⟨r,0,none⟩ = some v2:=(blk_cell k3.out 0).trans rfl;have f2:=blk_frozen k2.out 0;have f3:=blk_frozen k3.out 0)
  have e2:=blk_set k2.out 0 (.slice none 0 0)
  have e3:=blk_set ((Below.heap_setCell W ⟨q,0,none⟩ (.slice none 0 0) r (by exact n5)).trans k3.out) 0 (.int .i64 x)
  have e22:=(Below.heap_setCell (W.setCell ⟨q,0,none⟩ (.slice none 0 0)) ⟨r,0,none⟩ (.int .i64 x) q (by exact n4)).trans e2
  have e1:=(Below.heap_setCell (W.setCell ⟨q,0,none⟩ (.slice none 0 0)) ⟨r,0,none⟩ (.int .i64 x) p (by exact HS.out.2.2)).trans ((Below.heap_setCell W ⟨q,0,none⟩ (.slice none 0 0) p (by exact HS.out.1)).trans k1.out)
  have ek:=(KK.out.setCell (p:=⟨q,0,none⟩) (.inl (.inr (.inl rfl))) (.slice none 0 0)).setCell (p:=⟨r,0,none⟩) (.inl (.inr (.inr rfl))) (.int .i64 x)
  clear x2 x3 f2 f3 k1 k2 k3 KK hs
  generalize ((W.setCell ⟨q,0,none⟩ (.slice none 0 0)).setCell ⟨r,0,none⟩ (.int .i64 x)) = V at *
  cases c₀
  exact⟨rfl,_,rfl,_,results_none rfl _ _ _,rfl,rfl,e1,e22,e3,ek⟩
end Go.Proofs.Ytojjnifbnppliaa.T
end
