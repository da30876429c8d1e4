/- VrAnswers: the walk. This text tells functions of the seat as plain functions, with their contracts, as the machine's calls meet them. This text tells functions of the seat as plain functions, with their contracts, as the machine's calls meet them. -/
import Derived.Deep.DeepCutAuto
import Derived.Test.YtojjnifbnppliaaQ02
import Derived.Test.YtojjnifbnppliaaQ11
section
namespace Go.Proofs.Ytojjnifbnppliaa.T
open Go.RowKit Go.Proofs.YtojjnifbnppliaaW.PrintWords Go.Proofs.YtojjnifbnppliaaW.PrintLast Go.Proofs.YtojjnifbnppliaaW.PrintMore
attribute [local go_sem] max2_int min2_int max_two min_two max_three min_three max_four min_four
set_option linter.unusedVariables false
set_option linter.unusedSimpArgs false
set_option maxHeartbeats 16000000 in
set_option maxRecDepth 100000 in
theorem VrAnswers.calls (s : St) (bl : List S68) (hbl : s.bals = bl.map ofB) (AL : Option Addr) (cL : Nat) (AM : Option Addr) (cM : Nat) (AK : Option Addr) (cK : Nat) (AB : Option Addr) (cB : Nat) (AD : Option Addr) (cD : Nat) (k : Int) (x : Ms) (AX : Option Addr) (cX : Nat) (A : Option Addr) (c : Nat) (data : List Int) (kf : Nat) (w : World) (h5 : Kd.C (Kd.slice 5 (Kd.int .u8)) w AL s.log.length s.log) (g5 : s.log.length ≤ cL) (h7 : Kd.C (Kd.int .i64) w AM s.mat.length s.mat) (g7 : s.mat.length ≤ cM) (h8 : Kd.C Kd.bool w AK s.marks.length s.marks) (g8 : s.marks.length ≤ cK) (h10 : Kd.C k68 w AB bl.length bl) (g10 : bl.length ≤ cB) (h13 : Kd.C (Kd.int .i64) w AD s.draws.length s.draws) (g13 : s.draws.length ≤ cD) (hX : Kd.C (Kd.slice 5 (Kd.int .u8)) w AX x.log.length x.log) (gX : x.log.length ≤ cX) (hA : Kd.C (Kd.int .u8) w A data.length data) (gA : data.length ≤ c)
    (hOf : undercroftlaw19_Of.f kf s.id s.n s.view s.last s.status s.log s.commit s.mat s.marks s.sent bl s.elapsed s.timeout s.draws = some (s.id,s.n,s.view,s.last,s.status,s.log,s.commit,s.mat,s.marks,s.sent,bl.map ofB,s.elapsed,s.timeout,s.draws)) (hEv : undercroftlaw19_OfEvent.f kf k x.kind x.fro x.dst x.view x.last x.prev x.log x.commit x.mat data = some (k,x.kind,x.fro,x.dst,x.view,x.last,x.prev,x.log,x.commit,x.mat,data)) :
    Calls Try.prog 4 #[.agg #[.int .i64 s.id,.int .i64 s.n,.int .i64 s.view,.int .i64 s.last,.int .i64 s.status,.slice AL s.log.length cL,.int .i64 s.commit,.slice AM s.mat.length cM,.slice AK s.marks.length cK,.bool s.sent,.slice AB bl.length cB,.int .i64 s.elapsed,.int .i64 s.timeout,.slice AD s.draws.length cD],.agg #[.int .i64 k,.int .i64 x.kind,.int .i64 x.fro,.int .i64 x.dst,.int .i64 x.view,.int .i64 x.last,.int .i64 x.prev,.slice AX x.log.length cX,.int .i64 x.commit,.int .i64 x.mat,.slice A data.length c]] w fun e w'=>e = .returned (.bool true)∧Below w.heap.size w w':=by
  have hu44:=Try.underlying44
  have hu47:=Try.underlying47
  have hu45:=Try.underlying45
  have hu29:=Try.underlying29
  have hu33:=Try.underlying33
  have hu37:=Try.underlying37
  have HBW:=Aside0.mk (show Below w.heap.size w ((w.alloc (.cells #[.int .i64 s.id,.int .i64 s.n,.int .i64 s.view,.int .i64 s.last,.int .i64 s.status,.slice AL s.log.length cL,.int .i64 s.commit,.slice AM s.mat.length cM,.slice AK s.marks.length cK,.bool s.sent,.slice AB bl.length cB,.int .i64 s.elapsed,.int .i64 s.timeout,.slice AD s.draws.length cD] 44)).alloc (.cells #[.int .i64 k,.int .i64 x.kind,.int .i64 x.fro,.int .i64 x.dst,.int .i64 x.view,.int .i64 x.last,.int .i64 x.prev,.slice AX x.log.length cX,.int .i64 x.commit,.int .i64 x.mat,.slice A data.length c] 47)) from below_alloc (below_alloc (Below.refl _ _) _) _)
  have HK:=Aside0.mk (show((w.alloc (.cells #[.int .i64 s.id,.int .i64 s.n,.int .i64 s.view,.int .i64 s.last,.int .i64 s.status,.slice AL s.log.length cL,.int .i64 s.commit,.slice AM s.mat.length cM,.slice AK s.marks.length cK,.bool s.sent,.slice AB bl.length cB,.int .i64 s.elapsed,.int .i64 s.timeout,.slice AD s.draws.length cD] 44)).alloc (.cells #[.int .i64 k,.int .i64 x.kind,.int .i64 x.fro,.int .i64 x.dst,.int .i64 x.view,.int .i64 x.last,.int .i64 x.prev,.slice AX x.log.length cX,.int .i64 x.commit,.int .i64 x.mat,.slice A data.length c] 47)).heap[w.heap.size]? = some (.cells #[.int .i64 s.id,.int .i64 s.n,.int .i64 s.view,.int .i64 s.last,.int .i64 s.status,.slice AL s.log.length cL,.int .i64 s.commit,.slice AM s.mat.length cM,.slice AK s.marks.length cK,.bool s.sent,.slice AB bl.length cB,.int .i64 s.elapsed,.int .i64 s.timeout,.slice AD s.draws.length cD] 44 (0,0))∧((w.alloc (.cells #[.int .i64 s.id,.int .i64 s.n,.int .i64 s.view,.int .i64 s.last,.int .i64 s.status,.slice AL s.log.length cL,.int .i64 s.commit,.slice AM s.mat.length cM,.slice AK s.marks.length cK,.bool s.sent,.slice AB bl.length cB,.int .i64 s.elapsed,.int .i64 s.timeout,.slice AD s.draws.length cD] 44)).alloc (.cells #[.int .i64 k,.int .i64 x.kind,.int .i64 x.fro,.int .i64 x.dst,.int .i64 x.view,.int .i64 x.last,.int .i64 x.prev,.slice AX x.log.length cX,.int .i64 x.commit,.int .i64 x.mat,.slice A data.length c] 47)).heap[w.heap.size + 1]? = some (.cells #[.int .i64 k,.int .i64 x.kind,.int .i64 x.fro,.int .i64 x.dst,.int .i64 x.view,.int .i64 x.last,.int .i64 x.prev,.slice AX x.log.length cX,.int .i64 x.commit,.int .i64 x.mat,.slice A data.length c] 47 (0,0)) from⟨blk_alloc (heap_alloc_new w _) _,by have:=heap_alloc_new (w.alloc (.cells #[.int .i64 s.id,.int .i64 s.n,.int .i64 s.view,.int .i64 s.last,.int .i64 s.status,.slice AL s.log.length cL,.int .i64 s.commit,.slice AM s.mat.length cM,.slice AK s.marks.length cK,.bool s.sent,.slice AB bl.length cB,.int .i64 s.elapsed,.int .i64 s.timeout,.slice AD s.draws.length cD] 44)) (.cells #[.int .i64 k,.int .i64 x.kind,.int .i64 x.fro,.int .i64 x.dst,.int .i64 x.view,.int .i64 x.last,.int .i64 x.prev,.slice AX x.log.length cX,.int .i64 x.commit,.int .i64 x.mat,.slice A data.length c] 47);simpa using this⟩)
  have HA:=Aside0.mk (And.intro h5 (And.intro h7 (And.intro h8 (And.intro h10 (And.intro h13 (And.intro hX hA))))))
  have HG:=Aside0.mk (And.intro g5 (And.intro g7 (And.intro g8 (And.intro g10 (And.intro g13 (And.intro gX gA))))))
  have HO:=Aside0.mk (And.intro hOf (And.intro hEv hbl))
  clear h5 h7 h8 h10 h13 hX hA g5 g7 g8 g10 g13 gX gA hOf hEv hbl
  go_enter Try.func4,Try.ntmps4
  go_upto_region 3 with (go_at_call 6;refine(alive.calls _).mono ?_;rintro e w1 ⟨rfl,hb1⟩;have HB1:=Aside0.mk hb1;clear hb1)
  have HW:=Aside0.mk (show Below w.heap.size w w1∧w1.heap[w.heap.size]? = some (.cells #[.int .i64 s.id,.int .i64 s.n,.int .i64 s.view,.int .i64 s.last,.int .i64 s.status,.slice AL s.log.length cL,.int .i64 s.commit,.slice AM s.mat.length cM,.slice AK s.marks.length cK,.bool s.sent,.slice AB bl.length cB,.int .i64 s.elapsed,.int .i64 s.timeout,.slice AD s.draws.length cD] 44 (0,0))∧w1.heap[w.heap.size + 1]? = some (.cells #[.int .i64 k,.int .i64 x.kind,.int .i64 x.fro,.int .i64 x.dst,.int .i64 x.view,.int .i64 x.last,.int .i64 x.prev,.slice AX x.log.length cX,.int .i64 x.commit,.int .i64 x.mat,.slice A data.length c] 47 (0,0)) from⟨HBW.out.trans (HB1.out.mono HBW.out.size),blk_below HK.out.1 HB1.out,blk_below HK.out.2 HB1.out⟩)
  clear HBW HK HB1
  obtain ⟨R,hR⟩ : ∃ R,stepF s k x data = R:=⟨_,rfl⟩
  have HR:=Aside0.mk hR
  have HGD:=Aside0.mk (show GoodR s R from by rw [← hR];exact stepF_good)
  clear hR
  refine region_tab1 (fun u=>⟨#[.agg #[.int .i64 s.id,.int .i64 s.n,.int .i64 s.view,.int .i64 s.last,.int .i64 s.status,.slice AL s.log.length cL,.int .i64 s.commit,.slice AM s.mat.length cM,.slice AK s.marks.length cK,.bool s.sent,.slice AB bl.length cB,.int .i64 s.elapsed,.int .i64 s.timeout,.slice AD s.draws.length cD],.agg #[.int .i64 k,.int .i64 x.kind,.int .i64 x.fro,.int .i64 x.dst,.int .i64 x.view,.int .i64 x.last,.int .i64 x.prev,.slice AX x.log.length cX,.int .i64 x.commit,.int .i64 x.mat,.slice A data.length c],.pointer (some ⟨w.heap.size,0,none⟩),.pointer (some ⟨w.heap.size + 1,0,none⟩),.bool false,u 5,u 6,u 7,undef,.bool true,.bool false,u 11,u 12,u 13,u 14,u 15,u 16,u 17,u 18,u 19,undef,undef,undef,undef,undef,undef,undef,undef,undef,undef,undef,undef,undef,undef,undef,undef,undef,undef,undef,undef,undef,undef,undef,undef,undef,undef,undef,undef,undef,undef,undef,undef,undef,undef,undef,undef,undef,undef,undef,undef,undef,undef,undef,undef,undef,undef,undef,undef,undef,undef,undef,undef,undef,undef,undef,undef,undef,undef,undef,undef,undef,undef,undef,undef,undef,undef,undef,undef,undef,undef,undef,undef,undef,undef,undef,undef,undef,undef,undef,undef,undef,undef,undef,undef,undef,undef,undef,undef,undef,undef,undef,undef,undef,undef],[]⟩) (fun n=>match n with|5=>undef|6=>undef|7=>undef|11=>undef|12=>undef|13=>undef|14=>undef|15=>undef|16=>undef|17=>undef|18=>undef|19=>undef|_=>undef) 4 16 (fun j a v=>match j with|0=>v = .agg #[.int .i64 s.id,.int .i64 s.n,.int .i64 s.view,.int .i64 s.last,.int .i64 s.status,.slice AL s.log.length cL,.int .i64 s.commit,.slice AM s.mat.length cM,.slice AK s.marks.length cK,.bool s.sent,.slice AB bl.length cB,.int .i64 s.elapsed,.int .i64 s.timeout,.slice AD s.draws.length cD]|2=>v = .agg #[.int .i64 k,.int .i64 x.kind,.int .i64 x.fro,.int .i64 x.dst,.int .i64 x.view,.int .i64 x.last,.int .i64 x.prev,.slice AX x.log.length cX,.int .i64 x.commit,.int .i64 x.mat,.slice A data.length c]|5=>v = a|6=>∀ CS mv,a = Rv2 (codeOf (errO R)) CS mv→v = .agg CS|7=>∀ CS mv,a = Rv2 (codeOf (errO R)) CS mv→v = mv|8=>v = .int .i64 (codeOf (errO R))|11=>∀ CS mv,a = Rv2 (codeOf (errO R)) CS mv→v = mv|12=>v = .int .i64 (codeOf (errO R))|_=>True) (fun l u wx=>GL w1 (codeOf (errO R)) (LT (errO R) (resS s R) (resM R)) l u wx∧GP s k x data l u wx) (by first|rfl|kernel_rfl) (by kernel_rfl) (by kernel_rfl) (by first|rfl|kernel_rfl) rfl ?tg0 ?tput ?tg ?thk ?tstep ?tdone
  case tg0 =>
    exact⟨⟨below_drew (Below.refl _ _),fun h=>absurd h (by simp),fun h=>absurd h (by simp)⟩,fun h=>absurd h (by simp),fun h=>absurd h (by simp)⟩
  case tput =>
    intro i o ho u v
    rcases i with _|_|_|_|_|_|_|_|_|_|_|_|_|i
    all_goals first|(obtain rfl:=Option.some.inj (show some _ = some o from ho);rfl)|exact absurd ho (by simp)
  case tg =>
    intro i o ho
    rcases i with _|_|_|_|_|_|_|_|_|_|_|_|_|i
    all_goals first|(obtain rfl:=Option.some.inj (show some _ = some o from ho);rfl)|exact absurd ho (by simp)
  case thk =>
    intro l hx j hj hjk hlj hlk a b v
    rcases j with _|_|_|_|_|_|_|_|_|_|_|_|_|j
    · exact id
    · exact id
    · exact id
    · exact id
    · exact id
    · exact absurd ((hx 5 _ rfl hlj 4 (by decide)).symm.trans hlk) (by simp)
    · exact absurd ((hx 5 _ rfl (hx 6 _ rfl hlj 5 (by decide)) 4 (by decide)).symm.trans hlk) (by simp)
    · exact absurd ((hx 5 _ rfl (hx 7 _ rfl hlj 5 (by decide)) 4 (by decide)).symm.trans hlk) (by simp)
    · exact id
    · exact id
    · exact id
    · exact absurd ((hx 5 _ rfl (hx 7 _ rfl (hx 11 _ rfl hlj 7 (by decide)) 5 (by decide)) 4 (by decide)).symm.trans hlk) (by simp)
    · exact id
    · exact id
  case tstep =>
    intro l u wx i o hx hG hF ho hl hn
    rcases i with _|_|_|_|_|_|_|_|_|_|_|_|_|i
    · obtain rfl:=Option.some.inj (show some _ = some o from ho)
      have kx:=blk_below HW.out.2.1 hG.1.1
      have a0 : wx.cell? ⟨w.heap.size,0,none⟩ = some (.int .i64 s.id):=(blk_cell kx 0).trans rfl
      have a1 : wx.cell? ⟨w.heap.size,1,none⟩ = some (.int .i64 s.n):=(blk_cell kx 1).trans rfl
      have a2 : wx.cell? ⟨w.heap.size,2,none⟩ = some (.int .i64 s.view):=(blk_cell kx 2).trans rfl
      have a3 : wx.cell? ⟨w.heap.size,3,none⟩ = some (.int .i64 s.last):=(blk_cell kx 3).trans rfl
      have a4 : wx.cell? ⟨w.heap.size,4,none⟩ = some (.int .i64 s.status):=(blk_cell kx 4).trans rfl
      have a5 : wx.cell? ⟨w.heap.size,5,none⟩ = some (.slice AL s.log.length cL):=(blk_cell kx 5).trans rfl
      have a6 : wx.cell? ⟨w.heap.size,6,none⟩ = some (.int .i64 s.commit):=(blk_cell kx 6).trans rfl
      have a7 : wx.cell? ⟨w.heap.size,7,none⟩ = some (.slice AM s.mat.length cM):=(blk_cell kx 7).trans rfl
      have a8 : wx.cell? ⟨w.heap.size,8,none⟩ = some (.slice AK s.marks.length cK):=(blk_cell kx 8).trans rfl
      have a9 : wx.cell? ⟨w.heap.size,9,none⟩ = some (.bool s.sent):=(blk_cell kx 9).trans rfl
      have a10 : wx.cell? ⟨w.heap.size,10,none⟩ = some (.slice AB bl.length cB):=(blk_cell kx 10).trans rfl
      have a11 : wx.cell? ⟨w.heap.size,11,none⟩ = some (.int .i64 s.elapsed):=(blk_cell kx 11).trans rfl
      have a12 : wx.cell? ⟨w.heap.size,12,none⟩ = some (.int .i64 s.timeout):=(blk_cell kx 12).trans rfl
      have a13 : wx.cell? ⟨w.heap.size,13,none⟩ = some (.slice AD s.draws.length cD):=(blk_cell kx 13).trans rfl
      refine wv_ (v:=.agg #[.int .i64 s.id,.int .i64 s.n,.int .i64 s.view,.int .i64 s.last,.int .i64 s.status,.slice AL s.log.length cL,.int .i64 s.commit,.slice AM s.mat.length cM,.slice AK s.marks.length cK,.bool s.sent,.slice AB bl.length cB,.int .i64 s.elapsed,.int .i64 s.timeout,.slice AD s.draws.length cD]) (by go_simp;with_reducible rfl) ?_
      exact⟨_,rfl,rfl,⟨GL.upd (by decide) (by decide) (by decide) (by decide) (by decide) hG.1,GP.same (by decide) (by decide) (by decide) (by decide) hG.2⟩⟩
    · obtain rfl:=Option.some.inj (show some _ = some o from ho)
      have e12 : u 12 = _:=hF 0 (by decide) (hn 0 (by decide)) 12 rfl
      have h3 : l 3 = false:=Bool.eq_false_iff.2 (fun h=>nomatch (hx 3 _ rfl h 1 (by decide)).symm.trans hl)
      have h4 : l 4 = false:=Bool.eq_false_iff.2 (fun h=>nomatch (hx 4 _ rfl h 1 (by decide)).symm.trans hl)
      have h6 : l 5 = false:=Bool.eq_false_iff.2 (fun h=>nomatch (hx 5 _ rfl h 4 (by decide)).symm.trans h4)
      have h66 : l 6 = false:=Bool.eq_false_iff.2 (fun h=>nomatch (hx 6 _ rfl h 5 (by decide)).symm.trans h6)
      have h10 : l 10 = false:=Bool.eq_false_iff.2 (fun h=>nomatch (hx 10 _ rfl h 6 (by decide)).symm.trans h66)
      have hBx:=HW.out.1.trans (hG.1.1.mono HW.out.1.size)
      refine wc_ Try.func10 (by kernel_rfl) rfl #[.agg #[.int .i64 s.id,.int .i64 s.n,.int .i64 s.view,.int .i64 s.last,.int .i64 s.status,.slice AL s.log.length cL,.int .i64 s.commit,.slice AM s.mat.length cM,.slice AK s.marks.length cK,.bool s.sent,.slice AB bl.length cB,.int .i64 s.elapsed,.int .i64 s.timeout,.slice AD s.draws.length cD]] rfl (by simp only [List.map_toArray,List.map_cons,List.map_nil,Act.eval];rw [← e12];rfl) ?_
      refine(undercroftlaw19_Of.calls kf s.id s.n s.view s.last s.status AL cL s.log s.commit AM cM s.mat AK cK s.marks s.sent AB cB bl s.elapsed s.timeout AD cD s.draws _ _ _ _ _ _ _ _ _ _ _ _ _ _ wx (Kd.C_below HA.out.1 hBx) HG.out.1 (Kd.C_below HA.out.2.1 hBx) HG.out.2.1 (Kd.C_below HA.out.2.2.1 hBx) HG.out.2.2.1 (Kd.C_below HA.out.2.2.2.1 hBx) HG.out.2.2.2.1 (Kd.C_below HA.out.2.2.2.2.1 hBx) HG.out.2.2.2.2.1 HO.out.1).mono ?_
      rintro e w2 ⟨v5,v7,v8,v10,v13,rfl,r5,r7,r8,r10,r13,hb2⟩
      obtain ⟨BL,dL,rfl⟩:=Kd.S_slice r5
      obtain ⟨BM,dM,rfl⟩:=Kd.R_slice r7
      obtain ⟨BK,dK,rfl⟩:=Kd.R_slice r8
      obtain ⟨BB,dB,rfl⟩:=Kd.R_slice r10
      obtain ⟨BD,dD,rfl⟩:=Kd.R_slice r13
      have hRd : Rd w2 s BL dL BM dM BK dK BB dB BD dD:=by
        refine⟨⟨(Kd.S_reads' r5).2.2,(Kd.S_reads' r5).2.1⟩,⟨(Kd.R_reads' r7).2.2,(Kd.R_reads' r7).2.1⟩,⟨(Kd.R_reads' r8).2.2,(Kd.R_reads' r8).2.1⟩,?_,⟨(Kd.R_reads' r13).2.2,(Kd.R_reads' r13).2.1⟩⟩
        rw [HO.out.2.2]
        exact⟨(Kd.R_reads' r10).2.2,(Kd.R_reads' r10).2.1⟩
      have hval : (.agg #[.int .i64 s.id,.int .i64 s.n,.int .i64 s.view,.int .i64 s.last,.int .i64 s.status,.slice BL s.log.length dL,.int .i64 s.commit,.slice BM s.mat.length dM,.slice BK s.marks.length dK,.bool s.sent,.slice BB (bl.map ofB).length dB,.int .i64 s.elapsed,.int .i64 s.timeout,.slice BD s.draws.length dD] : Value) = .agg #[.int .i64 s.id,.int .i64 s.n,.int .i64 s.view,.int .i64 s.last,.int .i64 s.status,.slice BL s.log.length dL,.int .i64 s.commit,.slice BM s.mat.length dM,.slice BK s.marks.length dK,.bool s.sent,.slice BB s.bals.length dB,.int .i64 s.elapsed,.int .i64 s.timeout,.slice BD s.draws.length dD]:=by rw [HO.out.2.2]
      rw [hval]
      exact⟨_,rfl,_,rfl,trivial,GL.more (by decide) (by decide) (by decide) (by decide) (by decide) hG.1 h4 h10 hb2,GP.of BL dL BM dM BK dK BB dB BD dD hG.2 h3 hRd⟩
    · obtain rfl:=Option.some.inj (show some _ = some o from ho)
      have kx:=blk_below HW.out.2.2 hG.1.1
      have a0 : wx.cell? ⟨w.heap.size + 1,0,none⟩ = some (.int .i64 k):=(blk_cell kx 0).trans rfl
      have a1 : wx.cell? ⟨w.heap.size + 1,1,none⟩ = some (.int .i64 x.kind):=(blk_cell kx 1).trans rfl
      have a2 : wx.cell? ⟨w.heap.size + 1,2,none⟩ = some (.int .i64 x.fro):=(blk_cell kx 2).trans rfl
      have a3 : wx.cell? ⟨w.heap.size + 1,3,none⟩ = some (.int .i64 x.dst):=(blk_cell kx 3).trans rfl
      have a4 : wx.cell? ⟨w.heap.size + 1,4,none⟩ = some (.int .i64 x.view):=(blk_cell kx 4).trans rfl
      have a5 : wx.cell? ⟨w.heap.size + 1,5,none⟩ = some (.int .i64 x.last):=(blk_cell kx 5).trans rfl
      have a6 : wx.cell? ⟨w.heap.size + 1,6,none⟩ = some (.int .i64 x.prev):=(blk_cell kx 6).trans rfl
      have a7 : wx.cell? ⟨w.heap.size + 1,7,none⟩ = some (.slice AX x.log.length cX):=(blk_cell kx 7).trans rfl
      have a8 : wx.cell? ⟨w.heap.size + 1,8,none⟩ = some (.int .i64 x.commit):=(blk_cell kx 8).trans rfl
      have a9 : wx.cell? ⟨w.heap.size + 1,9,none⟩ = some (.int .i64 x.mat):=(blk_cell kx 9).trans rfl
      have a10 : wx.cell? ⟨w.heap.size + 1,10,none⟩ = some (.slice A data.length c):=(blk_cell kx 10).trans rfl
      refine wv_ (v:=.agg #[.int .i64 k,.int .i64 x.kind,.int .i64 x.fro,.int .i64 x.dst,.int .i64 x.view,.int .i64 x.last,.int .i64 x.prev,.slice AX x.log.length cX,.int .i64 x.commit,.int .i64 x.mat,.slice A data.length c]) (by go_simp;with_reducible rfl) ?_
      exact⟨_,rfl,rfl,⟨GL.upd (by decide) (by decide) (by decide) (by decide) (by decide) hG.1,GP.same (by decide) (by decide) (by decide) (by decide) hG.2⟩⟩
    · obtain rfl:=Option.some.inj (show some _ = some o from ho)
      have e14 : u 14 = _:=hF 2 (by decide) (hn 2 (by decide)) 14 rfl
      have h4 : l 4 = false:=Bool.eq_false_iff.2 (fun h=>nomatch (hx 4 _ rfl h 3 (by decide)).symm.trans hl)
      have h6 : l 5 = false:=Bool.eq_false_iff.2 (fun h=>nomatch (hx 5 _ rfl h 4 (by decide)).symm.trans h4)
      have h66 : l 6 = false:=Bool.eq_false_iff.2 (fun h=>nomatch (hx 6 _ rfl h 5 (by decide)).symm.trans h6)
      have h10 : l 10 = false:=Bool.eq_false_iff.2 (fun h=>nomatch (hx 10 _ rfl h 6 (by decide)).symm.trans h66)
      have hBx:=HW.out.1.trans (hG.1.1.mono HW.out.1.size)
      refine wc_ Try.func11 (by kernel_rfl) rfl #[.agg #[.int .i64 k,.int .i64 x.kind,.int .i64 x.fro,.int .i64 x.dst,.int .i64 x.view,.int .i64 x.last,.int .i64 x.prev,.slice AX x.log.length cX,.int .i64 x.commit,.int .i64 x.mat,.slice A data.length c]] rfl (by simp only [List.map_toArray,List.map_cons,List.map_nil,Act.eval];rw [← e14];rfl) ?_
      refine(undercroftlaw19_OfEvent.calls kf k x.kind x.fro x.dst x.view x.last x.prev AX cX x.log x.commit x.mat A c data _ _ _ _ _ _ _ _ _ _ _ wx (Kd.C_below HA.out.2.2.2.2.2.1 hBx) HG.out.2.2.2.2.2.1 (Kd.C_below HA.out.2.2.2.2.2.2 hBx) HG.out.2.2.2.2.2.2 HO.out.2.1).mono ?_
      rintro e w2 ⟨v7,v10,rfl,r7,r10,hb2⟩
      obtain ⟨BX,dX,rfl⟩:=Kd.S_slice r7
      obtain ⟨BA,dA,rfl⟩:=Kd.R_slice r10
      exact⟨_,rfl,_,rfl,trivial,GL.more (by decide) (by decide) (by decide) (by decide) (by decide) hG.1 h4 h10 hb2,GP.ev BX dX BA dA hG.2 hb2 (Kd.S_reads' r7).2.2 (Kd.S_reads' r7).2.1 (Kd.R_reads' r10).2.2⟩
    · obtain rfl:=Option.some.inj (show some _ = some o from ho)
      obtain ⟨BL,dL,BM,dM,BK,dK,BB,dB,BD,dD,e13,hrd⟩:=hG.2.1 (hn 1 (by decide)) hl
      obtain ⟨BX,dX,BA,dA,e15,c1,c2,c3⟩:=hG.2.2 (hn 3 (by decide)) hl
      have h6 : l 5 = false:=Bool.eq_false_iff.2 (fun h=>nomatch (hx 5 _ rfl h 4 (by decide)).symm.trans hl)
      have h66 : l 6 = false:=Bool.eq_false_iff.2 (fun h=>nomatch (hx 6 _ rfl h 5 (by decide)).symm.trans h6)
      have h10 : l 10 = false:=Bool.eq_false_iff.2 (fun h=>nomatch (hx 10 _ rfl h 6 (by decide)).symm.trans h66)
      refine wc_ Try.func8 (by kernel_rfl) rfl #[.agg #[.int .i64 s.id,.int .i64 s.n,.int .i64 s.view,.int .i64 s.last,.int .i64 s.status,.slice BL s.log.length dL,.int .i64 s.commit,.slice BM s.mat.length dM,.slice BK s.marks.length dK,.bool s.sent,.slice BB s.bals.length dB,.int .i64 s.elapsed,.int .i64 s.timeout,.slice BD s.draws.length dD],.agg #[.int .i64 k,.int .i64 x.kind,.int .i64 x.fro,.int .i64 x.dst,.int .i64 x.view,.int .i64 x.last,.int .i64 x.prev,.slice BX x.log.length dX,.int .i64 x.commit,.int .i64 x.mat,.slice BA data.length dA]] rfl (by simp only [List.map_toArray,List.map_cons,List.map_nil,Act.eval];rw [← e13,← e15];rfl) ?_
      refine(Step.calls s BL dL BM dM BK dK BB dB BD dD x BX dX BA dA data k wx hrd c1 c2 c3).mono ?_
      rw [HR.out]
      intro e w2 hs
      obtain ⟨hb2,CS,mv,rfl,q1,q2,q3⟩:=StepRes_to hs
      exact⟨_,rfl,_,rfl,trivial,GL.call (LT.stays _ _ _) hG.1 h10 q1 q2 hb2 q3,GP.step⟩
    · obtain rfl:=Option.some.inj (show some _ = some o from ho)
      refine wv_ (v:=u 16) (by go_simp;with_reducible rfl) ?_
      exact⟨_,rfl,(upd_ne (by decide)).symm,⟨GL.upd (by decide) (by decide) (by decide) (by decide) (by decide) hG.1,GP.same (by decide) (by decide) (by decide) (by decide) hG.2⟩⟩
    · obtain rfl:=Option.some.inj (show some _ = some o from ho)
      obtain ⟨CS,mv,cc1,cc2,cc3,_⟩:=hG.1.2.2 (hx 5 _ rfl (hn 5 (by decide)) 4 (by decide))
      have e11 : u 11 = .tuple #[.agg CS,mv,.int .i64 (codeOf (errO R))]:=(hF 5 (by decide) (hn 5 (by decide)) 11 rfl).trans cc3
      refine wv_ (v:=.agg CS) (by go_simp;with_reducible rfl) ?_
      exact⟨_,rfl,(fun CS' mv' h=>by have h2 : Rv2 (codeOf (errO R)) CS mv = Rv2 (codeOf (errO R)) CS' mv':=cc3.symm.trans ((upd_ne (by decide)).symm.trans h);rw [(Rv2.inj h2).1]),⟨GL.upd (by decide) (by decide) (by decide) (by decide) (by decide) hG.1,GP.same (by decide) (by decide) (by decide) (by decide) hG.2⟩⟩
    · obtain rfl:=Option.some.inj (show some _ = some o from ho)
      obtain ⟨CS,mv,cc1,cc2,cc3,_⟩:=hG.1.2.2 (hx 5 _ rfl (hn 5 (by decide)) 4 (by decide))
      have e11 : u 11 = .tuple #[.agg CS,mv,.int .i64 (codeOf (errO R))]:=(hF 5 (by decide) (hn 5 (by decide)) 11 rfl).trans cc3
      refine wv_ (v:=mv) (by go_simp;with_reducible rfl) ?_
      exact⟨_,rfl,(fun CS' mv' h=>by have h2 : Rv2 (codeOf (errO R)) CS mv = Rv2 (codeOf (errO R)) CS' mv':=cc3.symm.trans ((upd_ne (by decide)).symm.trans h);rw [(Rv2.inj h2).2]),⟨GL.upd (by decide) (by decide) (by decide) (by decide) (by decide) hG.1,GP.same (by decide) (by decide) (by decide) (by decide) hG.2⟩⟩
    · obtain rfl:=Option.some.inj (show some _ = some o from ho)
      obtain ⟨CS,mv,cc1,cc2,cc3,_⟩:=hG.1.2.2 (hx 5 _ rfl (hn 5 (by decide)) 4 (by decide))
      have e11 : u 11 = .tuple #[.agg CS,mv,.int .i64 (codeOf (errO R))]:=(hF 5 (by decide) (hn 5 (by decide)) 11 rfl).trans cc3
      refine wv_ (v:=.int .i64 (codeOf (errO R))) (by go_simp;with_reducible rfl) ?_
      exact⟨_,rfl,rfl,⟨GL.upd (by decide) (by decide) (by decide) (by decide) (by decide) hG.1,GP.same (by decide) (by decide) (by decide) (by decide) hG.2⟩⟩
    · obtain rfl:=Option.some.inj (show some _ = some o from ho)
      have h10 : l 10 = false:=Bool.eq_false_iff.2 (fun h=>nomatch (hx 10 _ rfl h 9 (by decide)).symm.trans hl)
      refine wv_ (v:=.pointer (some ⟨wx.heap.size,0,none⟩)) (w1:=wx.alloc (.cells #[.int .i64 0,.int .i64 0,.int .i64 0,.int .i64 0,.int .i64 0,.slice none 0 0,.int .i64 0,.slice none 0 0,.slice none 0 0,.bool false,.slice none 0 0,.int .i64 0,.int .i64 0,.slice none 0 0] 29)) (by first|(go_simp;done)|(go_simp;with_reducible rfl)) ?_
      exact⟨_,rfl,trivial,GL.alloc (LT.stays _ _ _) hG.1 hl h10,GP.upd (by decide) (by decide) (by decide) (by decide) hG.2 (below_alloc (Below.refl _ _) _)⟩
    · obtain rfl:=Option.some.inj (show some _ = some o from ho)
      have h9:=hn 9 (by decide)
      have h6:=hn 6 (by decide)
      have h5:=hx 6 _ rfl h6 5 (by decide)
      have h4:=hx 5 _ rfl h5 4 (by decide)
      obtain ⟨CS,mv,cc1,cc2,cc3,_⟩:=hG.1.2.2 h4
      obtain ⟨g,g1,g2,g3',g4,_⟩:=hG.1.2.1 h9
      have e17 : u 17 = .agg CS:=hF 6 (by decide) h6 17 rfl CS mv cc3
      refine wp_store_row 29 (.tmp 5) (.tmp 17) rfl g CS g1 e17 29 _ (g4 hl) (by rw [cc1];kernel_rfl) cc1.symm cc2 ?_
      exact⟨undef,rfl,trivial,GL.store (LT.stays _ _ _) hG.1 h9 h4 hl g1 cc3,GP.past h4⟩
    · obtain rfl:=Option.some.inj (show some _ = some o from ho)
      obtain ⟨CS,mv,cc1,cc2,cc3,_⟩:=hG.1.2.2 (hx 5 _ rfl (hx 7 _ rfl (hn 7 (by decide)) 5 (by decide)) 4 (by decide))
      have e18 : u 18 = mv:=hF 7 (by decide) (hn 7 (by decide)) 18 rfl CS mv cc3
      refine wv_ (v:=mv) (by go_simp;with_reducible rfl) ?_
      exact⟨_,rfl,(fun CS' mv' h=>by have h2 : Rv2 (codeOf (errO R)) CS mv = Rv2 (codeOf (errO R)) CS' mv':=cc3.symm.trans ((upd_ne (by decide)).symm.trans h);rw [(Rv2.inj h2).2]),⟨GL.upd (by decide) (by decide) (by decide) (by decide) (by decide) hG.1,GP.same (by decide) (by decide) (by decide) (by decide) hG.2⟩⟩
    · obtain rfl:=Option.some.inj (show some _ = some o from ho)
      have e19 : u 19 = _:=hF 8 (by decide) (hn 8 (by decide)) 19 rfl
      refine wv_ (v:=.int .i64 (codeOf (errO R))) (by go_simp;with_reducible rfl) ?_
      exact⟨_,rfl,rfl,⟨GL.upd (by decide) (by decide) (by decide) (by decide) (by decide) hG.1,GP.same (by decide) (by decide) (by decide) (by decide) hG.2⟩⟩
    · exact absurd ho (by simp)
  case tdone =>
    intro l u wx hall hG hF
    dsimp only
    obtain ⟨CS,mv,cc1,cc2,cc3,cc4⟩:=hG.1.2.2 (hall 4 (by decide))
    obtain ⟨g,g1,g2,g3',_,g5⟩:=hG.1.2.1 (hall 9 (by decide))
    obtain ⟨CS',mv',q1,q2⟩:=g5 (hall 10 (by decide))
    obtain ⟨rfl,rfl⟩:=Rv2.inj (cc3.symm.trans q1)
    have f6 : u 6 = mv:=hF 11 (by decide) 6 rfl CS mv cc3
    have f7 : u 7 = .int .i64 (codeOf (errO R)):=hF 12 (by decide) 7 rfl
    have hB1:=hG.1.1
    have HX:=Aside0.mk (show Below w.heap.size w wx∧wx.heap[w.heap.size]? = some (.cells #[.int .i64 s.id,.int .i64 s.n,.int .i64 s.view,.int .i64 s.last,.int .i64 s.status,.slice AL s.log.length cL,.int .i64 s.commit,.slice AM s.mat.length cM,.slice AK s.marks.length cK,.bool s.sent,.slice AB bl.length cB,.int .i64 s.elapsed,.int .i64 s.timeout,.slice AD s.draws.length cD] 44 (0,0))∧wx.heap[w.heap.size + 1]? = some (.cells #[.int .i64 k,.int .i64 x.kind,.int .i64 x.fro,.int .i64 x.dst,.int .i64 x.view,.int .i64 x.last,.int .i64 x.prev,.slice AX x.log.length cX,.int .i64 x.commit,.int .i64 x.mat,.slice A data.length c] 47 (0,0))∧wx.heap[g]? = some (.cells CS 29 (0,0)) from⟨HW.out.1.trans (hB1.mono HW.out.1.size),blk_below HW.out.2.1 hB1,blk_below HW.out.2.2 hB1,q2⟩)
    have HT:=Aside0.mk ((LT.stays _ _ _).go _ _ _ _ _ (fun _=>False) cc4 (Keeps.refl _ _) (fun i hi=>hi.elim))
    rw [g1,f6,f7]
    clear hG hF hall hB1 q1 q2 g1 g2 g3' g5 cc1 cc2 cc3 cc4 f6 f7 HW
    cases R with
    | error code =>
      have hz : code ≠ 0:=HGD.out
      have b0 : (code != 0) = true:=bne_iff_ne.mpr hz
      have b1 : (code == 0) = false:=beq_eq_false_iff_ne.mpr hz
      obtain ⟨hcs,hmv⟩:=HT.out
      have HV:=Aside0.mk hcs
      rw [hmv,show codeOf (errO (Except.error code)) = code from rfl]
      clear hz hcs hmv HT
      go_wp2_with (go_at_call 9;refine(Num.calls _ _).mono ?_;rintro e w' ⟨rfl,hw'⟩;have hw':=hw'.symm;subst hw')
      go_ret
      exact⟨rfl,HX.out.1⟩
    | ok y =>
      obtain ⟨BL,dL,BM,dM,BK,dK,BB,dB,BD,dD,AO,cO,hcs,hmv,hrd⟩:=HT.out
      obtain ⟨s',out⟩:=y
      have hmv2 : mv = .slice AO out.length cO:=hmv
      rw [hmv2,show codeOf (errO (Except.ok (s',out))) = 0 from rfl]
      clear hmv2
      have kg:=HX.out.2.2.2
      rw [hcs] at kg
      have KG:=Aside0.mk (show wx.heap[g]? = some (.cells #[.int .i64 s'.id,.int .i64 s'.n,.int .i64 s'.view,.int .i64 s'.last,.int .i64 s'.status,.slice BL s'.log.length dL,.int .i64 s'.commit,.slice BM s'.mat.length dM,.slice BK s'.marks.length dK,.bool s'.sent,.slice BB s'.bals.length dB,.int .i64 s'.elapsed,.int .i64 s'.timeout,.slice BD s'.draws.length dD] 29 (0,0)) from kg)
      have HRD:=Aside0.mk (show(∀ W,Keeps wx W (fun _=>False)→Rd W s' BL dL BM dM BK dK BB dB BD dD∧kMs.C W AO out.length out) from hrd)
      have HGG:=Aside0.mk (show s'.n = s.n∧s'.id = s.id∧∀ m ∈ out,Told s' m from HGD.out)
      have HBG:=Aside0.mk (show out.length ≤ 9223372036854775807 from(hrd wx (Keeps.refl _ _)).2.2.1)
      clear hcs hmv hrd kg HT HGD
      go_upto_region 6 with (go_at_call 9;refine(Num.calls _ _).mono ?_;rintro e w' ⟨rfl,hw'⟩;have hw':=hw'.symm;subst hw')
      go_wp2_with fail
      go_loopg [8] (out.length + 1) (fun gg s8 wr=>∃ kk : Nat,s8 = .int .i64 (kk : Int)∧Aside0 (kk ≤ out.length∧out.length - kk < gg∧Below wx.heap.size wx wr))
      case atStart=>exact⟨0,rfl,⟨Nat.zero_le _,by omega,Below.refl _ _⟩⟩
      case round =>
        obtain ⟨kk,rfl,Z⟩:=hrel
        have hkw:=Keeps.of_belows Z.out.2.2 (fun _=>False)
        have HRW:=Aside0.mk (HRD.out wr hkw)
        clear hkw
        have kgw:=blk_below KG.out Z.out.2.2
        have z0 : wr.cell? ⟨g,0,none⟩ = some (.int .i64 s'.id):=(blk_cell kgw 0).trans rfl
        have z1 : wr.cell? ⟨g,1,none⟩ = some (.int .i64 s'.n):=(blk_cell kgw 1).trans rfl
        have z2 : wr.cell? ⟨g,2,none⟩ = some (.int .i64 s'.view):=(blk_cell kgw 2).trans rfl
        have KGW:=Aside0.mk kgw
        clear kgw
        by_cases hlt : kk < out.length
        · have c1 : decide ((kk : Int) < (out.length : Int)) = true:=decide_eq_true (by omega)
          obtain ⟨ad,e,m0,m1,m2,m3⟩:=at_Ms HRW.out.2 (kk : Int) (by omega) (by omega)
          cases e
          rw [Int.toNat_natCast] at m0 m1 m2 m3
          have hmem : out.getD kk zMs ∈ out:=by
            rw [List.getD_eq_getElem?_getD,List.getElem?_eq_getElem hlt]
            exact List.getElem_mem hlt
          obtain ⟨t1,t2,t3,t4,t5,t6,t7⟩:=HGG.out.2.2 _ hmem
          generalize out.getD kk zMs = ms at *
          rw [t1] at m1
          rw [t2] at m3
          have p1 : (0 ≤ (kk : Int)) = True:=eq_true (by omega)
          have p2 : ((kk : Int) < (out.length : Int)) = True:=eq_true (by omega)
          have d2 : (ms.dst == s'.id) = false:=beq_eq_false_iff_ne.mpr t5
          have d3 : decide (ms.dst < 0) = false:=decide_eq_false (by omega)
          have d4 : decide (s'.n ≤ ms.dst) = false:=decide_eq_false (by omega)
          have d5 : decide (ms.kind < 1) = false:=decide_eq_false (by omega)
          have d6 : decide (7 < ms.kind) = false:=decide_eq_false (by omega)
          have hw : wrap64 ((kk : Int) + 1) = ((kk + 1 : Nat) : Int):=by have:=HBG.out;unfold wrap64;omega
          clear t1 t2 t3 t4 t5 t6 t7 hmem
          go_upto_region 9 with (fail)
          go_quiet (fail)
          go_wp2
          rw [hw]
          obtain ⟨gg,rfl⟩ : ∃ m,gk = m + 1:=⟨gk - 1,by have:=Z.out;omega⟩
          have hZ:=Z.out
          go_roundg gg
          case measure=>omega
          case rel=>exact⟨kk + 1,rfl,⟨by omega,by omega,pw_below_drewN hZ.2.2 _⟩⟩
        · have c1 : decide ((kk : Int) < (out.length : Int)) = false:=decide_eq_false (by omega)
          have c1n : decide (kk < out.length) = false:=decide_eq_false hlt
          have k44:=blk_below HX.out.2.1 Z.out.2.2
          have k47:=blk_below HX.out.2.2.1 Z.out.2.2
          have y0 : wr.cell? ⟨w.heap.size + 1,0,none⟩ = some (.int .i64 k):=(blk_cell k47 0).trans rfl
          have y4 : wr.cell? ⟨w.heap.size + 1,4,none⟩ = some (.int .i64 x.view):=(blk_cell k47 4).trans rfl
          have a2 : wr.cell? ⟨w.heap.size,2,none⟩ = some (.int .i64 s.view):=(blk_cell k44 2).trans rfl
          have HBR:=Aside0.mk (HX.out.1.trans (Z.out.2.2.mono HX.out.1.size))
          have K44:=Aside0.mk k44
          clear k44 k47
          by_cases hk2 : k = 2
          · have b1 : (k == 2) = true:=beq_iff_eq.mpr hk2
            by_cases hv : x.view < s.view
            · have b2 : decide (x.view < s.view) = true:=decide_eq_true hv
              subst hk2
              have ho:=stepF_old hv HR.out
              injection ho with ho1 ho2
              have ho1:=ho1.symm
              subst ho1
              subst ho2
              clear hv b1
              go_upto_region 12 with (fail)
              have z3 : wr.cell? ⟨g,3,none⟩ = some (.int .i64 s.last):=(blk_cell KGW.out 3).trans rfl
              have z4 : wr.cell? ⟨g,4,none⟩ = some (.int .i64 s.status):=(blk_cell KGW.out 4).trans rfl
              have z5 : wr.cell? ⟨g,5,none⟩ = some (.slice BL s.log.length dL):=(blk_cell KGW.out 5).trans rfl
              have z6 : wr.cell? ⟨g,6,none⟩ = some (.int .i64 s.commit):=(blk_cell KGW.out 6).trans rfl
              have z7 : wr.cell? ⟨g,7,none⟩ = some (.slice BM s.mat.length dM):=(blk_cell KGW.out 7).trans rfl
              have z8 : wr.cell? ⟨g,8,none⟩ = some (.slice BK s.marks.length dK):=(blk_cell KGW.out 8).trans rfl
              have z9 : wr.cell? ⟨g,9,none⟩ = some (.bool s.sent):=(blk_cell KGW.out 9).trans rfl
              have z10 : wr.cell? ⟨g,10,none⟩ = some (.slice BB s.bals.length dB):=(blk_cell KGW.out 10).trans rfl
              have z11 : wr.cell? ⟨g,11,none⟩ = some (.int .i64 s.elapsed):=(blk_cell KGW.out 11).trans rfl
              have z12 : wr.cell? ⟨g,12,none⟩ = some (.int .i64 s.timeout):=(blk_cell KGW.out 12).trans rfl
              have z13 : wr.cell? ⟨g,13,none⟩ = some (.slice BD s.draws.length dD):=(blk_cell KGW.out 13).trans rfl
              have a0 : wr.cell? ⟨w.heap.size,0,none⟩ = some (.int .i64 s.id):=(blk_cell K44.out 0).trans rfl
              have a1 : wr.cell? ⟨w.heap.size,1,none⟩ = some (.int .i64 s.n):=(blk_cell K44.out 1).trans rfl
              have a3 : wr.cell? ⟨w.heap.size,3,none⟩ = some (.int .i64 s.last):=(blk_cell K44.out 3).trans rfl
              have a4 : wr.cell? ⟨w.heap.size,4,none⟩ = some (.int .i64 s.status):=(blk_cell K44.out 4).trans rfl
              have a5 : wr.cell? ⟨w.heap.size,5,none⟩ = some (.slice AL s.log.length cL):=(blk_cell K44.out 5).trans rfl
              have a6 : wr.cell? ⟨w.heap.size,6,none⟩ = some (.int .i64 s.commit):=(blk_cell K44.out 6).trans rfl
              have a7 : wr.cell? ⟨w.heap.size,7,none⟩ = some (.slice AM s.mat.length cM):=(blk_cell K44.out 7).trans rfl
              have a8 : wr.cell? ⟨w.heap.size,8,none⟩ = some (.slice AK s.marks.length cK):=(blk_cell K44.out 8).trans rfl
              have a9 : wr.cell? ⟨w.heap.size,9,none⟩ = some (.bool s.sent):=(blk_cell K44.out 9).trans rfl
              have a10 : wr.cell? ⟨w.heap.size,10,none⟩ = some (.slice AB bl.length cB):=(blk_cell K44.out 10).trans rfl
              have a11 : wr.cell? ⟨w.heap.size,11,none⟩ = some (.int .i64 s.elapsed):=(blk_cell K44.out 11).trans rfl
              have a12 : wr.cell? ⟨w.heap.size,12,none⟩ = some (.int .i64 s.timeout):=(blk_cell K44.out 12).trans rfl
              have a13 : wr.cell? ⟨w.heap.size,13,none⟩ = some (.slice AD s.draws.length cD):=(blk_cell K44.out 13).trans rfl
              go_wp2_with (go_at_call 12;refine(Alike.calls s bl HO.out.2.2 BL dL BM dM BK dK BB dB BD dD AL cL AM cM AK cK AB cB AD cD _ HRW.out.1 (Kd.C_below HA.out.1 HBR.out) (Kd.C_below HA.out.2.1 HBR.out) (Kd.C_below HA.out.2.2.1 HBR.out) (Kd.C_below HA.out.2.2.2.1 HBR.out) (Kd.C_below HA.out.2.2.2.2.1 HBR.out)).mono ?_;rintro e w2 ⟨rfl,hb2⟩;have HB2:=Aside0.mk hb2;clear hb2)
              go_ret
              exact⟨rfl,HBR.out.trans (HB2.out.mono HBR.out.size)⟩
            · have b2 : decide (x.view < s.view) = false:=decide_eq_false hv
              go_wp2
              go_ret
              exact⟨rfl,HBR.out⟩
          · have b1 : (k == 2) = false:=beq_eq_false_iff_ne.mpr hk2
            go_wp2
            go_ret
            exact⟨rfl,HBR.out⟩
end Go.Proofs.Ytojjnifbnppliaa.T
end
section
namespace Go.Proofs.Ytojjnifbnppliaa.T
open Go.RowKit Go.Proofs.YtojjnifbnppliaaW.PrintWords Go.Proofs.YtojjnifbnppliaaW.PrintLast Go.Proofs.YtojjnifbnppliaaW.PrintMore
attribute [local go_sem] max2_int min2_int max_two min_two max_three min_three max_four min_four   -- for this text's walks alone
set_option linter.unusedVariables false
set_option linter.unusedSimpArgs false
def undercroftplain_CopyBytes.f (l0 : List Int) : Option (List Int):=if([] : List Int).length + l0.length < 140737488355328 then(some (([] : List Int) ++ l0)) else(none)
set_option maxHeartbeats 8000000 in
set_option maxRecDepth 100000 in
theorem undercroftplain_CopyBytes.calls (A0 : Option Addr) (c0 : Nat) (l0 : List Int) (r : List Int) (w : World) (hr0 : Kd.C (Kd.int .u8) w A0 l0.length l0) (hc0 : l0.length ≤ c0) (h : undercroftplain_CopyBytes.f l0 = some r) :
    Calls Try.prog 29 #[.slice A0 l0.length c0] w fun e w'=>∃ v0_ : Value,e = .returned (v0_)∧Kd.R (Kd.int .u8) 5 w' w.heap.size (fun _=>True) v0_ r∧Below w.heap.size w w':=by
  have HR0:=Aside0.mk hr0
  have HC0:=Aside0.mk hc0
  clear hr0 hc0
  have HB:=Aside0.mk (Below.refl w.heap.size w)
  have H : (if([] : List Int).length + l0.length < 140737488355328 then(some (([] : List Int) ++ l0)) else(none)) = some r:=h
  clear h
  by_cases c2 : ([] : List Int).length + l0.length < 140737488355328
  · rw [if_pos c2] at H
    have LMc2:=Aside0.mk c2
    clear c2
    obtain ⟨y151,hy151⟩ : ∃ y_ : List Int,y_ = (([] : List Int) ++ l0):=⟨_,rfl⟩
    replace H : (some y151) = some r:=by first|(rw [hy151];with_reducible exact H)|(have H2_:=(Option.bind_some _ _).symm.trans H;rw [hy151];with_reducible exact H2_)|(have H2_:=(Option.bind_some _ _).symm.trans H;with_reducible exact H2_)|with_reducible exact H|(rw [hy151];exact H)|exact H
    have Ny151:=Aside0.mk hy151
    clear hy151
    obtain rfl:=Option.some.inj H
    go_enter Try.func29,Try.ntmps29
    go_wp2_with (first|((with_reducible refine gate_builtin (b:=.append) (xs:=#[.tmp 4,.tmp 5]) rfl ?_);at_builtin;refine Kd.R_append_rows (Kd.int .u8) (w0:=w) w.heap.size rfl (.tmp 4) (.tmp 5) 22 5 (.int .u8 0) 1 rfl Try.underlying22 info5 rfl (by decide) (by omega) (.slice none 0 0) ([] : List Int) l0 _ _ _ (fun _=>True) (fun _=>False) rfl rfl ?aO ?aR (fun _ _ h=>h) (fun _ h=>h.elim) ?aF ?aB ?aS ?aL ?_;(case aR=>repeat (first|exact HR0.out|(with_reducible refine Kd.C_alloc ?_ _)|(with_reducible refine Kd.C_drewN ?_ _)|(with_reducible refine Kd.C_drew ?_)));(case aB=>exact(by repeat (first|(with_reducible first|exact HB.out|apply below_alloc|apply pw_below_drewN|apply below_drew1)|exact HB.out)));(case aF=>exact(fun _ _=>trivial));(case aO=>exact((Kd.R_nil _ _ _ _ (fun _=>True))));(case aS=>exact(below_size (by repeat (first|(with_reducible first|exact HB.out|apply below_alloc|apply pw_below_drewN|apply below_drew1)|exact HB.out))));(case aL=>have:=LMc2.out;omega);intro v152 w3 ho hb hg hat;rw [← Ny151.out] at ho;have n0_:=Aside0.mk (hb);have n1_:=Aside0.mk (ho);clear HB;have HB:=n0_;have HO153:=n1_;clear n0_ n1_;clear ho hb hg hat))
    go_ret
    exact⟨_,by first|rfl|(simp [errW_none,errW_some] <;> rfl)|(simp [*,errW_none,errW_some] <;> rfl),by(with_reducible repeat (first|apply Kd.R_alloc|apply Kd.R_drewN|apply Kd.R_drew));exact HO153.out,by repeat (first|(with_reducible first|exact HB.out|apply below_alloc|apply pw_below_drewN|apply below_drew1)|exact HB.out)⟩
  · rw [if_neg c2] at H
    exact absurd H (by simp)
end Go.Proofs.Ytojjnifbnppliaa.T
end
section
namespace Go.Proofs.Ytojjnifbnppliaa.T
open Go.RowKit Go.Proofs.YtojjnifbnppliaaW.PrintWords Go.Proofs.YtojjnifbnppliaaW.PrintLast Go.Proofs.YtojjnifbnppliaaW.PrintMore
attribute [local go_sem] max2_int min2_int max_two min_two max_three min_three max_four min_four   -- for this text's walks alone
set_option linter.unusedVariables false
set_option linter.unusedSimpArgs false
def undercroftplain_CopyLists.l0 : Nat→List (List Int)→List (List Int)→Int→Option ((List (List Int)))
  | 0,_,_,_=>none
  | k + 1,x0,x3,x4=>if x4 < (x0.length : Int) then(if 0 ≤ x4 then((undercroftplain_CopyBytes.f (rd_L1 x0 x4)).bind fun t155=>(if x3.length < 5864062014805 then(undercroftplain_CopyLists.l0 k x0 (x3 ++ [t155]) (wrap64 (x4 + 1))) else(none))) else(none)) else(some x3)
def undercroftplain_CopyLists.f (k : Nat) (l0 : List (List Int)) : Option ((List (List Int))):=undercroftplain_CopyLists.l0 k l0 ([] : List (List Int)) 0
set_option maxHeartbeats 8000000 in
set_option maxRecDepth 100000 in
theorem undercroftplain_CopyLists.calls (k : Nat) (A0 : Option Addr) (c0 : Nat) (l0 : List (List Int)) (r : List (List Int)) (w : World) (hr0 : Kd.C (Kd.slice 5 (Kd.int .u8)) w A0 l0.length l0) (hc0 : l0.length ≤ c0) (h : undercroftplain_CopyLists.f k l0 = some r) :
    Calls Try.prog 25 #[.slice A0 l0.length c0] w fun e w'=>∃ v0_ : Value,e = .returned (v0_)∧Kd.S (Kd.slice 5 (Kd.int .u8)) 22 w' w.heap.size (fun _=>True) v0_ r∧Below w.heap.size w w':=by
  have HR0:=Aside0.mk hr0
  have HC0:=Aside0.mk hc0
  clear hr0 hc0
  have HB:=Aside0.mk (Below.refl w.heap.size w)
  have H : (undercroftplain_CopyLists.l0 k l0 ([] : List (List Int)) 0) = some r:=h
  clear h
  have H':=Aside0.mk H
  clear H
  go_enter Try.func25,Try.ntmps25
  go_wp2
  go_loopg [3,4] k (fun kq v3 v4 w'=>∃ (x3_1 : List (List Int)) (x4_1 : Int),v4 = .int .i64 x4_1∧Aside0 (undercroftplain_CopyLists.l0 kq l0 x3_1 x4_1 = some r)∧Aside0 (kq ≤ k)∧Aside0 (Kd.S (Kd.slice 5 (Kd.int .u8)) 22 w' w.heap.size (fun _=>True) v3 x3_1)∧Aside0 (Below w.heap.size w w'))
  case atStart=>exact⟨(([] : List (List Int))),(0),(by first|rfl|(simp;done)|(simp [*];done)),H',⟨Nat.le_refl _⟩,⟨by first|exact Kd.S_nil _ _ _ _ _|exact Kd.N_nil _ _ _ _ _|exact Kd.V_nil _ _ _ _ _|exact Kd.Q_nil _ _ _ _ _|exact Kd.R_nil _ _ _ _ _⟩,⟨by repeat (first|(with_reducible first|exact HB.out|apply below_alloc|apply pw_below_drewN|apply below_drew1)|exact HB.out)⟩⟩
  case round =>
    clear H'
    obtain ⟨x3_1,x4_1,rfl,HA,HK1,HO_3,HB⟩:=hrel
    cases gk with
    | zero=>exact absurd HA.out (by simp [undercroftplain_CopyLists.l0])
    | succ k1 =>
      have H:=HA.out
      clear HA
      simp only [undercroftplain_CopyLists.l0] at H
      by_cases c2 : x4_1 < (l0.length : Int)
      · rw [if_pos c2] at H
        have c2b0 : decide (x4_1 < (l0.length : Int)) = true:=decide_eq_true c2
        clear c2
        by_cases c3 : 0 ≤ x4_1
        · rw [if_pos c3] at H
          have c3b0 : decide (0 ≤ x4_1) = true:=decide_eq_true c3
          clear c3
          replace H:=Option.bind_eq_some_iff.mp H
          obtain ⟨t155,A40,H⟩:=H
          replace H : (if x3_1.length < 5864062014805 then(undercroftplain_CopyLists.l0 k1 l0 (x3_1 ++ [t155]) (wrap64 (x4_1 + 1))) else(none)) = some r:=H
          have A4:=Aside0.mk A40
          clear A40
          by_cases c5 : x3_1.length < 5864062014805
          · rw [if_pos c5] at H
            have LMc5:=Aside0.mk c5
            clear c5
            obtain ⟨y158,hy158⟩ : ∃ y_ : List (List Int),y_ = (x3_1 ++ [t155]):=⟨_,rfl⟩
            replace H : (undercroftplain_CopyLists.l0 k1 l0 y158 (wrap64 (x4_1 + 1))) = some r:=by first|(rw [hy158];with_reducible exact H)|(have H2_:=(Option.bind_some _ _).symm.trans H;rw [hy158];with_reducible exact H2_)|(have H2_:=(Option.bind_some _ _).symm.trans H;with_reducible exact H2_)|with_reducible exact H|(rw [hy158];exact H)|exact H
            have Ny158:=Aside0.mk hy158
            clear hy158
            have H':=Aside0.mk H
            clear H
            have p154 : 0 ≤ (x4_1 : Int):=of_decide_eq_true (by first|(with_reducible assumption)|assumption)
            have q154 : x4_1 < (l0.length : Int):=of_decide_eq_true (by first|(with_reducible assumption)|assumption)
            obtain ⟨ad154,A154_0,c154_0,e154,hx154_0,hl154_0,hi154_0⟩:=at_L1 HR0.out x4_1 p154 q154
            cases e154
            replace hx154_0:=(HB.out.cell (World.block_lt_of_cell? w _ hx154_0)).trans hx154_0
            have HR154_0:=Aside0.mk hi154_0
            have HC154_0:=Aside0.mk hl154_0
            clear hi154_0 hl154_0
            replace p154:=eq_true p154
            replace q154:=eq_true q154
            go_wp2_with (first|((with_reducible refine gate_callee (f:=29) rfl ?_);refine goesL_ (some 16) rfl rfl Try.func29 (by kernel_rfl) rfl #[.slice A154_0 (rd_L1 l0 x4_1).length c154_0] rfl (by(try simp only [List.map_toArray,List.map_cons,List.map_nil]);first|done|rfl|(simp only [List.length_drop,List.length_take];rfl)) ?_;(with_reducible refine(undercroftplain_CopyBytes.calls _ _ (rd_L1 l0 x4_1) t155 _ ?side1 ?side2 A4.out).mono ?_);(case side1=>repeat (first|exact(Kd.C_below HR154_0.out HB.out)|(with_reducible refine Kd.C_alloc ?_ _)|(with_reducible refine Kd.C_drewN ?_ _)|(with_reducible refine Kd.C_drew ?_)));(case side2=>exact HC154_0.out);rintro e w6 ⟨v156,rfl,ho0,hb⟩;refine⟨_,rfl,?_⟩;have n0_:=Aside0.mk (Kd.S_elder' (by(with_reducible repeat (first|apply Kd.S_alloc|apply Kd.S_drewN|apply Kd.S_drew));exact HO_3.out) (Kd.R_base ho0) hb);have n1_:=Aside0.mk (Kd.R_lower ho0 (below_size (by repeat (first|(with_reducible first|exact HB.out|apply below_alloc|apply pw_below_drewN|apply below_drew1)|exact HB.out))));have n2_:=Aside0.mk (below_step (by repeat (first|(with_reducible first|exact HB.out|apply below_alloc|apply pw_below_drewN|apply below_drew1)|exact HB.out)) hb);clear HO_3;clear HB;have HO_3:=n0_;have HO157:=n1_;have HB:=n2_;clear n0_ n1_ n2_;(try clear hb);(try clear hb2);(try clear hk);(try clear hi);(try clear ho0);obtain ⟨Ao8,co8,eo8⟩:=Kd.R_slice HO157.out;subst eo8)|((with_reducible refine gate_builtin (b:=.append) (xs:=#[.tmp 11,.tmp 17]) rfl ?_);at_builtin;refine Kd.S_append (Kd.slice 5 (Kd.int .u8)) (w0:=w) w.heap.size rfl (.tmp 11) (.tmp 17) 25 22 (.slice none 0 0) 24 rfl Try.underlying25 info22 rfl (by decide) (by omega) u3 x3_1 t155 [.slice Ao8 t155.length co8] (fun _=>True) (fun k_=>some k_ = (.slice Ao8 t155.length co8 : Value).ownBlock) rfl rfl ?aP (fun k_ hk_=>((Kd.R_mono (ok':=fun k_=>((fun _=>True)) k_∧some k_ ≠ (u3 : Value).ownBlock) (Kd.R_apart' (HO157.out) (Kd.S_typed HO_3.out) (by decide)) (fun k_ hk=>⟨trivial,hk.2⟩))).1 k_ hk_.symm) ?aF ?aO ?aB ?aS ?aL ?_;(case aP=>exact Kd.M_row (Kd.R_mono (Kd.R_tight rfl (Kd.R_mono (ok':=fun k_=>((fun _=>True)) k_∧some k_ ≠ (u3 : Value).ownBlock) (Kd.R_apart' (HO157.out) (Kd.S_typed HO_3.out) (by decide)) (fun k_ hk=>⟨trivial,hk.2⟩))) (fun _ h_=>h_)));(case aB=>exact(by repeat (first|(with_reducible first|exact HB.out|apply below_alloc|apply pw_below_drewN|apply below_drew1)|exact HB.out)));(case aF=>exact(fun _ _=>trivial));(case aO=>exact(by(with_reducible repeat (first|apply Kd.S_alloc|apply Kd.S_drewN|apply Kd.S_drew));exact Kd.S_mono HO_3.out (fun k_ hk=>⟨trivial,fun e_=>hk.2 e_⟩)));(case aS=>exact(below_size (by repeat (first|(with_reducible first|exact HB.out|apply below_alloc|apply pw_below_drewN|apply below_drew1)|exact HB.out))));(case aL=>have:=LMc5.out;omega);intro v159 w7 ho hb hg hat;rw [← Ny158.out] at ho;have n0_:=Aside0.mk (hb);have n1_:=Aside0.mk (ho);clear HB;clear HO_3;clear HO157;have HB:=n0_;have HO160:=n1_;clear n0_ n1_;clear ho hb hg hat))
            go_roundg k1
            case measure=>have:=HK1.out;omega
            case rel=>exact⟨(y158),(wrap64 (x4_1 + 1)),(by first|rfl|(simp;done)|(simp [*];done)),H',⟨by have:=HK1.out;omega⟩,⟨by(with_reducible repeat (first|apply Kd.S_alloc|apply Kd.S_drewN|apply Kd.S_drew));exact HO160.out⟩,⟨by repeat (first|(with_reducible first|exact HB.out|apply below_alloc|apply pw_below_drewN|apply below_drew1)|exact HB.out)⟩⟩
          · rw [if_neg c5] at H
            exact absurd H (by simp)
        · rw [if_neg c3] at H
          exact absurd H (by simp)
      · rw [if_neg c2] at H
        have c2b0 : decide (x4_1 < (l0.length : Int)) = false:=decide_eq_false c2
        clear c2
        obtain rfl:=Option.some.inj H
        go_wp2
        go_ret
        exact⟨_,by first|rfl|(simp [errW_none,errW_some] <;> rfl)|(simp [*,errW_none,errW_some] <;> rfl),by(with_reducible repeat (first|apply Kd.S_alloc|apply Kd.S_drewN|apply Kd.S_drew));exact HO_3.out,by repeat (first|(with_reducible first|exact HB.out|apply below_alloc|apply pw_below_drewN|apply below_drew1)|exact HB.out)⟩
def undercroftplain_CopyInts.f (l0 : List Int) : Option (List Int):=if([] : List Int).length + l0.length < 17592186044416 then(some (([] : List Int) ++ l0)) else(none)
set_option maxHeartbeats 8000000 in
set_option maxRecDepth 100000 in
theorem undercroftplain_CopyInts.calls (A0 : Option Addr) (c0 : Nat) (l0 : List Int) (r : List Int) (w : World) (hr0 : Kd.C (Kd.int .i64) w A0 l0.length l0) (hc0 : l0.length ≤ c0) (h : undercroftplain_CopyInts.f l0 = some r) :
    Calls Try.prog 26 #[.slice A0 l0.length c0] w fun e w'=>∃ v0_ : Value,e = .returned (v0_)∧Kd.R (Kd.int .i64) 3 w' w.heap.size (fun _=>True) v0_ r∧Below w.heap.size w w':=by
  have HR0:=Aside0.mk hr0
  have HC0:=Aside0.mk hc0
  clear hr0 hc0
  have HB:=Aside0.mk (Below.refl w.heap.size w)
  have H : (if([] : List Int).length + l0.length < 17592186044416 then(some (([] : List Int) ++ l0)) else(none)) = some r:=h
  clear h
  by_cases c2 : ([] : List Int).length + l0.length < 17592186044416
  · rw [if_pos c2] at H
    have LMc2:=Aside0.mk c2
    clear c2
    obtain ⟨y161,hy161⟩ : ∃ y_ : List Int,y_ = (([] : List Int) ++ l0):=⟨_,rfl⟩
    replace H : (some y161) = some r:=by first|(rw [hy161];with_reducible exact H)|(have H2_:=(Option.bind_some _ _).symm.trans H;rw [hy161];with_reducible exact H2_)|(have H2_:=(Option.bind_some _ _).symm.trans H;with_reducible exact H2_)|with_reducible exact H|(rw [hy161];exact H)|exact H
    have Ny161:=Aside0.mk hy161
    clear hy161
    obtain rfl:=Option.some.inj H
    go_enter Try.func26,Try.ntmps26
    go_wp2_with (first|((with_reducible refine gate_builtin (b:=.append) (xs:=#[.tmp 4,.tmp 5]) rfl ?_);at_builtin;refine Kd.R_append_rows (Kd.int .i64) (w0:=w) w.heap.size rfl (.tmp 4) (.tmp 5) 23 3 (.int .i64 0) 8 rfl Try.underlying23 info3 rfl (by decide) (by omega) (.slice none 0 0) ([] : List Int) l0 _ _ _ (fun _=>True) (fun _=>False) rfl rfl ?aO ?aR (fun _ _ h=>h) (fun _ h=>h.elim) ?aF ?aB ?aS ?aL ?_;(case aR=>repeat (first|exact HR0.out|(with_reducible refine Kd.C_alloc ?_ _)|(with_reducible refine Kd.C_drewN ?_ _)|(with_reducible refine Kd.C_drew ?_)));(case aB=>exact(by repeat (first|(with_reducible first|exact HB.out|apply below_alloc|apply pw_below_drewN|apply below_drew1)|exact HB.out)));(case aF=>exact(fun _ _=>trivial));(case aO=>exact((Kd.R_nil _ _ _ _ (fun _=>True))));(case aS=>exact(below_size (by repeat (first|(with_reducible first|exact HB.out|apply below_alloc|apply pw_below_drewN|apply below_drew1)|exact HB.out))));(case aL=>have:=LMc2.out;omega);intro v162 w3 ho hb hg hat;rw [← Ny161.out] at ho;have n0_:=Aside0.mk (hb);have n1_:=Aside0.mk (ho);clear HB;have HB:=n0_;have HO163:=n1_;clear n0_ n1_;clear ho hb hg hat))
    go_ret
    exact⟨_,by first|rfl|(simp [errW_none,errW_some] <;> rfl)|(simp [*,errW_none,errW_some] <;> rfl),by(with_reducible repeat (first|apply Kd.R_alloc|apply Kd.R_drewN|apply Kd.R_drew));exact HO163.out,by repeat (first|(with_reducible first|exact HB.out|apply below_alloc|apply pw_below_drewN|apply below_drew1)|exact HB.out)⟩
  · rw [if_neg c2] at H
    exact absurd H (by simp)
def undercroftplain_CopyBools.f (l0 : List Bool) : Option (List Bool):=if([] : List Bool).length + l0.length < 140737488355328 then(some (([] : List Bool) ++ l0)) else(none)
set_option maxHeartbeats 8000000 in
set_option maxRecDepth 100000 in
theorem undercroftplain_CopyBools.calls (A0 : Option Addr) (c0 : Nat) (l0 : List Bool) (r : List Bool) (w : World) (hr0 : Kd.C Kd.bool w A0 l0.length l0) (hc0 : l0.length ≤ c0) (h : undercroftplain_CopyBools.f l0 = some r) :
    Calls Try.prog 27 #[.slice A0 l0.length c0] w fun e w'=>∃ v0_ : Value,e = .returned (v0_)∧Kd.R Kd.bool 4 w' w.heap.size (fun _=>True) v0_ r∧Below w.heap.size w w':=by
  have HR0:=Aside0.mk hr0
  have HC0:=Aside0.mk hc0
  clear hr0 hc0
  have HB:=Aside0.mk (Below.refl w.heap.size w)
  have H : (if([] : List Bool).length + l0.length < 140737488355328 then(some (([] : List Bool) ++ l0)) else(none)) = some r:=h
  clear h
  by_cases c2 : ([] : List Bool).length + l0.length < 140737488355328
  · rw [if_pos c2] at H
    have LMc2:=Aside0.mk c2
    clear c2
    obtain ⟨y164,hy164⟩ : ∃ y_ : List Bool,y_ = (([] : List Bool) ++ l0):=⟨_,rfl⟩
    replace H : (some y164) = some r:=by first|(rw [hy164];with_reducible exact H)|(have H2_:=(Option.bind_some _ _).symm.trans H;rw [hy164];with_reducible exact H2_)|(have H2_:=(Option.bind_some _ _).symm.trans H;with_reducible exact H2_)|with_reducible exact H|(rw [hy164];exact H)|exact H
    have Ny164:=Aside0.mk hy164
    clear hy164
    obtain rfl:=Option.some.inj H
    go_enter Try.func27,Try.ntmps27
    go_wp2_with (first|((with_reducible refine gate_builtin (b:=.append) (xs:=#[.tmp 4,.tmp 5]) rfl ?_);at_builtin;refine Kd.R_append_rows Kd.bool (w0:=w) w.heap.size rfl (.tmp 4) (.tmp 5) 26 4 (.bool false) 1 rfl Try.underlying26 info4 rfl (by decide) (by omega) (.slice none 0 0) ([] : List Bool) l0 _ _ _ (fun _=>True) (fun _=>False) rfl rfl ?aO ?aR (fun _ _ h=>h) (fun _ h=>h.elim) ?aF ?aB ?aS ?aL ?_;(case aR=>repeat (first|exact HR0.out|(with_reducible refine Kd.C_alloc ?_ _)|(with_reducible refine Kd.C_drewN ?_ _)|(with_reducible refine Kd.C_drew ?_)));(case aB=>exact(by repeat (first|(with_reducible first|exact HB.out|apply below_alloc|apply pw_below_drewN|apply below_drew1)|exact HB.out)));(case aF=>exact(fun _ _=>trivial));(case aO=>exact((Kd.R_nil _ _ _ _ (fun _=>True))));(case aS=>exact(below_size (by repeat (first|(with_reducible first|exact HB.out|apply below_alloc|apply pw_below_drewN|apply below_drew1)|exact HB.out))));(case aL=>have:=LMc2.out;omega);intro v165 w3 ho hb hg hat;rw [← Ny164.out] at ho;have n0_:=Aside0.mk (hb);have n1_:=Aside0.mk (ho);clear HB;have HB:=n0_;have HO166:=n1_;clear n0_ n1_;clear ho hb hg hat))
    go_ret
    exact⟨_,by first|rfl|(simp [errW_none,errW_some] <;> rfl)|(simp [*,errW_none,errW_some] <;> rfl),by(with_reducible repeat (first|apply Kd.R_alloc|apply Kd.R_drewN|apply Kd.R_drew));exact HO166.out,by repeat (first|(with_reducible first|exact HB.out|apply below_alloc|apply pw_below_drewN|apply below_drew1)|exact HB.out)⟩
  · rw [if_neg c2] at H
    exact absurd H (by simp)
end Go.Proofs.Ytojjnifbnppliaa.T
end
