/- What Step tells: plainly. Lists that are one are told so. States that are one are told so. A ballot of the page's as the program's. Alike, of a state and its copy. The first state; the example of the page. This text tells functions of the seat as plain functions, with their contracts, as the machine's calls meet them. This text tells functions of the seat as plain functions, with their contracts, as the machine's calls meet them. -/
import Derived.StillTailTactics
import Derived.Test.YtojjnifbnppliaaQ02
import Derived.Test.YtojjnifbnppliaaQ05
import Derived.Test.YtojjnifbnppliaaQ08
import Derived.Test.YtojjnifbnppliaaQ10
section
namespace Go.Proofs.Ytojjnifbnppliaa.T
open Go.RowKit Go.Proofs.YtojjnifbnppliaaW.PrintWords Go.Proofs.YtojjnifbnppliaaW.PrintLast Go.Proofs.YtojjnifbnppliaaW.PrintMore
attribute [local go_sem] max2_int min2_int max_two min_two max_three min_three max_four min_four
set_option linter.unusedVariables false
set_option linter.unusedSimpArgs false
/-- A message of a state. -/
def Told (s : St) (m : Ms) : Prop:=m.fro = s.id∧m.view = s.view∧0 ≤ m.dst∧m.dst < s.n∧m.dst ≠ s.id∧1 ≤ m.kind∧m.kind ≤ 7
def GoodR (s0 : St) (r : Except Int (St × List Ms)) : Prop:=match r with
  | .error c=>c ≠ 0
  | .ok y=>y.1.n = s0.n∧y.1.id = s0.id∧∀ m ∈ y.2,Told y.1 m
theorem told_all {s s' : St} {x : Ms} {k : Nat} (hn : (k : Int) ≤ s.n) (h1 : s'.id = s.id) (h2 : s'.view = s.view) (h3 : s'.n = s.n) (hk : 1 ≤ x.kind∧x.kind ≤ 7) : ∀ m ∈ tellAllM s x k,Told s' m:=by
  intro m hm
  unfold tellAllM at hm
  obtain ⟨i,hi,rfl⟩:=List.mem_map.1 hm
  have:=othersV_mem hi
  exact⟨h1.symm,h2.symm,this.1,by show i < s'.n;omega,by show i ≠ s'.id;rw [h1];exact this.2.2,hk⟩
theorem startS_same (s : St) : (startS s).id = s.id∧(startS s).n = s.n∧(startS s).view = s.view:=by
  unfold startS
  split
  · exact⟨rfl,rfl,rfl⟩
  · exact⟨rfl,rfl,rfl⟩
theorem settledE_nz {s : St} {l : List (List Int)} {c : Int} (h : settledE s l = some c) : c ≠ 0:=by
  unfold settledE at h
  split at h
  · cases h
  · injection h with h
    omega
theorem startR_good {s : St} (hn : 1 ≤ s.n) : GoodR s (startR s):=by
  unfold startR
  cases he : startE s with
  | some c =>
    unfold startE at he
    split at he
    · exact settledE_nz he
    · cases he
  | none =>
    obtain ⟨e1,e2,e3⟩:=startS_same s
    refine⟨e2,e1,?_⟩
    show ∀ m ∈ startM s,Told (startS s) m
    unfold startM
    split
    · exact told_all (by show((s.n.toNat : Nat) : Int) ≤ s.n;omega) e1 e3 e2 (by show(1 : Int) ≤ 5∧(5 : Int) ≤ 7;omega)
    · intro m hm
      cases hm
theorem startR_view {s : St} {y : St × List Ms} (h : startR s = .ok y) : y.1.view = s.view:=by
  rw [(startR_ok h).1];exact(startS_same s).2.2
theorem mod_range {v n : Int} (hv : 0 ≤ v) (hn : 1 ≤ n) : 0 ≤ v.tmod n∧v.tmod n < n:=⟨Int.tmod_nonneg _ hv,Int.tmod_lt_of_pos _ (by omega)⟩
theorem lookR_good {s : St} (hn : 1 ≤ s.n) (hv : 0 ≤ s.view) : GoodR s (lookR s)∧∀ y,lookR s = .ok y→y.1.view = s.view:=by
  unfold lookR
  split
  · cases hp : primaryV s.id s.n s.view with
    | true =>
      rw [if_pos rfl]
      exact⟨startR_good (s:=balS s) hn,fun y h=>startR_view (s:=balS s) (y:=y) h⟩
    | false =>
      rw [if_neg (by simp)]
      refine⟨⟨rfl,rfl,fun m hm=>?_⟩,fun y h=>by injection h with h;subst h;rfl⟩
      have e : m = tellM (sentS s) (voteM s):=by simpa using hm
      subst e
      have:=mod_range hv hn
      exact⟨rfl,rfl,this.1,this.2,fun h=>by unfold primaryV at hp;exact(beq_eq_false_iff_ne.mp hp) h,by show(1 : Int) ≤ 4;omega,by show(4 : Int) ≤ 7;omega⟩
  · exact⟨⟨rfl,rfl,fun m hm=>by cases hm⟩,fun y h=>by injection h with h;subst h;rfl⟩
theorem enterR_good {s : St} (hn : 1 ≤ s.n) {v : Int} (hv : 0 ≤ v) (l : List Int) : GoodR s (enterR s v l)∧∀ y,enterR s v l = .ok y→y.1.view = v:=by
  obtain ⟨h1,h2⟩:=lookR_good (s:=marksS (e1S s v) l) hn hv
  unfold enterR
  cases hl : lookR (marksS (e1S s v) l) with
  | error c =>
    rw [hl] at h1
    exact⟨h1,fun y h=>by cases h⟩
  | ok z =>
    rw [hl] at h1
    have hz:=h2 z hl
    obtain ⟨g1,g2,g3⟩:=h1
    refine⟨⟨g1,g2,fun m hm=>?_⟩,fun y h=>by injection h with h;subst h;exact hz⟩
    rcases List.mem_append.1 hm with h|h
    · exact told_all (s:=e1S s v) (x:=beginM) (k:=s.n.toNat) (by show((s.n.toNat : Nat) : Int) ≤ s.n;omega) g2 hz g1 (by show(1 : Int) ≤ 3∧(3 : Int) ≤ 7;omega) m h
    · exact g3 m h
theorem one_good {s0 s : St} {x : Ms} (h1 : s.n = s0.n) (h2 : s.id = s0.id) (hd : 0 ≤ x.dst∧x.dst < s.n∧x.dst ≠ s.id) (hk : 1 ≤ x.kind∧x.kind ≤ 7) : GoodR s0 (.ok (s,[tellM s x])) :=
  ⟨h1,h2,fun m hm=>by
    have e : m = tellM s x:=by simpa using hm
    subst e
    exact⟨rfl,rfl,hd.1,hd.2.1,hd.2.2,hk.1,hk.2⟩⟩
theorem nil_good {s0 s : St} (h1 : s.n = s0.n) (h2 : s.id = s0.id) : GoodR s0 (.ok (s,[])):=⟨h1,h2,fun m hm=>by cases hm⟩
theorem tick_good {s : St} (hc : Chk s) : GoodR s (tickR s):=by
  unfold tickR
  split
  · split
    · refine⟨rfl,rfl,fun m hm=>?_⟩
      have hl : leadsV s.id s.n s.view s.status = true:=by assumption
      have hmn : (s.mat.length : Int) = s.n:=by rw [hc.mat];unfold szM;rw [if_pos hl]
      have hm2 : m ∈ tickM (elS s 0) s.mat.length:=hm
      unfold tickM at hm2
      obtain ⟨i,hi,rfl⟩:=List.mem_map.1 hm2
      have:=othersV_mem hi
      exact⟨rfl,rfl,by show 0 ≤ ((i.toNat : Nat) : Int);omega,by show((i.toNat : Nat) : Int) < s.n;omega,by show((i.toNat : Nat) : Int) ≠ s.id;have h3 : i ≠ s.id:=this.2.2;omega,by show(1 : Int) ≤ 1;omega,by show(1 : Int) ≤ 7;omega⟩
    · exact nil_good rfl rfl
  · split
    · split
      · show(4 : Int) ≠ 0;decide
      · exact(enterR_good (s:=elS s (elV s)) hc.n.1 (by have:=hc.view;omega) []).1
    · exact nil_good rfl rfl
section
variable {s : St} {x : Ms}
theorem fro_ok (hx : MsgOk s.id s.n x) : 0 ≤ x.fro∧x.fro < s.n∧x.fro ≠ s.id:=by
  have:=wi_le hx.fro
  exact⟨this.1,by omega,beq_eq_false_iff_ne.mp hx.own⟩
theorem extR_good (hs : St) : GoodR hs (extR hs x):=by
  unfold extR
  split
  · show(51 : Int) ≠ 0;decide
  · exact nil_good rfl rfl
theorem onPrepare_good (hc : Chk s) (hx : MsgOk s.id s.n x) : GoodR s (onPrepareR s x):=by
  have hf:=fro_ok hx
  unfold onPrepareR
  split
  · split
    · split
      · exact one_good rfl rfl hf (by show(1 : Int) ≤ 6∧(6 : Int) ≤ 7;omega)
      · have:=extR_good (x:=x) (elS s 0)
        cases he : extR (elS s 0) x with
        | error c=>rw [he] at this;exact this
        | ok y =>
          rw [he] at this
          have hm:=extR_ms he
          obtain ⟨g1,g2,g3⟩:=this
          show GoodR s (.ok (y.1,y.2 ++ [tellM y.1 (ansM y.1 x.fro)]))
          rw [hm,List.nil_append]
          have e1 : y.1.n = s.n:=g1
          have e2 : y.1.id = s.id:=g2
          exact one_good e1 e2 ⟨hf.1,by show x.fro < y.1.n;rw [e1];exact hf.2.1,by show x.fro ≠ y.1.id;rw [e2];exact hf.2.2⟩ (by show(1 : Int) ≤ 2∧(2 : Int) ≤ 7;omega)
    · have e : (awayS s x.view).n = s.n∧(awayS s x.view).id = s.id:=by
        unfold awayS
        split
        · exact⟨rfl,rfl⟩
        · exact⟨rfl,rfl⟩
      exact one_good e.1 e.2 ⟨hf.1,by show x.fro < _;rw [e.1];exact hf.2.1,by show x.fro ≠ _;rw [e.2];exact hf.2.2⟩ (by show(1 : Int) ≤ 6∧(6 : Int) ≤ 7;omega)
  · show(9 : Int) ≠ 0;decide
theorem onBegins_good (hc : Chk s) (hx : MsgOk s.id s.n x) : GoodR s (onBeginsR s x):=by
  have hv:=wi_le hx.view
  unfold onBeginsR
  split
  · exact(enterR_good hc.n.1 hv.1 _).1
  · split
    · exact(lookR_good (s:=marksS s [x.fro]) hc.n.1 hc.view.1).1
    · exact nil_good rfl rfl
theorem voteTail_good {s1 : St} {ms : List Ms} (hn : 1 ≤ s1.n) (h1 : s1.n = s.n) (h2 : s1.id = s.id) (hm : ∀ m ∈ ms,Told s1 m) : GoodR s (voteTail s1 ms x):=by
  unfold voteTail
  split
  · split
    · show(4 : Int) ≠ 0;decide
    · have hg:=startR_good (s:=putS s1 x) hn
      cases he : startR (putS s1 x) with
      | error c=>rw [he] at hg;exact hg
      | ok y =>
        rw [he] at hg
        have hv:=startR_view he
        obtain ⟨g1,g2,g3⟩:=hg
        have e1 : y.1.n = s1.n:=g1
        have e2 : y.1.id = s1.id:=g2
        have e3 : y.1.view = s1.view:=hv
        refine⟨e1.trans h1,e2.trans h2,fun m hm2=>?_⟩
        rcases List.mem_append.1 hm2 with h|h
        · obtain ⟨a1,a2,a3,a4,a5,a6⟩:=hm m h
          exact⟨a1.trans e2.symm,a2.trans e3.symm,a3,by show m.dst < y.1.n;rw [e1];exact a4,by show m.dst ≠ y.1.id;rw [e2];exact a5,a6⟩
        · exact g3 m h
  · exact⟨h1,h2,hm⟩
theorem onVote_good (hc : Chk s) (hx : MsgOk s.id s.n x) : GoodR s (onVoteR s x):=by
  have hv:=wi_le hx.view
  unfold onVoteR
  split
  · split
    · show(4 : Int) ≠ 0;decide
    · split
      · have hg:=(enterR_good (s:=s) hc.n.1 hv.1 []).1
        cases he : enterR s x.view [] with
        | error c=>rw [he] at hg;exact hg
        | ok y =>
          rw [he] at hg
          exact voteTail_good (by rw [hg.1];exact hc.n.1) hg.1 hg.2.1 hg.2.2
      · exact voteTail_good hc.n.1 rfl rfl (fun m hm=>by cases hm)
  · show(9 : Int) ≠ 0;decide
theorem onStart_good (hc : Chk s) (hx : MsgOk s.id s.n x) : GoodR s (onStartR s x):=by
  have hf:=fro_ok hx
  unfold onStartR
  split
  · split
    · show(4 : Int) ≠ 0;decide
    · split
      · exact one_good rfl rfl hf (by show(1 : Int) ≤ 2∧(2 : Int) ≤ 7;omega)
      · cases he : settledE (viewS s x.view) x.log with
        | some c=>exact settledE_nz he
        | none=>exact one_good rfl rfl hf (by show(1 : Int) ≤ 2∧(2 : Int) ≤ 7;omega)
  · show(9 : Int) ≠ 0;decide
theorem onAsk_good (hc : Chk s) (hx : MsgOk s.id s.n x) : GoodR s (onAskR s x):=by
  have hf:=fro_ok hx
  unfold onAskR
  split
  · exact one_good rfl rfl hf (by show(1 : Int) ≤ 7∧(7 : Int) ≤ 7;omega)
  · exact nil_good rfl rfl
theorem onBring_good (hc : Chk s) (hx : MsgOk s.id s.n x) : GoodR s (onBringR s x):=by
  have hf:=fro_ok hx
  have hv:=wi_le hx.view
  unfold onBringR
  split
  · show(4 : Int) ≠ 0;decide
  · split
    · split
      · show(9 : Int) ≠ 0;decide
      · split
        · have:=extR_good (x:=x) s
          cases he : extR s x with
          | error c=>rw [he] at this;exact this
          | ok y =>
            rw [he] at this
            have hm:=extR_ms he
            obtain ⟨g1,g2,g3⟩:=this
            show GoodR s (.ok (y.1,y.2 ++ [tellM y.1 (ansM y.1 x.fro)]))
            rw [hm,List.nil_append]
            have e1 : y.1.n = s.n:=g1
            have e2 : y.1.id = s.id:=g2
            exact one_good e1 e2 ⟨hf.1,by show x.fro < y.1.n;rw [e1];exact hf.2.1,by show x.fro ≠ y.1.id;rw [e2];exact hf.2.2⟩ (by show(1 : Int) ≤ 2∧(2 : Int) ≤ 7;omega)
        · exact nil_good rfl rfl
    · split
      · split
        · show(9 : Int) ≠ 0;decide
        · rename_i hto
          split
          · show(51 : Int) ≠ 0;decide
          · cases he : settledE (viewS s x.view) (bringL s x) with
            | some c=>exact settledE_nz he
            | none =>
              have hr:=mod_range hv.1 hc.n.1
              exact one_good rfl rfl ⟨hr.1,hr.2,hto⟩ (by show(1 : Int) ≤ 2∧(2 : Int) ≤ 7;omega)
      · exact nil_good rfl rfl
theorem prep_good : GoodR s (ofEnds (prepE s x) (prepS s x) []):=by
  unfold ofEnds
  cases he : prepE s x with
  | some c =>
    unfold prepE at he
    split at he
    · split at he
      · injection he with he
        show c ≠ 0
        omega
      · cases he
    · cases he
  | none =>
    have e : (prepS s x).n = s.n∧(prepS s x).id = s.id:=by
      unfold prepS
      split
      · exact⟨rfl,rfl⟩
      · exact⟨rfl,rfl⟩
    exact nil_good e.1 e.2
theorem kind_good (hc : Chk s) (hx : MsgOk s.id s.n x) : GoodR s (kindR s x):=by
  unfold kindR
  split
  · exact onPrepare_good hc hx
  · split
    · exact prep_good
    · split
      · exact onBegins_good hc hx
      · split
        · exact onVote_good hc hx
        · split
          · exact onStart_good hc hx
          · split
            · exact onAsk_good hc hx
            · exact onBring_good hc hx
theorem hear_good (hc : Chk s) : GoodR s (hearR s x):=by
  unfold hearR
  cases he : hearE s.id s.n x with
  | some c =>
    show c ≠ 0
    unfold hearE at he
    split at he
    · split at he
      · split at he
        · split at he
          · cases he
          · injection he with he;omega
        · injection he with he;omega
      · injection he with he;omega
    · injection he with he;omega
  | none =>
    show GoodR s (if x.view < s.view then .ok (s,[]) else kindR s x)
    split
    · exact nil_good rfl rfl
    · exact kind_good hc (hearE_ok he)
theorem req_good {data : List Int} : GoodR s (ofEnds (reqE s data) (reqS s data) []):=by
  unfold ofEnds
  cases he : reqE s data with
  | some c =>
    show c ≠ 0
    unfold reqE at he
    split at he
    · split at he
      · injection he with he;omega
      · split at he
        · injection he with he;omega
        · cases he
    · injection he with he;omega
  | none=>exact nil_good rfl rfl
def stepF (s : St) (k : Int) (x : Ms) (data : List Int) : Except Int (St × List Ms):=if checkV s = true then(if wi k 1 3 = true then stepR s k x data else .error 22) else .error 9
theorem stepF_good {k : Int} {data : List Int} : GoodR s (stepF s k x data):=by
  unfold stepF
  split
  · have hc:=(check_iff s).1 (by assumption)
    split
    · unfold stepR
      split
      · exact tick_good hc
      · split
        · exact hear_good hc
        · exact req_good
    · show(22 : Int) ≠ 0;decide
  · show(9 : Int) ≠ 0;decide
theorem stepF_old {data : List Int} (hv : x.view < s.view) {y : St × List Ms} (h : stepF s 2 x data = .ok y) : y = (s,[]):=by
  unfold stepF stepR hearR at h
  split at h
  · rw [if_pos (by decide),if_neg (by decide),if_pos rfl] at h
    split at h
    · cases h
    · first|rw [if_pos hv] at h|skip
      injection h with h
      exact h.symm
  · cases h
end
/-- Step, whole. -/
theorem Step.calls (s : St) (AL : Option Addr) (cL : Nat) (AM : Option Addr) (cM : Nat) (AK : Option Addr) (cK : Nat) (AB : Option Addr) (cB : Nat) (AD : Option Addr) (cD : Nat) (x : Ms) (AX : Option Addr) (cX : Nat) (A : Option Addr) (c : Nat) (data : List Int) (k : Int) (w : World) (hr : Rd w s AL cL AM cM AK cK AB cB AD cD) (hlog : Kd.C (Kd.slice 5 (Kd.int .u8)) w AX x.log.length x.log) (hcX : x.log.length ≤ cX) (hd : Kd.C (Kd.int .u8) w A data.length data) :
    Calls Try.prog 8 #[.agg #[.int .i64 s.id,.int .i64 s.n,.int .i64 s.view,.int .i64 s.last,.int .i64 s.status,.slice AL s.log.length cL,.int .i64 s.commit,.slice AM s.mat.length cM,.slice AK s.marks.length cK,.bool s.sent,.slice AB s.bals.length cB,.int .i64 s.elapsed,.int .i64 s.timeout,.slice AD s.draws.length cD],.agg #[.int .i64 k,.int .i64 x.kind,.int .i64 x.fro,.int .i64 x.dst,.int .i64 x.view,.int .i64 x.last,.int .i64 x.prev,.slice AX x.log.length cX,.int .i64 x.commit,.int .i64 x.mat,.slice A data.length c]] w (StepRes w (errO (stepF s k x data)) (resS s (stepF s k x data)) (resM (stepF s k x data))):=by
  unfold stepF
  cases hc : checkV s with
  | false=>exact StepBad.calls s AL cL AM cM AK cK AB cB AD cD x AX cX A c data k w hr hc
  | true =>
    rw [if_pos rfl]
    cases hk : wi k 1 3 with
    | false=>exact StepKind.calls s AL cL AM cM AK cK AB cB AD cD x AX cX A c data k w hr hc hk
    | true=>exact StepOk.calls s AL cL AM cM AK cK AB cB AD cD x AX cX A c data k hk w hr ((check_iff s).1 hc) hlog hcX hd
end Go.Proofs.Ytojjnifbnppliaa.T
end
section
namespace Go.Proofs.Ytojjnifbnppliaa.T
open Go.RowKit Go.Proofs.YtojjnifbnppliaaW.PrintWords Go.Proofs.YtojjnifbnppliaaW.PrintLast Go.Proofs.YtojjnifbnppliaaW.PrintMore
attribute [local go_sem] max2_int min2_int max_two min_two max_three min_three max_four min_four
set_option linter.unusedVariables false
set_option linter.unusedSimpArgs false
set_option maxHeartbeats 2000000 in
theorem SameBytes.calls (A0 : Option Addr) (c0 : Nat) (A1 : Option Addr) (c1 : Nat) (l : List Int) (w : World) (h0 : Kd.C (Kd.int .u8) w A0 l.length l) (h1 : Kd.C (Kd.int .u8) w A1 l.length l) :
    Calls Try.prog 13 #[.slice A0 l.length c0,.slice A1 l.length c1] w fun e w'=>e = .returned (.bool true)∧Drawn0 w w':=by
  have HR0:=Aside0.mk h0
  have HR1:=Aside0.mk h1
  have hbig : l.length ≤ 9223372036854775807:=h0.2.1
  clear h0 h1
  go_enter Try.func13,Try.ntmps13
  go_wp2
  go_loopg [5] (l.length + 1) (fun gg s5 wr=>∃ i : Int,s5 = .int .i64 i∧Aside0 (0 ≤ i∧i ≤ l.length∧l.length - i < gg∧Drawn0 w wr))
  case atStart=>exact⟨0,rfl,⟨by omega,by omega,by omega,Drawn0.refl _⟩⟩
  case round =>
    obtain ⟨i,rfl,Z⟩:=hrel
    obtain ⟨z1,z2,z3,⟨⟨m,rfl⟩⟩⟩:=Z.out
    by_cases hlt : i < l.length
    · have d1 : decide (i < (l.length : Int)) = true:=decide_eq_true hlt
      obtain ⟨ad0,rfl,x0⟩:=Kd.at_int HR0.out i z1 hlt
      obtain ⟨ad1,rfl,x1⟩:=Kd.at_int HR1.out i z1 hlt
      have p1:=eq_true z1
      have p2:=eq_true hlt
      have ZZ:=Aside0.mk (And.intro z1 (And.intro hlt z3))
      clear z1 z2 z3 hlt
      go_wp2
      go_quiet (fail)
      go_wp2
      have hw : wrap64 (i + 1) = i + 1:=by have:=ZZ.out;unfold wrap64;omega
      rw [hw]
      obtain ⟨gg,rfl⟩ : ∃ m,gk = m + 1:=⟨gk - 1,by have:=ZZ.out;omega⟩
      go_roundg gg
      case measure=>omega
      case rel=>exact⟨i + 1,rfl,⟨by have:=ZZ.out;omega,by have:=ZZ.out;omega,by have:=ZZ.out;omega,by repeat (first|exact Drawn0.refl _|apply Drawn0.step)⟩⟩
    · have d1 : decide (i < (l.length : Int)) = false:=decide_eq_false hlt
      clear z1 z2 z3 hlt
      go_wp2
      go_ret
      exact⟨rfl,by repeat (first|exact Drawn0.refl _|apply Drawn0.step)⟩
set_option maxHeartbeats 2000000 in
theorem SameInts.calls (A0 : Option Addr) (c0 : Nat) (A1 : Option Addr) (c1 : Nat) (l : List Int) (w : World) (h0 : Kd.C (Kd.int .i64) w A0 l.length l) (h1 : Kd.C (Kd.int .i64) w A1 l.length l) :
    Calls Try.prog 31 #[.slice A0 l.length c0,.slice A1 l.length c1] w fun e w'=>e = .returned (.bool true)∧Drawn0 w w':=by
  have HR0:=Aside0.mk h0
  have HR1:=Aside0.mk h1
  have hbig : l.length ≤ 9223372036854775807:=h0.2.1
  clear h0 h1
  go_enter Try.func31,Try.ntmps31
  go_wp2
  go_loopg [5] (l.length + 1) (fun gg s5 wr=>∃ i : Int,s5 = .int .i64 i∧Aside0 (0 ≤ i∧i ≤ l.length∧l.length - i < gg∧Drawn0 w wr))
  case atStart=>exact⟨0,rfl,⟨by omega,by omega,by omega,Drawn0.refl _⟩⟩
  case round =>
    obtain ⟨i,rfl,Z⟩:=hrel
    obtain ⟨z1,z2,z3,⟨⟨m,rfl⟩⟩⟩:=Z.out
    by_cases hlt : i < l.length
    · have d1 : decide (i < (l.length : Int)) = true:=decide_eq_true hlt
      obtain ⟨ad0,rfl,x0⟩:=Kd.at_int HR0.out i z1 hlt
      obtain ⟨ad1,rfl,x1⟩:=Kd.at_int HR1.out i z1 hlt
      have p1:=eq_true z1
      have p2:=eq_true hlt
      have ZZ:=Aside0.mk (And.intro z1 (And.intro hlt z3))
      clear z1 z2 z3 hlt
      go_wp2
      go_quiet (fail)
      go_wp2
      have hw : wrap64 (i + 1) = i + 1:=by have:=ZZ.out;unfold wrap64;omega
      rw [hw]
      obtain ⟨gg,rfl⟩ : ∃ m,gk = m + 1:=⟨gk - 1,by have:=ZZ.out;omega⟩
      go_roundg gg
      case measure=>omega
      case rel=>exact⟨i + 1,rfl,⟨by have:=ZZ.out;omega,by have:=ZZ.out;omega,by have:=ZZ.out;omega,by repeat (first|exact Drawn0.refl _|apply Drawn0.step)⟩⟩
    · have d1 : decide (i < (l.length : Int)) = false:=decide_eq_false hlt
      clear z1 z2 z3 hlt
      go_wp2
      go_ret
      exact⟨rfl,by repeat (first|exact Drawn0.refl _|apply Drawn0.step)⟩
set_option maxHeartbeats 2000000 in
theorem SameBools.calls (A0 : Option Addr) (c0 : Nat) (A1 : Option Addr) (c1 : Nat) (l : List Bool) (w : World) (h0 : Kd.C Kd.bool w A0 l.length l) (h1 : Kd.C Kd.bool w A1 l.length l) :
    Calls Try.prog 32 #[.slice A0 l.length c0,.slice A1 l.length c1] w fun e w'=>e = .returned (.bool true)∧Drawn0 w w':=by
  have HR0:=Aside0.mk h0
  have HR1:=Aside0.mk h1
  have hbig : l.length ≤ 9223372036854775807:=h0.2.1
  clear h0 h1
  go_enter Try.func32,Try.ntmps32
  go_wp2
  go_loopg [5] (l.length + 1) (fun gg s5 wr=>∃ i : Int,s5 = .int .i64 i∧Aside0 (0 ≤ i∧i ≤ l.length∧l.length - i < gg∧Drawn0 w wr))
  case atStart=>exact⟨0,rfl,⟨by omega,by omega,by omega,Drawn0.refl _⟩⟩
  case round =>
    obtain ⟨i,rfl,Z⟩:=hrel
    obtain ⟨z1,z2,z3,⟨⟨m,rfl⟩⟩⟩:=Z.out
    by_cases hlt : i < l.length
    · have d1 : decide (i < (l.length : Int)) = true:=decide_eq_true hlt
      obtain ⟨ad0,rfl,x0⟩:=Kd.at_bool HR0.out i z1 hlt
      obtain ⟨ad1,rfl,x1⟩:=Kd.at_bool HR1.out i z1 hlt
      have p1:=eq_true z1
      have p2:=eq_true hlt
      have ZZ:=Aside0.mk (And.intro z1 (And.intro hlt z3))
      clear z1 z2 z3 hlt
      go_wp2
      go_quiet (fail)
      go_wp2
      have hw : wrap64 (i + 1) = i + 1:=by have:=ZZ.out;unfold wrap64;omega
      rw [hw]
      obtain ⟨gg,rfl⟩ : ∃ m,gk = m + 1:=⟨gk - 1,by have:=ZZ.out;omega⟩
      go_roundg gg
      case measure=>omega
      case rel=>exact⟨i + 1,rfl,⟨by have:=ZZ.out;omega,by have:=ZZ.out;omega,by have:=ZZ.out;omega,by repeat (first|exact Drawn0.refl _|apply Drawn0.step)⟩⟩
    · have d1 : decide (i < (l.length : Int)) = false:=decide_eq_false hlt
      clear z1 z2 z3 hlt
      go_wp2
      go_ret
      exact⟨rfl,by repeat (first|exact Drawn0.refl _|apply Drawn0.step)⟩
end Go.Proofs.Ytojjnifbnppliaa.T
end
section
namespace Go.Proofs.Ytojjnifbnppliaa.T
open Go.RowKit Go.Proofs.YtojjnifbnppliaaW.PrintWords Go.Proofs.YtojjnifbnppliaaW.PrintLast Go.Proofs.YtojjnifbnppliaaW.PrintMore
attribute [local go_sem] max2_int min2_int max_two min_two max_three min_three max_four min_four
set_option linter.unusedVariables false
set_option linter.unusedSimpArgs false
set_option maxHeartbeats 2000000 in
theorem SameLists.calls (A0 : Option Addr) (c0 : Nat) (A1 : Option Addr) (c1 : Nat) (l : List (List Int)) (w : World) (h0 : Kd.C (Kd.slice 5 (Kd.int .u8)) w A0 l.length l) (h1 : Kd.C (Kd.slice 5 (Kd.int .u8)) w A1 l.length l) :
    Calls Try.prog 30 #[.slice A0 l.length c0,.slice A1 l.length c1] w fun e w'=>e = .returned (.bool true)∧Drawn0 w w':=by
  have HR0:=Aside0.mk h0
  have HR1:=Aside0.mk h1
  have hbig : l.length ≤ 9223372036854775807:=h0.2.1
  clear h0 h1
  go_enter Try.func30,Try.ntmps30
  go_wp2
  go_loopg [5] (l.length + 1) (fun gg s5 wr=>∃ i : Int,s5 = .int .i64 i∧Aside0 (0 ≤ i∧i ≤ l.length∧l.length - i < gg∧Drawn0 w wr))
  case atStart=>exact⟨0,rfl,⟨by omega,by omega,by omega,Drawn0.refl _⟩⟩
  case round =>
    obtain ⟨i,rfl,Z⟩:=hrel
    obtain ⟨z1,z2,z3,⟨⟨m,rfl⟩⟩⟩:=Z.out
    by_cases hlt : i < l.length
    · have d1 : decide (i < (l.length : Int)) = true:=decide_eq_true hlt
      obtain ⟨ad0,B0,d0,rfl,x0,hl0,hC0⟩:=at_L1 HR0.out i z1 hlt
      obtain ⟨ad1,B1,d1',rfl,x1,hl1,hC1⟩:=at_L1 HR1.out i z1 hlt
      have CC:=Aside0.mk (show Kd.C (Kd.int .u8) (w.drewN m) B0 (rd_L1 l i).length (rd_L1 l i)∧Kd.C (Kd.int .u8) (w.drewN m) B1 (rd_L1 l i).length (rd_L1 l i)∧Drawn0 w (w.drewN m) from⟨Kd.C_drewN hC0 m,Kd.C_drewN hC1 m,⟨m,rfl⟩⟩)
      replace x0 : (w.drewN m).cell? (ad0.add i.toNat) = some (.slice B0 (rd_L1 l i).length d0):=x0
      replace x1 : (w.drewN m).cell? (ad1.add i.toNat) = some (.slice B1 (rd_L1 l i).length d1'):=x1
      clear hl0 hl1 hC0 hC1
      have p1:=eq_true z1
      have p2:=eq_true hlt
      have ZZ:=Aside0.mk (And.intro z1 (And.intro hlt z3))
      clear z1 z2 z3 hlt Z HR0 HR1
      generalize w.drewN m = W at *
      go_wp2
      go_quiet (first|(go_at_call 13;refine(SameBytes.calls B0 d0 B1 d1' (rd_L1 l i) _ (by repeat (first|exact CC.out.1|(with_reducible refine Kd.C_drewN ?_ _)|(with_reducible refine Kd.C_drew ?_))) (by repeat (first|exact CC.out.2.1|(with_reducible refine Kd.C_drewN ?_ _)|(with_reducible refine Kd.C_drew ?_)))).mono ?_;rintro e w' ⟨rfl,⟨m,rfl⟩⟩;(first|exact⟨rfl,_,rfl⟩|exact⟨rfl,_,World.drewN_drewN _ _ _⟩|(refine⟨rfl,_,?_⟩;simp;rfl))))
      go_wp2
      have hw : wrap64 (i + 1) = i + 1:=by have:=ZZ.out;unfold wrap64;omega
      rw [hw]
      obtain ⟨gg,rfl⟩ : ∃ m,gk = m + 1:=⟨gk - 1,by have:=ZZ.out;omega⟩
      go_roundg gg
      case measure=>omega
      case rel=>exact⟨i + 1,rfl,⟨by have:=ZZ.out;omega,by have:=ZZ.out;omega,by have:=ZZ.out;omega,by obtain ⟨m1,hm1⟩:=CC.out.2.2;exact⟨_,by rw [hm1,World.drewN_drewN]⟩⟩⟩
    · have d1 : decide (i < (l.length : Int)) = false:=decide_eq_false hlt
      clear z1 z2 z3 hlt
      go_wp2
      go_ret
      exact⟨rfl,by repeat (first|exact Drawn0.refl _|apply Drawn0.step)⟩
end Go.Proofs.Ytojjnifbnppliaa.T
end
section
namespace Go.Proofs.Ytojjnifbnppliaa.T
open Go.RowKit Go.Proofs.YtojjnifbnppliaaW.PrintWords Go.Proofs.YtojjnifbnppliaaW.PrintLast Go.Proofs.YtojjnifbnppliaaW.PrintMore
attribute [local go_sem] max2_int min2_int max_two min_two max_three min_three max_four min_four
set_option linter.unusedVariables false
set_option linter.unusedSimpArgs false
def ofB (y : S68) : S69:=⟨y.f0,y.f1,y.f2,y.f3⟩
end Go.Proofs.Ytojjnifbnppliaa.T
end
section
namespace Go.Proofs.Ytojjnifbnppliaa.T
open Go.RowKit Go.Proofs.YtojjnifbnppliaaW.PrintWords Go.Proofs.YtojjnifbnppliaaW.PrintLast Go.Proofs.YtojjnifbnppliaaW.PrintMore
attribute [local go_sem] max2_int min2_int max_two min_two max_three min_three max_four min_four
set_option linter.unusedVariables false
set_option linter.unusedSimpArgs false
set_option maxHeartbeats 8000000 in
set_option maxRecDepth 100000 in
theorem Alike.calls (s : St) (bl : List S68) (hbl : s.bals = bl.map ofB) (AL : Option Addr) (cL : Nat) (AM : Option Addr) (cM : Nat) (AK : Option Addr) (cK : Nat) (AB : Option Addr) (cB : Nat) (AD : Option Addr) (cD : Nat) (BL : Option Addr) (dL : Nat) (BM : Option Addr) (dM : Nat) (BK : Option Addr) (dK : Nat) (BB : Option Addr) (dB : Nat) (BD : Option Addr) (dD : Nat) (w : World) (hr : Rd w s AL cL AM cM AK cK AB cB AD cD) (h5 : Kd.C (Kd.slice 5 (Kd.int .u8)) w BL s.log.length s.log) (h7 : Kd.C (Kd.int .i64) w BM s.mat.length s.mat) (h8 : Kd.C Kd.bool w BK s.marks.length s.marks) (h10 : Kd.C k68 w BB bl.length bl) (h13 : Kd.C (Kd.int .i64) w BD s.draws.length s.draws) :
    Calls Try.prog 12 #[.agg #[.int .i64 s.id,.int .i64 s.n,.int .i64 s.view,.int .i64 s.last,.int .i64 s.status,.slice AL s.log.length cL,.int .i64 s.commit,.slice AM s.mat.length cM,.slice AK s.marks.length cK,.bool s.sent,.slice AB s.bals.length cB,.int .i64 s.elapsed,.int .i64 s.timeout,.slice AD s.draws.length cD],.agg #[.int .i64 s.id,.int .i64 s.n,.int .i64 s.view,.int .i64 s.last,.int .i64 s.status,.slice BL s.log.length dL,.int .i64 s.commit,.slice BM s.mat.length dM,.slice BK s.marks.length dK,.bool s.sent,.slice BB bl.length dB,.int .i64 s.elapsed,.int .i64 s.timeout,.slice BD s.draws.length dD]] w fun e w'=>e = .returned (.int .i64 0)∧Below w.heap.size w w':=by
  have hu29:=Try.underlying29
  have hu44:=Try.underlying44
  have hu69:=Try.underlying69
  have hu68:=Try.underlying68
  have hu27:=Try.underlying27
  have hu42:=Try.underlying42
  have hu25:=Try.underlying25
  have hnn : s.bals.length = bl.length:=by rw [hbl,List.length_map]
  have HB:=Aside0.mk (show Below w.heap.size w ((w.alloc (.cells #[.int .i64 s.id,.int .i64 s.n,.int .i64 s.view,.int .i64 s.last,.int .i64 s.status,.slice AL s.log.length cL,.int .i64 s.commit,.slice AM s.mat.length cM,.slice AK s.marks.length cK,.bool s.sent,.slice AB s.bals.length cB,.int .i64 s.elapsed,.int .i64 s.timeout,.slice AD s.draws.length cD] 29)).alloc (.cells #[.int .i64 s.id,.int .i64 s.n,.int .i64 s.view,.int .i64 s.last,.int .i64 s.status,.slice BL s.log.length dL,.int .i64 s.commit,.slice BM s.mat.length dM,.slice BK s.marks.length dK,.bool s.sent,.slice BB bl.length dB,.int .i64 s.elapsed,.int .i64 s.timeout,.slice BD s.draws.length dD] 44)) from below_alloc (below_alloc (Below.refl _ _) _) _)
  have k2 : ((w.alloc (.cells #[.int .i64 s.id,.int .i64 s.n,.int .i64 s.view,.int .i64 s.last,.int .i64 s.status,.slice AL s.log.length cL,.int .i64 s.commit,.slice AM s.mat.length cM,.slice AK s.marks.length cK,.bool s.sent,.slice AB s.bals.length cB,.int .i64 s.elapsed,.int .i64 s.timeout,.slice AD s.draws.length cD] 29)).alloc (.cells #[.int .i64 s.id,.int .i64 s.n,.int .i64 s.view,.int .i64 s.last,.int .i64 s.status,.slice BL s.log.length dL,.int .i64 s.commit,.slice BM s.mat.length dM,.slice BK s.marks.length dK,.bool s.sent,.slice BB bl.length dB,.int .i64 s.elapsed,.int .i64 s.timeout,.slice BD s.draws.length dD] 44)).heap[w.heap.size]? = some (.cells #[.int .i64 s.id,.int .i64 s.n,.int .i64 s.view,.int .i64 s.last,.int .i64 s.status,.slice AL s.log.length cL,.int .i64 s.commit,.slice AM s.mat.length cM,.slice AK s.marks.length cK,.bool s.sent,.slice AB s.bals.length cB,.int .i64 s.elapsed,.int .i64 s.timeout,.slice AD s.draws.length cD] 29 (0,0)):=blk_alloc (heap_alloc_new w _) _
  have k3 : ((w.alloc (.cells #[.int .i64 s.id,.int .i64 s.n,.int .i64 s.view,.int .i64 s.last,.int .i64 s.status,.slice AL s.log.length cL,.int .i64 s.commit,.slice AM s.mat.length cM,.slice AK s.marks.length cK,.bool s.sent,.slice AB s.bals.length cB,.int .i64 s.elapsed,.int .i64 s.timeout,.slice AD s.draws.length cD] 29)).alloc (.cells #[.int .i64 s.id,.int .i64 s.n,.int .i64 s.view,.int .i64 s.last,.int .i64 s.status,.slice BL s.log.length dL,.int .i64 s.commit,.slice BM s.mat.length dM,.slice BK s.marks.length dK,.bool s.sent,.slice BB bl.length dB,.int .i64 s.elapsed,.int .i64 s.timeout,.slice BD s.draws.length dD] 44)).heap[w.heap.size + 1]? = some (.cells #[.int .i64 s.id,.int .i64 s.n,.int .i64 s.view,.int .i64 s.last,.int .i64 s.status,.slice BL s.log.length dL,.int .i64 s.commit,.slice BM s.mat.length dM,.slice BK s.marks.length dK,.bool s.sent,.slice BB bl.length dB,.int .i64 s.elapsed,.int .i64 s.timeout,.slice BD s.draws.length dD] 44 (0,0)):=by have:=heap_alloc_new (w.alloc (.cells #[.int .i64 s.id,.int .i64 s.n,.int .i64 s.view,.int .i64 s.last,.int .i64 s.status,.slice AL s.log.length cL,.int .i64 s.commit,.slice AM s.mat.length cM,.slice AK s.marks.length cK,.bool s.sent,.slice AB s.bals.length cB,.int .i64 s.elapsed,.int .i64 s.timeout,.slice AD s.draws.length cD] 29)) (.cells #[.int .i64 s.id,.int .i64 s.n,.int .i64 s.view,.int .i64 s.last,.int .i64 s.status,.slice BL s.log.length dL,.int .i64 s.commit,.slice BM s.mat.length dM,.slice BK s.marks.length dK,.bool s.sent,.slice BB bl.length dB,.int .i64 s.elapsed,.int .i64 s.timeout,.slice BD s.draws.length dD] 44);simpa using this
  have HC0:=Aside0.mk (And.intro hr.1.1 (And.intro h5 (And.intro hr.2.1.1 (And.intro h7 (And.intro hr.2.2.1.1 (And.intro h8 (And.intro hr.2.2.2.2.1 (And.intro h13 (And.intro hr.2.2.2.1.1 h10)))))))))
  have HC:=Aside0.mk (And.intro (Kd.C_below HC0.out.1 HB.out) (And.intro (Kd.C_below HC0.out.2.1 HB.out) (And.intro (Kd.C_below HC0.out.2.2.1 HB.out) (And.intro (Kd.C_below HC0.out.2.2.2.1 HB.out) (And.intro (Kd.C_below HC0.out.2.2.2.2.1 HB.out) (And.intro (Kd.C_below HC0.out.2.2.2.2.2.1 HB.out) (And.intro (Kd.C_below HC0.out.2.2.2.2.2.2.1 HB.out) (And.intro (Kd.C_below HC0.out.2.2.2.2.2.2.2.1 HB.out) (And.intro (Kd.C_below HC0.out.2.2.2.2.2.2.2.2.1 HB.out) (Kd.C_below HC0.out.2.2.2.2.2.2.2.2.2 HB.out))))))))))
  have HBL:=Aside0.mk (And.intro hbl hnn)
  clear hr h5 h7 h8 h10 h13 HC0 hbl hnn
  go_enter Try.func12,Try.ntmps12
  go_upto_region 1 with (fail)
  generalize (w.alloc (.cells #[.int .i64 s.id,.int .i64 s.n,.int .i64 s.view,.int .i64 s.last,.int .i64 s.status,.slice AL s.log.length cL,.int .i64 s.commit,.slice AM s.mat.length cM,.slice AK s.marks.length cK,.bool s.sent,.slice AB s.bals.length cB,.int .i64 s.elapsed,.int .i64 s.timeout,.slice AD s.draws.length cD] 29)).alloc (.cells #[.int .i64 s.id,.int .i64 s.n,.int .i64 s.view,.int .i64 s.last,.int .i64 s.status,.slice BL s.log.length dL,.int .i64 s.commit,.slice BM s.mat.length dM,.slice BK s.marks.length dK,.bool s.sent,.slice BB bl.length dB,.int .i64 s.elapsed,.int .i64 s.timeout,.slice BD s.draws.length dD] 44) = W at *
  rw [HBL.out.2] at k2
  have x0 : W.cell? ⟨w.heap.size,0,none⟩ = some (.int .i64 s.id):=(blk_cell k2 0).trans rfl
  have y0 : W.cell? ⟨w.heap.size + 1,0,none⟩ = some (.int .i64 s.id):=(blk_cell k3 0).trans rfl
  have x1 : W.cell? ⟨w.heap.size,1,none⟩ = some (.int .i64 s.n):=(blk_cell k2 1).trans rfl
  have y1 : W.cell? ⟨w.heap.size + 1,1,none⟩ = some (.int .i64 s.n):=(blk_cell k3 1).trans rfl
  have x2 : W.cell? ⟨w.heap.size,2,none⟩ = some (.int .i64 s.view):=(blk_cell k2 2).trans rfl
  have y2 : W.cell? ⟨w.heap.size + 1,2,none⟩ = some (.int .i64 s.view):=(blk_cell k3 2).trans rfl
  have x3 : W.cell? ⟨w.heap.size,3,none⟩ = some (.int .i64 s.last):=(blk_cell k2 3).trans rfl
  have y3 : W.cell? ⟨w.heap.size + 1,3,none⟩ = some (.int .i64 s.last):=(blk_cell k3 3).trans rfl
  have x4 : W.cell? ⟨w.heap.size,4,none⟩ = some (.int .i64 s.status):=(blk_cell k2 4).trans rfl
  have y4 : W.cell? ⟨w.heap.size + 1,4,none⟩ = some (.int .i64 s.status):=(blk_cell k3 4).trans rfl
  have x5 : W.cell? ⟨w.heap.size,5,none⟩ = some (.slice AL s.log.length cL):=(blk_cell k2 5).trans rfl
  have y5 : W.cell? ⟨w.heap.size + 1,5,none⟩ = some (.slice BL s.log.length dL):=(blk_cell k3 5).trans rfl
  have x6 : W.cell? ⟨w.heap.size,6,none⟩ = some (.int .i64 s.commit):=(blk_cell k2 6).trans rfl
  have y6 : W.cell? ⟨w.heap.size + 1,6,none⟩ = some (.int .i64 s.commit):=(blk_cell k3 6).trans rfl
  have x7 : W.cell? ⟨w.heap.size,7,none⟩ = some (.slice AM s.mat.length cM):=(blk_cell k2 7).trans rfl
  have y7 : W.cell? ⟨w.heap.size + 1,7,none⟩ = some (.slice BM s.mat.length dM):=(blk_cell k3 7).trans rfl
  have x8 : W.cell? ⟨w.heap.size,8,none⟩ = some (.slice AK s.marks.length cK):=(blk_cell k2 8).trans rfl
  have y8 : W.cell? ⟨w.heap.size + 1,8,none⟩ = some (.slice BK s.marks.length dK):=(blk_cell k3 8).trans rfl
  have x9 : W.cell? ⟨w.heap.size,9,none⟩ = some (.bool s.sent):=(blk_cell k2 9).trans rfl
  have y9 : W.cell? ⟨w.heap.size + 1,9,none⟩ = some (.bool s.sent):=(blk_cell k3 9).trans rfl
  have x10 : W.cell? ⟨w.heap.size,10,none⟩ = some (.slice AB bl.length cB):=(blk_cell k2 10).trans rfl
  have y10 : W.cell? ⟨w.heap.size + 1,10,none⟩ = some (.slice BB bl.length dB):=(blk_cell k3 10).trans rfl
  have x11 : W.cell? ⟨w.heap.size,11,none⟩ = some (.int .i64 s.elapsed):=(blk_cell k2 11).trans rfl
  have y11 : W.cell? ⟨w.heap.size + 1,11,none⟩ = some (.int .i64 s.elapsed):=(blk_cell k3 11).trans rfl
  have x12 : W.cell? ⟨w.heap.size,12,none⟩ = some (.int .i64 s.timeout):=(blk_cell k2 12).trans rfl
  have y12 : W.cell? ⟨w.heap.size + 1,12,none⟩ = some (.int .i64 s.timeout):=(blk_cell k3 12).trans rfl
  have x13 : W.cell? ⟨w.heap.size,13,none⟩ = some (.slice AD s.draws.length cD):=(blk_cell k2 13).trans rfl
  have y13 : W.cell? ⟨w.heap.size + 1,13,none⟩ = some (.slice BD s.draws.length dD):=(blk_cell k3 13).trans rfl
  have KK:=Aside0.mk (And.intro k2 k3)
  clear k2 k3
  go_wp2_with (first|(go_at_call_of 30 (Value.slice AL s.log.length cL);refine(SameLists.calls AL cL BL dL (s.log) _ (by repeat (first|exact HC.out.1|(with_reducible refine Kd.C_drewN ?_ _)|(with_reducible refine Kd.C_drew ?_)|(with_reducible refine Kd.C_alloc ?_ _))) (by repeat (first|exact HC.out.2.1|(with_reducible refine Kd.C_drewN ?_ _)|(with_reducible refine Kd.C_drew ?_)|(with_reducible refine Kd.C_alloc ?_ _)))).mono ?_;rintro e w' ⟨rfl,⟨m,rfl⟩⟩)|(go_at_call_of 31 (Value.slice AM s.mat.length cM);refine(SameInts.calls AM cM BM dM (s.mat) _ (by repeat (first|exact HC.out.2.2.1|(with_reducible refine Kd.C_drewN ?_ _)|(with_reducible refine Kd.C_drew ?_)|(with_reducible refine Kd.C_alloc ?_ _))) (by repeat (first|exact HC.out.2.2.2.1|(with_reducible refine Kd.C_drewN ?_ _)|(with_reducible refine Kd.C_drew ?_)|(with_reducible refine Kd.C_alloc ?_ _)))).mono ?_;rintro e w' ⟨rfl,⟨m,rfl⟩⟩)|(go_at_call_of 32 (Value.slice AK s.marks.length cK);refine(SameBools.calls AK cK BK dK (s.marks) _ (by repeat (first|exact HC.out.2.2.2.2.1|(with_reducible refine Kd.C_drewN ?_ _)|(with_reducible refine Kd.C_drew ?_)|(with_reducible refine Kd.C_alloc ?_ _))) (by repeat (first|exact HC.out.2.2.2.2.2.1|(with_reducible refine Kd.C_drewN ?_ _)|(with_reducible refine Kd.C_drew ?_)|(with_reducible refine Kd.C_alloc ?_ _)))).mono ?_;rintro e w' ⟨rfl,⟨m,rfl⟩⟩)|(go_at_call_of 31 (Value.slice AD s.draws.length cD);refine(SameInts.calls AD cD BD dD (s.draws) _ (by repeat (first|exact HC.out.2.2.2.2.2.2.1|(with_reducible refine Kd.C_drewN ?_ _)|(with_reducible refine Kd.C_drew ?_)|(with_reducible refine Kd.C_alloc ?_ _))) (by repeat (first|exact HC.out.2.2.2.2.2.2.2.1|(with_reducible refine Kd.C_drewN ?_ _)|(with_reducible refine Kd.C_drew ?_)|(with_reducible refine Kd.C_alloc ?_ _)))).mono ?_;rintro e w' ⟨rfl,⟨m,rfl⟩⟩))
  go_loopg [5,6,7] (bl.length + 1) (fun gg s5 _ _ wr=>∃ kk : Nat,s5 = .int .i64 (kk : Int)∧Aside0 (kk ≤ bl.length∧bl.length - kk < gg∧Below W.heap.size W wr))
  case atStart=>exact⟨0,rfl,⟨Nat.zero_le _,by omega,by repeat (first|exact Below.refl _ _|refine pw_below_drewN ?_ _|refine below_drew ?_)⟩⟩
  case round =>
    obtain ⟨kk,rfl,Z⟩:=hrel
    have HBig:=Aside0.mk (show bl.length ≤ 9223372036854775807 from by have:=HC.out.2.2.2.2.2.2.2.2.2.2.1;omega)
    clear x0 x1 x2 x3 x4 x5 x6 x7 x8 x9 x10 x11 x12 x13 y0 y1 y2 y3 y4 y5 y6 y7 y8 y9 y10 y11 y12 y13
    have k2:=blk_below KK.out.1 Z.out.2.2
    have k3:=blk_below KK.out.2 Z.out.2.2
    have x10 : wr.cell? ⟨w.heap.size,10,none⟩ = some (.slice AB bl.length cB):=(blk_cell k2 10).trans rfl
    have y10 : wr.cell? ⟨w.heap.size + 1,10,none⟩ = some (.slice BB bl.length dB):=(blk_cell k3 10).trans rfl
    clear k2 k3
    by_cases hlt : kk < bl.length
    · have c1 : decide ((kk : Int) < (bl.length : Int)) = true:=decide_eq_true (by omega)
      have e69 : rd_T69 s.bals (kk : Int) = ofB (rd_T68 bl (kk : Int)):=by
        unfold rd_T69 rd_T68
        rw [HBL.out.1,Int.toNat_natCast,List.getD_eq_getElem?_getD,List.getD_eq_getElem?_getD,List.getElem?_map,List.getElem?_eq_getElem hlt]
        rfl
      obtain ⟨ad1,A2,c2,e,hx0,hx1,hx2,hx3,hl2,hC2⟩:=at_T69 (Kd.C_below HC.out.2.2.2.2.2.2.2.2.1 Z.out.2.2) (kk : Int) (by omega) (by have:=HBL.out.2;omega)
      cases e
      obtain ⟨ad2,B2,d2,e,hy0,hy1,hy2,hy3,hm2,hD2⟩:=at_T68 (Kd.C_below HC.out.2.2.2.2.2.2.2.2.2 Z.out.2.2) (kk : Int) (by omega) (by omega)
      cases e
      rw [e69] at hx0 hx1 hx2 hx3 hC2
      rw [Int.toNat_natCast] at hx0 hx1 hx2 hx3 hy0 hy1 hy2 hy3
      generalize rd_T68 bl (kk : Int) = y at *
      replace hx0 : wr.cell? (ad1.add (kk * 4)) = some (.bool y.f0):=hx0
      replace hx1 : wr.cell? ⟨(ad1.add (kk * 4)).block,(ad1.add (kk * 4)).off + 1,none⟩ = some (.int .i64 y.f1):=hx1
      replace hx2 : wr.cell? ⟨(ad1.add (kk * 4)).block,(ad1.add (kk * 4)).off + 2,none⟩ = some (.slice A2 y.f2.length c2):=hx2
      replace hx3 : wr.cell? ⟨(ad1.add (kk * 4)).block,(ad1.add (kk * 4)).off + 3,none⟩ = some (.int .i64 y.f3):=hx3
      have HE:=Aside0.mk (show Kd.C (Kd.slice 5 (Kd.int .u8)) wr A2 y.f2.length y.f2∧Kd.C (Kd.slice 5 (Kd.int .u8)) wr B2 y.f2.length y.f2 from⟨hC2,hD2⟩)
      have p1 : (0 ≤ (kk : Int)) = True:=eq_true (by omega)
      have p2 : ((kk : Int) < (bl.length : Int)) = True:=eq_true (by omega)
      have hw : wrap64 ((kk : Int) + 1) = ((kk + 1 : Nat) : Int):=by have:=HBig.out;unfold wrap64;omega
      clear e69 hl2 hm2 hC2 hD2
      go_upto_region 8 with (fail)
      have n1:=World.new_ne wr _ x10
      have n2:=World.new_ne wr _ y10
      have n3:=World.new_ne wr _ hx0
      have n4:=World.new_ne wr _ hy0
      go_region_held3 (fun W'=>W'.cell? ⟨w.heap.size,10,none⟩ = some (.slice (some ad1) bl.length cB)∧W'.cell? ⟨w.heap.size + 1,10,none⟩ = some (.slice (some ad2) bl.length dB)∧W'.cell? (ad1.add (kk * 4)) = some (.bool y.f0)∧W'.cell? ⟨(ad1.add (kk * 4)).block,(ad1.add (kk * 4)).off + 1,none⟩ = some (.int .i64 y.f1)∧W'.cell? ⟨(ad1.add (kk * 4)).block,(ad1.add (kk * 4)).off + 2,none⟩ = some (.slice A2 y.f2.length c2)∧W'.cell? ⟨(ad1.add (kk * 4)).block,(ad1.add (kk * 4)).off + 3,none⟩ = some (.int .i64 y.f3)∧W'.cell? (ad2.add (kk * 4)) = some (.bool y.f0)∧W'.cell? ⟨(ad2.add (kk * 4)).block,(ad2.add (kk * 4)).off + 1,none⟩ = some (.int .i64 y.f1)∧W'.cell? ⟨(ad2.add (kk * 4)).block,(ad2.add (kk * 4)).off + 2,none⟩ = some (.slice B2 y.f2.length d2)∧W'.cell? ⟨(ad2.add (kk * 4)).block,(ad2.add (kk * 4)).off + 3,none⟩ = some (.int .i64 y.f3)) (go_keep) (fail)
      all_goals
        go_wp2_with (go_at_call 30;refine(SameLists.calls A2 c2 B2 d2 y.f2 _ (by repeat (first|exact HE.out.1|(with_reducible refine Kd.C_drewN ?_ _)|(with_reducible refine Kd.C_drew ?_)|(with_reducible refine Kd.C_alloc ?_ _))) (by repeat (first|exact HE.out.2|(with_reducible refine Kd.C_drewN ?_ _)|(with_reducible refine Kd.C_drew ?_)|(with_reducible refine Kd.C_alloc ?_ _)))).mono ?_;rintro e w' ⟨rfl,⟨m,rfl⟩⟩)
        rw [hw]
        obtain ⟨gg,rfl⟩ : ∃ m,gk = m + 1:=⟨gk - 1,by have:=Z.out;omega⟩
        have hZ:=Z.out
        go_roundg gg
        case measure=>omega
        case rel=>exact⟨kk + 1,rfl,⟨by omega,by omega,by repeat (first|exact Z.out.2.2|refine pw_below_drewN ?_ _|refine below_drew ?_|refine below_alloc ?_ _)⟩⟩
    · have c1 : decide ((kk : Int) < (bl.length : Int)) = false:=decide_eq_false (by omega)
      have c1n : decide (kk < bl.length) = false:=decide_eq_false hlt
      go_wp2
      go_ret
      exact⟨rfl,HB.out.trans (Z.out.2.2.mono HB.out.size)⟩
end Go.Proofs.Ytojjnifbnppliaa.T
end
section
namespace Go.Proofs.Ytojjnifbnppliaa.T
open Go.RowKit Go.Proofs.YtojjnifbnppliaaW.PrintWords Go.Proofs.YtojjnifbnppliaaW.PrintLast Go.Proofs.YtojjnifbnppliaaW.PrintMore
attribute [local go_sem] max2_int min2_int max_two min_two max_three min_three max_four min_four
set_option linter.unusedVariables false
set_option linter.unusedSimpArgs false
/-- A new replica, the first of n. -/
def new0 (n : Int) : St:=newS 0 n []
theorem newF_new0 {n : Int} (hn : 1 ≤ n∧n ≤ 9) : newF 0 n [] = (new0 n,0):=by
  unfold newF
  rw [if_pos ⟨wi_iff.2 hn,wi_iff.2 ⟨Int.le_refl _,by omega⟩⟩,if_neg (by simp)]
  rfl
set_option maxHeartbeats 1000000 in
theorem New0.calls (n : Int) (hn : 1 ≤ n∧n ≤ 9) (w : World) : Calls Try.prog 7 #[.int .i64 0,.int .i64 n,.slice none 0 0] w fun e w'=>∃ (AL : Option Addr) (cL : Nat) (AM : Option Addr) (cM : Nat) (AK : Option Addr) (cK : Nat) (AB : Option Addr) (cB : Nat) (AD : Option Addr) (cD : Nat),e = .returned (.tuple #[.agg #[.int .i64 (new0 n).id,.int .i64 (new0 n).n,.int .i64 (new0 n).view,.int .i64 (new0 n).last,.int .i64 (new0 n).status,.slice AL (new0 n).log.length cL,.int .i64 (new0 n).commit,.slice AM (new0 n).mat.length cM,.slice AK (new0 n).marks.length cK,.bool (new0 n).sent,.slice AB (new0 n).bals.length cB,.int .i64 (new0 n).elapsed,.int .i64 (new0 n).timeout,.slice AD (new0 n).draws.length cD],.int .i64 0])∧Rd w' (new0 n) AL cL AM cM AK cK AB cB AD cD∧Below w.heap.size w w':=by
  have h:=New.calls 0 n none 0 [] w (Kd.C_nil _ _) (Nat.le_refl _)
  rw [newF_new0 hn] at h
  exact h
set_option maxHeartbeats 1000000 in
/-- A request that is taken. -/
theorem Step3ok.calls (s s' : St) (AL : Option Addr) (cL : Nat) (AM : Option Addr) (cM : Nat) (AK : Option Addr) (cK : Nat) (AB : Option Addr) (cB : Nat) (AD : Option Addr) (cD : Nat) (x : Ms) (AX : Option Addr) (cX : Nat) (A : Option Addr) (c : Nat) (data : List Int) (k : Int) (hk3 : k = 3) (w : World) (hE : reqE s data = none) (hS : reqS s data = s') (hr : Rd w s AL cL AM cM AK cK AB cB AD cD) (hc : Chk s) (hb : s.bals = []) (hd : Kd.C (Kd.int .u8) w A data.length data) :
    Calls Try.prog 8 #[.agg #[.int .i64 s.id,.int .i64 s.n,.int .i64 s.view,.int .i64 s.last,.int .i64 s.status,.slice AL s.log.length cL,.int .i64 s.commit,.slice AM s.mat.length cM,.slice AK s.marks.length cK,.bool s.sent,.slice AB s.bals.length cB,.int .i64 s.elapsed,.int .i64 s.timeout,.slice AD s.draws.length cD],.agg #[.int .i64 k,.int .i64 x.kind,.int .i64 x.fro,.int .i64 x.dst,.int .i64 x.view,.int .i64 x.last,.int .i64 x.prev,.slice AX x.log.length cX,.int .i64 x.commit,.int .i64 x.mat,.slice A data.length c]] w fun e w'=>∃ (AL' : Option Addr) (cL' : Nat) (AM' : Option Addr) (cM' : Nat) (AK' : Option Addr) (cK' : Nat) (AB' : Option Addr) (cB' : Nat) (AD' : Option Addr) (cD' : Nat) (AO : Option Addr) (cO : Nat),e = .returned (.tuple #[.agg #[.int .i64 s'.id,.int .i64 s'.n,.int .i64 s'.view,.int .i64 s'.last,.int .i64 s'.status,.slice AL' s'.log.length cL',.int .i64 s'.commit,.slice AM' s'.mat.length cM',.slice AK' s'.marks.length cK',.bool s'.sent,.slice AB' s'.bals.length cB',.int .i64 s'.elapsed,.int .i64 s'.timeout,.slice AD' s'.draws.length cD'],.slice AO 0 cO,.int .i64 0])∧(∀ W,Keeps w' W (fun k=>k < w.heap.size)→Rd W s' AL' cL' AM' cM' AK' cK' AB' cB' AD' cD')∧Below w.heap.size w w':=by
  refine(Step3.calls s AL cL AM cM AK cK AB cB AD cD x AX cX A c data k hk3 w hr hc hb hd).mono ?_
  rintro e w' ⟨hb,h⟩
  rw [hE,hS] at h
  obtain ⟨AL',cL',AM',cM',AK',cK',AB',cB',AD',cD',AO,cO,he,h1⟩:=h
  exact⟨AL',cL',AM',cM',AK',cK',AB',cB',AD',cD',AO,cO,he,fun W hW=>(h1 W hW).1,hb⟩
set_option maxHeartbeats 1000000 in
/-- An answer that is taken. -/
theorem Step2ok.calls (s s' : St) (AL : Option Addr) (cL : Nat) (AM : Option Addr) (cM : Nat) (AK : Option Addr) (cK : Nat) (AB : Option Addr) (cB : Nat) (AD : Option Addr) (cD : Nat) (x : Ms) (AX : Option Addr) (cX : Nat) (A : Option Addr) (c : Nat) (data : List Int) (k : Int) (hk2 : k = 2) (hx2 : x.kind = 2) (w : World) (hE : prepE s x = none) (hS : prepS s x = s') (hr : Rd w s AL cL AM cM AK cK AB cB AD cD) (hc : Chk s) (hx : MsgOk s.id s.n x) (hv : decide (x.view < s.view) = false) (hlog : Kd.C (Kd.slice 5 (Kd.int .u8)) w AX x.log.length x.log) :
    Calls Try.prog 8 #[.agg #[.int .i64 s.id,.int .i64 s.n,.int .i64 s.view,.int .i64 s.last,.int .i64 s.status,.slice AL s.log.length cL,.int .i64 s.commit,.slice AM s.mat.length cM,.slice AK s.marks.length cK,.bool s.sent,.slice AB s.bals.length cB,.int .i64 s.elapsed,.int .i64 s.timeout,.slice AD s.draws.length cD],.agg #[.int .i64 k,.int .i64 x.kind,.int .i64 x.fro,.int .i64 x.dst,.int .i64 x.view,.int .i64 x.last,.int .i64 x.prev,.slice AX x.log.length cX,.int .i64 x.commit,.int .i64 x.mat,.slice A data.length c]] w fun e w'=>∃ (AL' : Option Addr) (cL' : Nat) (AM' : Option Addr) (cM' : Nat) (AK' : Option Addr) (cK' : Nat) (AB' : Option Addr) (cB' : Nat) (AD' : Option Addr) (cD' : Nat) (AO : Option Addr) (cO : Nat),e = .returned (.tuple #[.agg #[.int .i64 s'.id,.int .i64 s'.n,.int .i64 s'.view,.int .i64 s'.last,.int .i64 s'.status,.slice AL' s'.log.length cL',.int .i64 s'.commit,.slice AM' s'.mat.length cM',.slice AK' s'.marks.length cK',.bool s'.sent,.slice AB' s'.bals.length cB',.int .i64 s'.elapsed,.int .i64 s'.timeout,.slice AD' s'.draws.length cD'],.slice AO 0 cO,.int .i64 0])∧(∀ W,Keeps w' W (fun k=>k < w.heap.size)→Rd W s' AL' cL' AM' cM' AK' cK' AB' cB' AD' cD')∧Below w.heap.size w w':=by
  refine(Step2p.calls s AL cL AM cM AK cK AB cB AD cD x AX cX A c data k hk2 hx2 w hr hc hx hv hlog).mono ?_
  rintro e w' ⟨hb,h⟩
  rw [hE,hS] at h
  obtain ⟨AL',cL',AM',cM',AK',cK',AB',cB',AD',cD',AO,cO,he,h1⟩:=h
  exact⟨AL',cL',AM',cM',AK',cK',AB',cB',AD',cD',AO,cO,he,fun W hW=>(h1 W hW).1,hb⟩
set_option maxHeartbeats 1000000 in
theorem Num.calls (a : Int) (w : World) : Calls Try.prog 9 #[.int .i64 a] w fun e w'=>e = .returned (.int .i64 a)∧w' = w:=by
  go_enter Try.func9,Try.ntmps9
  go_wp2
  go_ret
  exact⟨rfl,rfl⟩
theorem conv_lit (W : World) (cs : Array Value) (n c : Nat) : (convert 22 22 (.slice (some ⟨W.heap.size,0,none⟩) n c)).run Try.prog (W.alloc (.cells cs 5)) = .ok (.slice (some ⟨W.heap.size,0,none⟩) n c) (W.alloc (.cells cs 5 (cs.size,cs.size + 1))):=by
  have hsh : (W.alloc (.cells cs 5)).shape? W.heap.size = some (5,cs.size):=by
    unfold World.shape?
    rw [heap_alloc_new]
  have hfr : (W.alloc (.cells cs 5)).freeze ⟨W.heap.size,cs.size,none⟩ 1 = W.alloc (.cells cs 5 (cs.size,cs.size + 1)):=by
    have hm : ∀ (a : Array Obj) (x : Obj) (f : Obj→Obj),(a.push x).modify a.size f = a.push (f x):=by
      intro a x f
      apply Array.ext
      · simp
      · intro i h1 h2
        simp [Array.getElem_modify,Array.getElem_push]
        split <;> rename_i h
        · subst h;simp
        · by_cases hi : i < a.size
          · simp [hi]
          · simp at h1;omega
    unfold World.freeze World.alloc
    simp [hm]
  simp [convert,run_underlying Try.underlying22,run_underlying (show Try.prog.underlying 5 = some (.int .u8) by kernel_rfl),markStringish,hsh]
  exact hfr
theorem conv_at (W : World) (g n c : Nat) (cs : Array Value) (hg : g = W.heap.size) : (convert 22 22 (.slice (some ⟨g,0,none⟩) n c)).run Try.prog (W.alloc (.cells cs 5)) = .ok (.slice (some ⟨g,0,none⟩) n c) (W.alloc (.cells cs 5 (cs.size,cs.size + 1))):=by subst hg;exact conv_lit W cs n c
theorem a_C (W : World) (fr : Nat × Nat) : Kd.C (Kd.int .u8) (W.alloc (.cells #[.int .u8 97] 5 fr)) (some ⟨W.heap.size,0,none⟩) ([97] : List Int).length [97]:=by
  have hb:=heap_alloc_new W (.cells #[.int .u8 97] 5 fr)
  refine⟨rfl,by simp,fun _=>⟨_,rfl,fun j p hj=>?_⟩⟩
  match j,hj with
  | 0,hj =>
    cases hj
    refine⟨[.int .u8 97],rfl,rfl,fun i u hi=>?_⟩
    match i,hi with
    | 0,hi=>cases hi;show World.cell? _ ⟨W.heap.size,0,none⟩ = _;simp only [World.cell?];rw [hb];rfl
def aS1 : St:=new0 1
def aS2 : St:=reqS aS1 [97]
def aT1 : St:=new0 3
def aT2 : St:=reqS aT1 [97]
def aX : Ms:=⟨2,1,0,0,0,0,[],0,1⟩
def zX : Ms:=⟨0,0,0,0,0,0,[],0,0⟩
def aU : St:=prepS aT2 aX
theorem aS1_chk : Chk aS1:=(check_iff _).1 (by kernel_rfl)
theorem aT1_chk : Chk aT1:=(check_iff _).1 (by kernel_rfl)
theorem aT2_chk : Chk aT2:=(check_iff _).1 (by kernel_rfl)
theorem aS2_e : reqE aS1 [97] = none:=by kernel_rfl
theorem aT2_e : reqE aT1 [97] = none:=by kernel_rfl
theorem aU_e : prepE aT2 aX = none:=by kernel_rfl
theorem aX_ok : MsgOk aT2.id aT2.n aX:=⟨by kernel_rfl,by kernel_rfl,by kernel_rfl,by kernel_rfl,by kernel_rfl,by decide,by kernel_rfl,by kernel_rfl,by kernel_rfl,by kernel_rfl⟩
theorem aS2_c : aS2.commit = 1:=by kernel_rfl
theorem aT2_c : aT2.commit = 0:=by kernel_rfl
theorem aU_c : aU.commit = 1:=by kernel_rfl
theorem Keeps.row {w w1 : World} {S : Nat→Prop} (h : Keeps w w1 S) {g : Nat} (hg : S g) (cs : Array Value) : Keeps w (w1.setRow g cs) S:=h.trans ⟨rfl,rfl,rfl,by simp,fun k _ hk=>setRow_other w1 g k cs (fun e=>hk (e ▸ hg))⟩
theorem laid29 (w1 : World) (CS : Array Value) : ((w1.alloc (.cells #[.int .i64 0,.int .i64 0,.int .i64 0,.int .i64 0,.int .i64 0,.slice none 0 0,.int .i64 0,.slice none 0 0,.slice none 0 0,.bool false,.slice none 0 0,.int .i64 0,.int .i64 0,.slice none 0 0] 29)).setRow w1.heap.size CS).heap[w1.heap.size]? = some (.cells CS 29 (0,0))∧Below w1.heap.size w1 ((w1.alloc (.cells #[.int .i64 0,.int .i64 0,.int .i64 0,.int .i64 0,.int .i64 0,.slice none 0 0,.int .i64 0,.slice none 0 0,.slice none 0 0,.bool false,.slice none 0 0,.int .i64 0,.int .i64 0,.slice none 0 0] 29)).setRow w1.heap.size CS) :=
  ⟨setRow_heap _ _ _ _ _ _ (heap_alloc_new _ _),below_row (below_alloc (Below.refl _ _) _) (Nat.le_refl _) _⟩
set_option maxHeartbeats 8000000 in
set_option maxRecDepth 100000 in
theorem alive.calls (w : World) : Calls Try.prog 6 #[] w fun e w'=>e = .returned (.bool true)∧Below w.heap.size w w':=by
  have hu29:=Try.underlying29
  have hcv:=conv_at
  go_enter Try.func6,Try.ntmps6
  go_upto_region 2 with (first|(go_at_call 7;refine(New0.calls 1 (by decide) _).mono ?_;rintro e w1 ⟨AL1,cL1,AM1,cM1,AK1,cK1,AB1,cB1,AD1,cD1,rfl,hr,hb⟩;have HR:=Aside0.mk hr;have HB:=Aside0.mk hb;clear hr hb)|((with_reducible refine gate_ (.store 29 (.tmp 1) (.tmp 14)) rfl ?_);refine wpList_store_row rfl 29 (.tmp 1) (.tmp 14) rfl w1.heap.size #[.int .i64 (new0 1).id,.int .i64 (new0 1).n,.int .i64 (new0 1).view,.int .i64 (new0 1).last,.int .i64 (new0 1).status,.slice AL1 (new0 1).log.length cL1,.int .i64 (new0 1).commit,.slice AM1 (new0 1).mat.length cM1,.slice AK1 (new0 1).marks.length cK1,.bool (new0 1).sent,.slice AB1 (new0 1).bals.length cB1,.int .i64 (new0 1).elapsed,.int .i64 (new0 1).timeout,.slice AD1 (new0 1).draws.length cD1] rfl rfl 29 #[.int .i64 0,.int .i64 0,.int .i64 0,.int .i64 0,.int .i64 0,.slice none 0 0,.int .i64 0,.slice none 0 0,.slice none 0 0,.bool false,.slice none 0 0,.int .i64 0,.int .i64 0,.slice none 0 0] (heap_alloc_new _ _) (by kernel_rfl) rfl (by kernel_rfl) ?_))
  have HB1S:=Aside0.mk HB.out.size
  obtain ⟨k1,hb1⟩:=laid29 w1 #[.int .i64 (new0 1).id,.int .i64 (new0 1).n,.int .i64 (new0 1).view,.int .i64 (new0 1).last,.int .i64 (new0 1).status,.slice AL1 (new0 1).log.length cL1,.int .i64 (new0 1).commit,.slice AM1 (new0 1).mat.length cM1,.slice AK1 (new0 1).marks.length cK1,.bool (new0 1).sent,.slice AB1 (new0 1).bals.length cB1,.int .i64 (new0 1).elapsed,.int .i64 (new0 1).timeout,.slice AD1 (new0 1).draws.length cD1]
  have K1:=Aside0.mk k1
  replace HR:=Aside0.mk (Rd.below HR.out hb1)
  replace HB:=Aside0.mk (HB.out.trans (hb1.mono HB.out.size))
  clear k1 hb1
  obtain ⟨g1,hg1⟩ : ∃ g,g = w1.heap.size:=⟨_,rfl⟩
  have HG1:=Aside0.mk (show w.heap.size ≤ g1 from by have:=HB1S.out;omega)
  simp only [← hg1] at *
  clear hg1 HB1S
  generalize (w1.alloc (.cells #[.int .i64 0,.int .i64 0,.int .i64 0,.int .i64 0,.int .i64 0,.slice none 0 0,.int .i64 0,.slice none 0 0,.slice none 0 0,.bool false,.slice none 0 0,.int .i64 0,.int .i64 0,.slice none 0 0] 29)).setRow g1 #[.int .i64 (new0 1).id,.int .i64 (new0 1).n,.int .i64 (new0 1).view,.int .i64 (new0 1).last,.int .i64 (new0 1).status,.slice AL1 (new0 1).log.length cL1,.int .i64 (new0 1).commit,.slice AM1 (new0 1).mat.length cM1,.slice AK1 (new0 1).marks.length cK1,.bool (new0 1).sent,.slice AB1 (new0 1).bals.length cB1,.int .i64 (new0 1).elapsed,.int .i64 (new0 1).timeout,.slice AD1 (new0 1).draws.length cD1] = W1 at *
  go_upto_region 3 with (first|((with_reducible refine gate_ (.load 29 (.tmp 1)) rfl ?_);refine wpList_load_row rfl 29 (.tmp 1) rfl g1 rfl 29 _ (0,0) _ K1.out hu29 rfl (by kernel_rfl) ?_)|(go_at_call 8;refine(Step3ok.calls (new0 1) aS2 AL1 cL1 AM1 cM1 AK1 cK1 AB1 cB1 AD1 cD1 zX none 0 _ 1 [97] 3 rfl _ aS2_e rfl (Rd.below HR.out (below_alloc (Below.refl _ _) _)) aS1_chk rfl (a_C _ _)).mono ?_;rintro e w2 ⟨AL2,cL2,AM2,cM2,AK2,cK2,AB2,cB2,AD2,cD2,AO2,cO2,rfl,hr,hb⟩;replace K1:=Aside0.mk (blk_below (blk_alloc K1.out _) hb);replace HB:=Aside0.mk ((below_alloc HB.out _).trans (hb.mono (below_alloc HB.out _).size));clear HR hr hb)|((with_reducible refine gate_ (.store 29 (.tmp 1) (.tmp 22)) rfl ?_);refine wpList_store_row rfl 29 (.tmp 1) (.tmp 22) rfl g1 #[.int .i64 aS2.id,.int .i64 aS2.n,.int .i64 aS2.view,.int .i64 aS2.last,.int .i64 aS2.status,.slice AL2 aS2.log.length cL2,.int .i64 aS2.commit,.slice AM2 aS2.mat.length cM2,.slice AK2 aS2.marks.length cK2,.bool aS2.sent,.slice AB2 aS2.bals.length cB2,.int .i64 aS2.elapsed,.int .i64 aS2.timeout,.slice AD2 aS2.draws.length cD2] rfl rfl 29 _ K1.out (by kernel_rfl) rfl (by kernel_rfl) ?_))
  replace K1:=Aside0.mk (setRow_heap w2 g1 _ #[.int .i64 aS2.id,.int .i64 aS2.n,.int .i64 aS2.view,.int .i64 aS2.last,.int .i64 aS2.status,.slice AL2 aS2.log.length cL2,.int .i64 aS2.commit,.slice AM2 aS2.mat.length cM2,.slice AK2 aS2.marks.length cK2,.bool aS2.sent,.slice AB2 aS2.bals.length cB2,.int .i64 aS2.elapsed,.int .i64 aS2.timeout,.slice AD2 aS2.draws.length cD2] 29 (0,0) K1.out)
  replace HB:=Aside0.mk (below_row HB.out HG1.out #[.int .i64 aS2.id,.int .i64 aS2.n,.int .i64 aS2.view,.int .i64 aS2.last,.int .i64 aS2.status,.slice AL2 aS2.log.length cL2,.int .i64 aS2.commit,.slice AM2 aS2.mat.length cM2,.slice AK2 aS2.marks.length cK2,.bool aS2.sent,.slice AB2 aS2.bals.length cB2,.int .i64 aS2.elapsed,.int .i64 aS2.timeout,.slice AD2 aS2.draws.length cD2])
  generalize w2.setRow g1 #[.int .i64 aS2.id,.int .i64 aS2.n,.int .i64 aS2.view,.int .i64 aS2.last,.int .i64 aS2.status,.slice AL2 aS2.log.length cL2,.int .i64 aS2.commit,.slice AM2 aS2.mat.length cM2,.slice AK2 aS2.marks.length cK2,.bool aS2.sent,.slice AB2 aS2.bals.length cB2,.int .i64 aS2.elapsed,.int .i64 aS2.timeout,.slice AD2 aS2.draws.length cD2] = W2 at *
  go_upto_region 4 with (first|(go_at_call 7;refine(New0.calls 3 (by decide) _).mono ?_;rintro e w3 ⟨AL3,cL3,AM3,cM3,AK3,cK3,AB3,cB3,AD3,cD3,rfl,hr,hb⟩;have HR:=Aside0.mk hr;replace K1:=Aside0.mk (blk_below K1.out hb);replace HB:=Aside0.mk (HB.out.trans (hb.mono HB.out.size));clear hr hb)|((with_reducible refine gate_ (.store 29 (.tmp 5) (.tmp 27)) rfl ?_);refine wpList_store_row rfl 29 (.tmp 5) (.tmp 27) rfl w3.heap.size #[.int .i64 (new0 3).id,.int .i64 (new0 3).n,.int .i64 (new0 3).view,.int .i64 (new0 3).last,.int .i64 (new0 3).status,.slice AL3 (new0 3).log.length cL3,.int .i64 (new0 3).commit,.slice AM3 (new0 3).mat.length cM3,.slice AK3 (new0 3).marks.length cK3,.bool (new0 3).sent,.slice AB3 (new0 3).bals.length cB3,.int .i64 (new0 3).elapsed,.int .i64 (new0 3).timeout,.slice AD3 (new0 3).draws.length cD3] rfl rfl 29 #[.int .i64 0,.int .i64 0,.int .i64 0,.int .i64 0,.int .i64 0,.slice none 0 0,.int .i64 0,.slice none 0 0,.slice none 0 0,.bool false,.slice none 0 0,.int .i64 0,.int .i64 0,.slice none 0 0] (heap_alloc_new _ _) (by kernel_rfl) rfl (by kernel_rfl) ?_))
  have HB3S:=Aside0.mk HB.out.size
  obtain ⟨k3,hb3⟩:=laid29 w3 #[.int .i64 (new0 3).id,.int .i64 (new0 3).n,.int .i64 (new0 3).view,.int .i64 (new0 3).last,.int .i64 (new0 3).status,.slice AL3 (new0 3).log.length cL3,.int .i64 (new0 3).commit,.slice AM3 (new0 3).mat.length cM3,.slice AK3 (new0 3).marks.length cK3,.bool (new0 3).sent,.slice AB3 (new0 3).bals.length cB3,.int .i64 (new0 3).elapsed,.int .i64 (new0 3).timeout,.slice AD3 (new0 3).draws.length cD3]
  have K3:=Aside0.mk k3
  replace HR:=Aside0.mk (Rd.below HR.out hb3)
  have K1L:=Aside0.mk (blk_lt K1.out)
  replace HB:=Aside0.mk (HB.out.trans (hb3.mono HB.out.size))
  replace K1:=Aside0.mk (blk_below K1.out hb3)
  clear k3 hb3
  obtain ⟨g5,hg5⟩ : ∃ g,g = w3.heap.size:=⟨_,rfl⟩
  have HG5:=Aside0.mk (show w.heap.size ≤ g5∧g1 ≠ g5 from by have h1:=HB3S.out;have h2:=K1L.out;exact⟨by omega,by omega⟩)
  simp only [← hg5] at *
  clear hg5 HB3S K1L
  generalize (w3.alloc (.cells #[.int .i64 0,.int .i64 0,.int .i64 0,.int .i64 0,.int .i64 0,.slice none 0 0,.int .i64 0,.slice none 0 0,.slice none 0 0,.bool false,.slice none 0 0,.int .i64 0,.int .i64 0,.slice none 0 0] 29)).setRow g5 #[.int .i64 (new0 3).id,.int .i64 (new0 3).n,.int .i64 (new0 3).view,.int .i64 (new0 3).last,.int .i64 (new0 3).status,.slice AL3 (new0 3).log.length cL3,.int .i64 (new0 3).commit,.slice AM3 (new0 3).mat.length cM3,.slice AK3 (new0 3).marks.length cK3,.bool (new0 3).sent,.slice AB3 (new0 3).bals.length cB3,.int .i64 (new0 3).elapsed,.int .i64 (new0 3).timeout,.slice AD3 (new0 3).draws.length cD3] = W3 at *
  have HG5L:=Aside0.mk (blk_lt K3.out)
  go_upto_region 5 with (first|((with_reducible refine gate_ (.load 29 (.tmp 5)) rfl ?_);refine wpList_load_row rfl 29 (.tmp 5) rfl g5 rfl 29 _ (0,0) _ K3.out hu29 rfl (by kernel_rfl) ?_)|(go_at_call 8;refine(Step3ok.calls (new0 3) aT2 AL3 cL3 AM3 cM3 AK3 cK3 AB3 cB3 AD3 cD3 zX none 0 _ 1 [97] 3 rfl _ aT2_e rfl (Rd.below HR.out (below_alloc (Below.refl _ _) _)) aT1_chk rfl (a_C _ _)).mono ?_;rintro e w4 ⟨AL4,cL4,AM4,cM4,AK4,cK4,AB4,cB4,AD4,cD4,AO4,cO4,rfl,hr,hb⟩;replace K1:=Aside0.mk (blk_below (blk_alloc K1.out _) hb);replace K3:=Aside0.mk (blk_below (blk_alloc K3.out _) hb);replace HB:=Aside0.mk ((below_alloc HB.out _).trans (hb.mono (below_alloc HB.out _).size));replace HR:=Aside0.mk hr;have HS4:=Aside0.mk (show g5 < (W3.alloc (.cells #[.int .u8 97] 5 (1,2))).heap.size from by simp;have:=HG5L.out;omega);clear hr hb)|((with_reducible refine gate_ (.store 29 (.tmp 5) (.tmp 35)) rfl ?_);refine wpList_store_row rfl 29 (.tmp 5) (.tmp 35) rfl g5 #[.int .i64 aT2.id,.int .i64 aT2.n,.int .i64 aT2.view,.int .i64 aT2.last,.int .i64 aT2.status,.slice AL4 aT2.log.length cL4,.int .i64 aT2.commit,.slice AM4 aT2.mat.length cM4,.slice AK4 aT2.marks.length cK4,.bool aT2.sent,.slice AB4 aT2.bals.length cB4,.int .i64 aT2.elapsed,.int .i64 aT2.timeout,.slice AD4 aT2.draws.length cD4] rfl rfl 29 _ K3.out (by kernel_rfl) rfl (by kernel_rfl) ?_))
  replace K1:=Aside0.mk ((setRow_other w4 g5 g1 #[.int .i64 aT2.id,.int .i64 aT2.n,.int .i64 aT2.view,.int .i64 aT2.last,.int .i64 aT2.status,.slice AL4 aT2.log.length cL4,.int .i64 aT2.commit,.slice AM4 aT2.mat.length cM4,.slice AK4 aT2.marks.length cK4,.bool aT2.sent,.slice AB4 aT2.bals.length cB4,.int .i64 aT2.elapsed,.int .i64 aT2.timeout,.slice AD4 aT2.draws.length cD4] HG5.out.2).trans K1.out)
  have HRX:=Aside0.mk (HR.out _ (Keeps.row (g:=g5) (Keeps.refl w4 _) (by exact HS4.out) #[.int .i64 aT2.id,.int .i64 aT2.n,.int .i64 aT2.view,.int .i64 aT2.last,.int .i64 aT2.status,.slice AL4 aT2.log.length cL4,.int .i64 aT2.commit,.slice AM4 aT2.mat.length cM4,.slice AK4 aT2.marks.length cK4,.bool aT2.sent,.slice AB4 aT2.bals.length cB4,.int .i64 aT2.elapsed,.int .i64 aT2.timeout,.slice AD4 aT2.draws.length cD4]))
  replace K3:=Aside0.mk (setRow_heap w4 g5 _ #[.int .i64 aT2.id,.int .i64 aT2.n,.int .i64 aT2.view,.int .i64 aT2.last,.int .i64 aT2.status,.slice AL4 aT2.log.length cL4,.int .i64 aT2.commit,.slice AM4 aT2.mat.length cM4,.slice AK4 aT2.marks.length cK4,.bool aT2.sent,.slice AB4 aT2.bals.length cB4,.int .i64 aT2.elapsed,.int .i64 aT2.timeout,.slice AD4 aT2.draws.length cD4] 29 (0,0) K3.out)
  replace HB:=Aside0.mk (below_row HB.out HG5.out.1 #[.int .i64 aT2.id,.int .i64 aT2.n,.int .i64 aT2.view,.int .i64 aT2.last,.int .i64 aT2.status,.slice AL4 aT2.log.length cL4,.int .i64 aT2.commit,.slice AM4 aT2.mat.length cM4,.slice AK4 aT2.marks.length cK4,.bool aT2.sent,.slice AB4 aT2.bals.length cB4,.int .i64 aT2.elapsed,.int .i64 aT2.timeout,.slice AD4 aT2.draws.length cD4])
  clear HR HS4
  generalize w4.setRow g5 #[.int .i64 aT2.id,.int .i64 aT2.n,.int .i64 aT2.view,.int .i64 aT2.last,.int .i64 aT2.status,.slice AL4 aT2.log.length cL4,.int .i64 aT2.commit,.slice AM4 aT2.mat.length cM4,.slice AK4 aT2.marks.length cK4,.bool aT2.sent,.slice AB4 aT2.bals.length cB4,.int .i64 aT2.elapsed,.int .i64 aT2.timeout,.slice AD4 aT2.draws.length cD4] = W4 at *
  go_upto_region 6 with (first|((with_reducible refine gate_ (.load 29 (.tmp 5)) rfl ?_);refine wpList_load_row rfl 29 (.tmp 5) rfl g5 rfl 29 _ (0,0) _ K3.out hu29 rfl (by kernel_rfl) ?_)|(go_at_call 8;refine(Step2ok.calls aT2 aU AL4 cL4 AM4 cM4 AK4 cK4 AB4 cB4 AD4 cD4 aX none 0 none 0 [] 2 rfl rfl _ aU_e rfl HRX.out aT2_chk aX_ok (by kernel_rfl) (Kd.C_nil _ _)).mono ?_;rintro e w5 ⟨AL5,cL5,AM5,cM5,AK5,cK5,AB5,cB5,AD5,cD5,AO5,cO5,rfl,hr,hb⟩;replace K1:=Aside0.mk (blk_below K1.out hb);replace K3:=Aside0.mk (blk_below K3.out hb);replace HB:=Aside0.mk (HB.out.trans (hb.mono HB.out.size));clear hr hb)|((with_reducible refine gate_ (.store 29 (.tmp 9) (.tmp 43)) rfl ?_);refine wpList_store_row rfl 29 (.tmp 9) (.tmp 43) rfl w5.heap.size #[.int .i64 aU.id,.int .i64 aU.n,.int .i64 aU.view,.int .i64 aU.last,.int .i64 aU.status,.slice AL5 aU.log.length cL5,.int .i64 aU.commit,.slice AM5 aU.mat.length cM5,.slice AK5 aU.marks.length cK5,.bool aU.sent,.slice AB5 aU.bals.length cB5,.int .i64 aU.elapsed,.int .i64 aU.timeout,.slice AD5 aU.draws.length cD5] rfl rfl 29 #[.int .i64 0,.int .i64 0,.int .i64 0,.int .i64 0,.int .i64 0,.slice none 0 0,.int .i64 0,.slice none 0 0,.slice none 0 0,.bool false,.slice none 0 0,.int .i64 0,.int .i64 0,.slice none 0 0] (heap_alloc_new _ _) (by kernel_rfl) rfl (by kernel_rfl) ?_))
  obtain ⟨k9,hb9⟩:=laid29 w5 #[.int .i64 aU.id,.int .i64 aU.n,.int .i64 aU.view,.int .i64 aU.last,.int .i64 aU.status,.slice AL5 aU.log.length cL5,.int .i64 aU.commit,.slice AM5 aU.mat.length cM5,.slice AK5 aU.marks.length cK5,.bool aU.sent,.slice AB5 aU.bals.length cB5,.int .i64 aU.elapsed,.int .i64 aU.timeout,.slice AD5 aU.draws.length cD5]
  replace K1:=blk_below K1.out hb9
  replace K3:=blk_below K3.out hb9
  replace HB:=Aside0.mk (HB.out.trans (hb9.mono HB.out.size))
  clear hb9 HRX
  obtain ⟨g9,hg9⟩ : ∃ g,g = w5.heap.size:=⟨_,rfl⟩
  simp only [← hg9] at *
  clear hg9
  generalize (w5.alloc (.cells #[.int .i64 0,.int .i64 0,.int .i64 0,.int .i64 0,.int .i64 0,.slice none 0 0,.int .i64 0,.slice none 0 0,.slice none 0 0,.bool false,.slice none 0 0,.int .i64 0,.int .i64 0,.slice none 0 0] 29)).setRow g9 #[.int .i64 aU.id,.int .i64 aU.n,.int .i64 aU.view,.int .i64 aU.last,.int .i64 aU.status,.slice AL5 aU.log.length cL5,.int .i64 aU.commit,.slice AM5 aU.mat.length cM5,.slice AK5 aU.marks.length cK5,.bool aU.sent,.slice AB5 aU.bals.length cB5,.int .i64 aU.elapsed,.int .i64 aU.timeout,.slice AD5 aU.draws.length cD5] = W5 at *
  have x1 : W5.cell? ⟨g1,6,none⟩ = some (.int .i64 1):=(blk_cell K1 6).trans (by show some (Value.int .i64 aS2.commit) = _;rw [aS2_c])
  have x5 : W5.cell? ⟨g5,6,none⟩ = some (.int .i64 0):=(blk_cell K3 6).trans (by show some (Value.int .i64 aT2.commit) = _;rw [aT2_c])
  have x9 : W5.cell? ⟨g9,6,none⟩ = some (.int .i64 1):=(blk_cell k9 6).trans (by show some (Value.int .i64 aU.commit) = _;rw [aU_c])
  clear K1 K3 k9 HG1 HG5 HG5L
  go_wp2_with (go_at_call 9;refine(Num.calls _ _).mono ?_;rintro e w' ⟨rfl,rfl⟩)
  go_ret
  exact⟨rfl,HB.out⟩
end Go.Proofs.Ytojjnifbnppliaa.T
end
section
namespace Go.Proofs.Ytojjnifbnppliaa.T
open Go.RowKit Go.Proofs.YtojjnifbnppliaaW.PrintWords Go.Proofs.YtojjnifbnppliaaW.PrintLast Go.Proofs.YtojjnifbnppliaaW.PrintMore
attribute [local go_sem] max2_int min2_int max_two min_two max_three min_three max_four min_four   -- for this text's walks alone
set_option linter.unusedVariables false
set_option linter.unusedSimpArgs false
def undercroftplain_CopyBytes.f (l0 : List Int) : Option (List Int):=if([] : List Int).length + l0.length < 140737488355328 then(some (([] : List Int) ++ l0)) else(none)
set_option maxHeartbeats 8000000 in
set_option maxRecDepth 100000 in
theorem undercroftplain_CopyBytes.calls (A0 : Option Addr) (c0 : Nat) (l0 : List Int) (r : List Int) (w : World) (hr0 : Kd.C (Kd.int .u8) w A0 l0.length l0) (hc0 : l0.length ≤ c0) (h : undercroftplain_CopyBytes.f l0 = some r) :
    Calls Try.prog 29 #[.slice A0 l0.length c0] w fun e w'=>∃ v0_ : Value,e = .returned (v0_)∧Kd.R (Kd.int .u8) 5 w' w.heap.size (fun _=>True) v0_ r∧Below w.heap.size w w':=by
  have HR0:=Aside0.mk hr0
  have HC0:=Aside0.mk hc0
  clear hr0 hc0
  have HB:=Aside0.mk (Below.refl w.heap.size w)
  have H : (if([] : List Int).length + l0.length < 140737488355328 then(some (([] : List Int) ++ l0)) else(none)) = some r:=h
  clear h
  by_cases c2 : ([] : List Int).length + l0.length < 140737488355328
  · rw [if_pos c2] at H
    have LMc2:=Aside0.mk c2
    clear c2
    obtain ⟨y151,hy151⟩ : ∃ y_ : List Int,y_ = (([] : List Int) ++ l0):=⟨_,rfl⟩
    replace H : (some y151) = some r:=by first|(rw [hy151];with_reducible exact H)|(have H2_:=(Option.bind_some _ _).symm.trans H;rw [hy151];with_reducible exact H2_)|(have H2_:=(Option.bind_some _ _).symm.trans H;with_reducible exact H2_)|with_reducible exact H|(rw [hy151];exact H)|exact H
    have Ny151:=Aside0.mk hy151
    clear hy151
    obtain rfl:=Option.some.inj H
    go_enter Try.func29,Try.ntmps29
    go_wp2_with (first|((with_reducible refine gate_builtin (b:=.append) (xs:=#[.tmp 4,.tmp 5]) rfl ?_);at_builtin;refine Kd.R_append_rows (Kd.int .u8) (w0:=w) w.heap.size rfl (.tmp 4) (.tmp 5) 22 5 (.int .u8 0) 1 rfl Try.underlying22 info5 rfl (by decide) (by omega) (.slice none 0 0) ([] : List Int) l0 _ _ _ (fun _=>True) (fun _=>False) rfl rfl ?aO ?aR (fun _ _ h=>h) (fun _ h=>h.elim) ?aF ?aB ?aS ?aL ?_;(case aR=>repeat (first|exact HR0.out|(with_reducible refine Kd.C_alloc ?_ _)|(with_reducible refine Kd.C_drewN ?_ _)|(with_reducible refine Kd.C_drew ?_)));(case aB=>exact(by repeat (first|(with_reducible first|exact HB.out|apply below_alloc|apply pw_below_drewN|apply below_drew1)|exact HB.out)));(case aF=>exact(fun _ _=>trivial));(case aO=>exact((Kd.R_nil _ _ _ _ (fun _=>True))));(case aS=>exact(below_size (by repeat (first|(with_reducible first|exact HB.out|apply below_alloc|apply pw_below_drewN|apply below_drew1)|exact HB.out))));(case aL=>have:=LMc2.out;omega);intro v152 w3 ho hb hg hat;rw [← Ny151.out] at ho;have n0_:=Aside0.mk (hb);have n1_:=Aside0.mk (ho);clear HB;have HB:=n0_;have HO153:=n1_;clear n0_ n1_;clear ho hb hg hat))
    go_ret
    exact⟨_,by first|rfl|(simp [errW_none,errW_some] <;> rfl)|(simp [*,errW_none,errW_some] <;> rfl),by(with_reducible repeat (first|apply Kd.R_alloc|apply Kd.R_drewN|apply Kd.R_drew));exact HO153.out,by repeat (first|(with_reducible first|exact HB.out|apply below_alloc|apply pw_below_drewN|apply below_drew1)|exact HB.out)⟩
  · rw [if_neg c2] at H
    exact absurd H (by simp)
end Go.Proofs.Ytojjnifbnppliaa.T
end
section
namespace Go.Proofs.Ytojjnifbnppliaa.T
open Go.RowKit Go.Proofs.YtojjnifbnppliaaW.PrintWords Go.Proofs.YtojjnifbnppliaaW.PrintLast Go.Proofs.YtojjnifbnppliaaW.PrintMore
attribute [local go_sem] max2_int min2_int max_two min_two max_three min_three max_four min_four   -- for this text's walks alone
set_option linter.unusedVariables false
set_option linter.unusedSimpArgs false
def undercroftplain_CopyLists.l0 : Nat→List (List Int)→List (List Int)→Int→Option ((List (List Int)))
  | 0,_,_,_=>none
  | k + 1,x0,x3,x4=>if x4 < (x0.length : Int) then(if 0 ≤ x4 then((undercroftplain_CopyBytes.f (rd_L1 x0 x4)).bind fun t155=>(if x3.length < 5864062014805 then(undercroftplain_CopyLists.l0 k x0 (x3 ++ [t155]) (wrap64 (x4 + 1))) else(none))) else(none)) else(some x3)
def undercroftplain_CopyLists.f (k : Nat) (l0 : List (List Int)) : Option ((List (List Int))):=undercroftplain_CopyLists.l0 k l0 ([] : List (List Int)) 0
set_option maxHeartbeats 8000000 in
set_option maxRecDepth 100000 in
theorem undercroftplain_CopyLists.calls (k : Nat) (A0 : Option Addr) (c0 : Nat) (l0 : List (List Int)) (r : List (List Int)) (w : World) (hr0 : Kd.C (Kd.slice 5 (Kd.int .u8)) w A0 l0.length l0) (hc0 : l0.length ≤ c0) (h : undercroftplain_CopyLists.f k l0 = some r) :
    Calls Try.prog 25 #[.slice A0 l0.length c0] w fun e w'=>∃ v0_ : Value,e = .returned (v0_)∧Kd.S (Kd.slice 5 (Kd.int .u8)) 22 w' w.heap.size (fun _=>True) v0_ r∧Below w.heap.size w w':=by
  have HR0:=Aside0.mk hr0
  have HC0:=Aside0.mk hc0
  clear hr0 hc0
  have HB:=Aside0.mk (Below.refl w.heap.size w)
  have H : (undercroftplain_CopyLists.l0 k l0 ([] : List (List Int)) 0) = some r:=h
  clear h
  have H':=Aside0.mk H
  clear H
  go_enter Try.func25,Try.ntmps25
  go_wp2
  go_loopg [3,4] k (fun kq v3 v4 w'=>∃ (x3_1 : List (List Int)) (x4_1 : Int),v4 = .int .i64 x4_1∧Aside0 (undercroftplain_CopyLists.l0 kq l0 x3_1 x4_1 = some r)∧Aside0 (kq ≤ k)∧Aside0 (Kd.S (Kd.slice 5 (Kd.int .u8)) 22 w' w.heap.size (fun _=>True) v3 x3_1)∧Aside0 (Below w.heap.size w w'))
  case atStart=>exact⟨(([] : List (List Int))),(0),(by first|rfl|(simp;done)|(simp [*];done)),H',⟨Nat.le_refl _⟩,⟨by first|exact Kd.S_nil _ _ _ _ _|exact Kd.N_nil _ _ _ _ _|exact Kd.V_nil _ _ _ _ _|exact Kd.Q_nil _ _ _ _ _|exact Kd.R_nil _ _ _ _ _⟩,⟨by repeat (first|(with_reducible first|exact HB.out|apply below_alloc|apply pw_below_drewN|apply below_drew1)|exact HB.out)⟩⟩
  case round =>
    clear H'
    obtain ⟨x3_1,x4_1,rfl,HA,HK1,HO_3,HB⟩:=hrel
    cases gk with
    | zero=>exact absurd HA.out (by simp [undercroftplain_CopyLists.l0])
    | succ k1 =>
      have H:=HA.out
      clear HA
      simp only [undercroftplain_CopyLists.l0] at H
      by_cases c2 : x4_1 < (l0.length : Int)
      · rw [if_pos c2] at H
        have c2b0 : decide (x4_1 < (l0.length : Int)) = true:=decide_eq_true c2
        clear c2
        by_cases c3 : 0 ≤ x4_1
        · rw [if_pos c3] at H
          have c3b0 : decide (0 ≤ x4_1) = true:=decide_eq_true c3
          clear c3
          replace H:=Option.bind_eq_some_iff.mp H
          obtain ⟨t155,A40,H⟩:=H
          replace H : (if x3_1.length < 5864062014805 then(undercroftplain_CopyLists.l0 k1 l0 (x3_1 ++ [t155]) (wrap64 (x4_1 + 1))) else(none)) = some r:=H
          have A4:=Aside0.mk A40
          clear A40
          by_cases c5 : x3_1.length < 5864062014805
          · rw [if_pos c5] at H
            have LMc5:=Aside0.mk c5
            clear c5
            obtain ⟨y158,hy158⟩ : ∃ y_ : List (List Int),y_ = (x3_1 ++ [t155]):=⟨_,rfl⟩
            replace H : (undercroftplain_CopyLists.l0 k1 l0 y158 (wrap64 (x4_1 + 1))) = some r:=by first|(rw [hy158];with_reducible exact H)|(have H2_:=(Option.bind_some _ _).symm.trans H;rw [hy158];with_reducible exact H2_)|(have H2_:=(Option.bind_some _ _).symm.trans H;with_reducible exact H2_)|with_reducible exact H|(rw [hy158];exact H)|exact H
            have Ny158:=Aside0.mk hy158
            clear hy158
            have H':=Aside0.mk H
            clear H
            have p154 : 0 ≤ (x4_1 : Int):=of_decide_eq_true (by first|(with_reducible assumption)|assumption)
            have q154 : x4_1 < (l0.length : Int):=of_decide_eq_true (by first|(with_reducible assumption)|assumption)
            obtain ⟨ad154,A154_0,c154_0,e154,hx154_0,hl154_0,hi154_0⟩:=at_L1 HR0.out x4_1 p154 q154
            cases e154
            replace hx154_0:=(HB.out.cell (World.block_lt_of_cell? w _ hx154_0)).trans hx154_0
            have HR154_0:=Aside0.mk hi154_0
            have HC154_0:=Aside0.mk hl154_0
            clear hi154_0 hl154_0
            replace p154:=eq_true p154
            replace q154:=eq_true q154
            go_wp2_with (first|((with_reducible refine gate_callee (f:=29) rfl ?_);refine goesL_ (some 16) rfl rfl Try.func29 (by kernel_rfl) rfl #[.slice A154_0 (rd_L1 l0 x4_1).length c154_0] rfl (by(try simp only [List.map_toArray,List.map_cons,List.map_nil]);first|done|rfl|(simp only [List.length_drop,List.length_take];rfl)) ?_;(with_reducible refine(undercroftplain_CopyBytes.calls _ _ (rd_L1 l0 x4_1) t155 _ ?side1 ?side2 A4.out).mono ?_);(case side1=>repeat (first|exact(Kd.C_below HR154_0.out HB.out)|(with_reducible refine Kd.C_alloc ?_ _)|(with_reducible refine Kd.C_drewN ?_ _)|(with_reducible refine Kd.C_drew ?_)));(case side2=>exact HC154_0.out);rintro e w6 ⟨v156,rfl,ho0,hb⟩;refine⟨_,rfl,?_⟩;have n0_:=Aside0.mk (Kd.S_elder' (by(with_reducible repeat (first|apply Kd.S_alloc|apply Kd.S_drewN|apply Kd.S_drew));exact HO_3.out) (Kd.R_base ho0) hb);have n1_:=Aside0.mk (Kd.R_lower ho0 (below_size (by repeat (first|(with_reducible first|exact HB.out|apply below_alloc|apply pw_below_drewN|apply below_drew1)|exact HB.out))));have n2_:=Aside0.mk (below_step (by repeat (first|(with_reducible first|exact HB.out|apply below_alloc|apply pw_below_drewN|apply below_drew1)|exact HB.out)) hb);clear HO_3;clear HB;have HO_3:=n0_;have HO157:=n1_;have HB:=n2_;clear n0_ n1_ n2_;(try clear hb);(try clear hb2);(try clear hk);(try clear hi);(try clear ho0);obtain ⟨Ao8,co8,eo8⟩:=Kd.R_slice HO157.out;subst eo8)|((with_reducible refine gate_builtin (b:=.append) (xs:=#[.tmp 11,.tmp 17]) rfl ?_);at_builtin;refine Kd.S_append (Kd.slice 5 (Kd.int .u8)) (w0:=w) w.heap.size rfl (.tmp 11) (.tmp 17) 25 22 (.slice none 0 0) 24 rfl Try.underlying25 info22 rfl (by decide) (by omega) u3 x3_1 t155 [.slice Ao8 t155.length co8] (fun _=>True) (fun k_=>some k_ = (.slice Ao8 t155.length co8 : Value).ownBlock) rfl rfl ?aP (fun k_ hk_=>((Kd.R_mono (ok':=fun k_=>((fun _=>True)) k_∧some k_ ≠ (u3 : Value).ownBlock) (Kd.R_apart' (HO157.out) (Kd.S_typed HO_3.out) (by decide)) (fun k_ hk=>⟨trivial,hk.2⟩))).1 k_ hk_.symm) ?aF ?aO ?aB ?aS ?aL ?_;(case aP=>exact Kd.M_row (Kd.R_mono (Kd.R_tight rfl (Kd.R_mono (ok':=fun k_=>((fun _=>True)) k_∧some k_ ≠ (u3 : Value).ownBlock) (Kd.R_apart' (HO157.out) (Kd.S_typed HO_3.out) (by decide)) (fun k_ hk=>⟨trivial,hk.2⟩))) (fun _ h_=>h_)));(case aB=>exact(by repeat (first|(with_reducible first|exact HB.out|apply below_alloc|apply pw_below_drewN|apply below_drew1)|exact HB.out)));(case aF=>exact(fun _ _=>trivial));(case aO=>exact(by(with_reducible repeat (first|apply Kd.S_alloc|apply Kd.S_drewN|apply Kd.S_drew));exact Kd.S_mono HO_3.out (fun k_ hk=>⟨trivial,fun e_=>hk.2 e_⟩)));(case aS=>exact(below_size (by repeat (first|(with_reducible first|exact HB.out|apply below_alloc|apply pw_below_drewN|apply below_drew1)|exact HB.out))));(case aL=>have:=LMc5.out;omega);intro v159 w7 ho hb hg hat;rw [← Ny158.out] at ho;have n0_:=Aside0.mk (hb);have n1_:=Aside0.mk (ho);clear HB;clear HO_3;clear HO157;have HB:=n0_;have HO160:=n1_;clear n0_ n1_;clear ho hb hg hat))
            go_roundg k1
            case measure=>have:=HK1.out;omega
            case rel=>exact⟨(y158),(wrap64 (x4_1 + 1)),(by first|rfl|(simp;done)|(simp [*];done)),H',⟨by have:=HK1.out;omega⟩,⟨by(with_reducible repeat (first|apply Kd.S_alloc|apply Kd.S_drewN|apply Kd.S_drew));exact HO160.out⟩,⟨by repeat (first|(with_reducible first|exact HB.out|apply below_alloc|apply pw_below_drewN|apply below_drew1)|exact HB.out)⟩⟩
          · rw [if_neg c5] at H
            exact absurd H (by simp)
        · rw [if_neg c3] at H
          exact absurd H (by simp)
      · rw [if_neg c2] at H
        have c2b0 : decide (x4_1 < (l0.length : Int)) = false:=decide_eq_false c2
        clear c2
        obtain rfl:=Option.some.inj H
        go_wp2
        go_ret
        exact⟨_,by first|rfl|(simp [errW_none,errW_some] <;> rfl)|(simp [*,errW_none,errW_some] <;> rfl),by(with_reducible repeat (first|apply Kd.S_alloc|apply Kd.S_drewN|apply Kd.S_drew));exact HO_3.out,by repeat (first|(with_reducible first|exact HB.out|apply below_alloc|apply pw_below_drewN|apply below_drew1)|exact HB.out)⟩
def undercroftplain_CopyInts.f (l0 : List Int) : Option (List Int):=if([] : List Int).length + l0.length < 17592186044416 then(some (([] : List Int) ++ l0)) else(none)
set_option maxHeartbeats 8000000 in
set_option maxRecDepth 100000 in
theorem undercroftplain_CopyInts.calls (A0 : Option Addr) (c0 : Nat) (l0 : List Int) (r : List Int) (w : World) (hr0 : Kd.C (Kd.int .i64) w A0 l0.length l0) (hc0 : l0.length ≤ c0) (h : undercroftplain_CopyInts.f l0 = some r) :
    Calls Try.prog 26 #[.slice A0 l0.length c0] w fun e w'=>∃ v0_ : Value,e = .returned (v0_)∧Kd.R (Kd.int .i64) 3 w' w.heap.size (fun _=>True) v0_ r∧Below w.heap.size w w':=by
  have HR0:=Aside0.mk hr0
  have HC0:=Aside0.mk hc0
  clear hr0 hc0
  have HB:=Aside0.mk (Below.refl w.heap.size w)
  have H : (if([] : List Int).length + l0.length < 17592186044416 then(some (([] : List Int) ++ l0)) else(none)) = some r:=h
  clear h
  by_cases c2 : ([] : List Int).length + l0.length < 17592186044416
  · rw [if_pos c2] at H
    have LMc2:=Aside0.mk c2
    clear c2
    obtain ⟨y161,hy161⟩ : ∃ y_ : List Int,y_ = (([] : List Int) ++ l0):=⟨_,rfl⟩
    replace H : (some y161) = some r:=by first|(rw [hy161];with_reducible exact H)|(have H2_:=(Option.bind_some _ _).symm.trans H;rw [hy161];with_reducible exact H2_)|(have H2_:=(Option.bind_some _ _).symm.trans H;with_reducible exact H2_)|with_reducible exact H|(rw [hy161];exact H)|exact H
    have Ny161:=Aside0.mk hy161
    clear hy161
    obtain rfl:=Option.some.inj H
    go_enter Try.func26,Try.ntmps26
    go_wp2_with (first|((with_reducible refine gate_builtin (b:=.append) (xs:=#[.tmp 4,.tmp 5]) rfl ?_);at_builtin;refine Kd.R_append_rows (Kd.int .i64) (w0:=w) w.heap.size rfl (.tmp 4) (.tmp 5) 23 3 (.int .i64 0) 8 rfl Try.underlying23 info3 rfl (by decide) (by omega) (.slice none 0 0) ([] : List Int) l0 _ _ _ (fun _=>True) (fun _=>False) rfl rfl ?aO ?aR (fun _ _ h=>h) (fun _ h=>h.elim) ?aF ?aB ?aS ?aL ?_;(case aR=>repeat (first|exact HR0.out|(with_reducible refine Kd.C_alloc ?_ _)|(with_reducible refine Kd.C_drewN ?_ _)|(with_reducible refine Kd.C_drew ?_)));(case aB=>exact(by repeat (first|(with_reducible first|exact HB.out|apply below_alloc|apply pw_below_drewN|apply below_drew1)|exact HB.out)));(case aF=>exact(fun _ _=>trivial));(case aO=>exact((Kd.R_nil _ _ _ _ (fun _=>True))));(case aS=>exact(below_size (by repeat (first|(with_reducible first|exact HB.out|apply below_alloc|apply pw_below_drewN|apply below_drew1)|exact HB.out))));(case aL=>have:=LMc2.out;omega);intro v162 w3 ho hb hg hat;rw [← Ny161.out] at ho;have n0_:=Aside0.mk (hb);have n1_:=Aside0.mk (ho);clear HB;have HB:=n0_;have HO163:=n1_;clear n0_ n1_;clear ho hb hg hat))
    go_ret
    exact⟨_,by first|rfl|(simp [errW_none,errW_some] <;> rfl)|(simp [*,errW_none,errW_some] <;> rfl),by(with_reducible repeat (first|apply Kd.R_alloc|apply Kd.R_drewN|apply Kd.R_drew));exact HO163.out,by repeat (first|(with_reducible first|exact HB.out|apply below_alloc|apply pw_below_drewN|apply below_drew1)|exact HB.out)⟩
  · rw [if_neg c2] at H
    exact absurd H (by simp)
def undercroftplain_CopyBools.f (l0 : List Bool) : Option (List Bool):=if([] : List Bool).length + l0.length < 140737488355328 then(some (([] : List Bool) ++ l0)) else(none)
set_option maxHeartbeats 8000000 in
set_option maxRecDepth 100000 in
theorem undercroftplain_CopyBools.calls (A0 : Option Addr) (c0 : Nat) (l0 : List Bool) (r : List Bool) (w : World) (hr0 : Kd.C Kd.bool w A0 l0.length l0) (hc0 : l0.length ≤ c0) (h : undercroftplain_CopyBools.f l0 = some r) :
    Calls Try.prog 27 #[.slice A0 l0.length c0] w fun e w'=>∃ v0_ : Value,e = .returned (v0_)∧Kd.R Kd.bool 4 w' w.heap.size (fun _=>True) v0_ r∧Below w.heap.size w w':=by
  have HR0:=Aside0.mk hr0
  have HC0:=Aside0.mk hc0
  clear hr0 hc0
  have HB:=Aside0.mk (Below.refl w.heap.size w)
  have H : (if([] : List Bool).length + l0.length < 140737488355328 then(some (([] : List Bool) ++ l0)) else(none)) = some r:=h
  clear h
  by_cases c2 : ([] : List Bool).length + l0.length < 140737488355328
  · rw [if_pos c2] at H
    have LMc2:=Aside0.mk c2
    clear c2
    obtain ⟨y164,hy164⟩ : ∃ y_ : List Bool,y_ = (([] : List Bool) ++ l0):=⟨_,rfl⟩
    replace H : (some y164) = some r:=by first|(rw [hy164];with_reducible exact H)|(have H2_:=(Option.bind_some _ _).symm.trans H;rw [hy164];with_reducible exact H2_)|(have H2_:=(Option.bind_some _ _).symm.trans H;with_reducible exact H2_)|with_reducible exact H|(rw [hy164];exact H)|exact H
    have Ny164:=Aside0.mk hy164
    clear hy164
    obtain rfl:=Option.some.inj H
    go_enter Try.func27,Try.ntmps27
    go_wp2_with (first|((with_reducible refine gate_builtin (b:=.append) (xs:=#[.tmp 4,.tmp 5]) rfl ?_);at_builtin;refine Kd.R_append_rows Kd.bool (w0:=w) w.heap.size rfl (.tmp 4) (.tmp 5) 26 4 (.bool false) 1 rfl Try.underlying26 info4 rfl (by decide) (by omega) (.slice none 0 0) ([] : List Bool) l0 _ _ _ (fun _=>True) (fun _=>False) rfl rfl ?aO ?aR (fun _ _ h=>h) (fun _ h=>h.elim) ?aF ?aB ?aS ?aL ?_;(case aR=>repeat (first|exact HR0.out|(with_reducible refine Kd.C_alloc ?_ _)|(with_reducible refine Kd.C_drewN ?_ _)|(with_reducible refine Kd.C_drew ?_)));(case aB=>exact(by repeat (first|(with_reducible first|exact HB.out|apply below_alloc|apply pw_below_drewN|apply below_drew1)|exact HB.out)));(case aF=>exact(fun _ _=>trivial));(case aO=>exact((Kd.R_nil _ _ _ _ (fun _=>True))));(case aS=>exact(below_size (by repeat (first|(with_reducible first|exact HB.out|apply below_alloc|apply pw_below_drewN|apply below_drew1)|exact HB.out))));(case aL=>have:=LMc2.out;omega);intro v165 w3 ho hb hg hat;rw [← Ny164.out] at ho;have n0_:=Aside0.mk (hb);have n1_:=Aside0.mk (ho);clear HB;have HB:=n0_;have HO166:=n1_;clear n0_ n1_;clear ho hb hg hat))
    go_ret
    exact⟨_,by first|rfl|(simp [errW_none,errW_some] <;> rfl)|(simp [*,errW_none,errW_some] <;> rfl),by(with_reducible repeat (first|apply Kd.R_alloc|apply Kd.R_drewN|apply Kd.R_drew));exact HO166.out,by repeat (first|(with_reducible first|exact HB.out|apply below_alloc|apply pw_below_drewN|apply below_drew1)|exact HB.out)⟩
  · rw [if_neg c2] at H
    exact absurd H (by simp)
end Go.Proofs.Ytojjnifbnppliaa.T
end
