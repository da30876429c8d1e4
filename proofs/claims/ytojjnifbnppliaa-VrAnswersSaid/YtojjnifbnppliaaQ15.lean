/- What the law's copies are. VrAnswers: the walk in the row's form, and its plain side. This text proves the row of the statement VrAnswers: each message that is told comes from the replica, in its own view, to another one; of an elder view nothing follows: the law answers true for every input, and its arguments read as they did. -/
import Derived.Below
import Derived.ChangeOld
import Derived.OpenShut
import Derived.ProofKit
import Derived.ShutString
import Derived.SizedLaws
import Derived.WalkKit
import Derived.Test.YtojjnifbnppliaaQ00
import Derived.Test.YtojjnifbnppliaaQ11
import Derived.Test.YtojjnifbnppliaaQ12
import Derived.Test.YtojjnifbnppliaaQ13
import Derived.Test.YtojjnifbnppliaaQ14
import Derived.Test.YtojjnifbnppliaaRows
section
namespace Go.Proofs.Ytojjnifbnppliaa.T
open Go.RowKit Go.Proofs.YtojjnifbnppliaaW.PrintWords Go.Proofs.YtojjnifbnppliaaW.PrintLast Go.Proofs.YtojjnifbnppliaaW.PrintMore
attribute [local go_sem] max2_int min2_int max_two min_two max_three min_three max_four min_four
set_option linter.unusedVariables false
set_option linter.unusedSimpArgs false
theorem copyb (l : List Int) (h : l.length < 140737488355328) : undercroftplain_CopyBytes.f l = some l:=by
  unfold undercroftplain_CopyBytes.f
  rw [if_pos (by simpa using h),List.nil_append]
theorem copyi (l : List Int) (h : l.length < 17592186044416) : undercroftplain_CopyInts.f l = some l:=by
  unfold undercroftplain_CopyInts.f
  rw [if_pos (by simpa using h),List.nil_append]
theorem copybo (l : List Bool) (h : l.length < 140737488355328) : undercroftplain_CopyBools.f l = some l:=by
  unfold undercroftplain_CopyBools.f
  rw [if_pos (by simpa using h),List.nil_append]
theorem copyl0 (l : List (List Int)) (hl : l.length ≤ 5864062014634) (hx : ∀ x ∈ l,x.length < 140737488355328) : ∀ (m i k : Nat),i + m = l.length→m < k→undercroftplain_CopyLists.l0 k l (l.take i) i = some l
  | m,i,0,_,h=>by omega
  | 0,i,k + 1,e,_=>by
    rw [undercroftplain_CopyLists.l0,if_neg (by omega),List.take_of_length_le (by omega)]
  | m + 1,i,k + 1,e,h=>by
    have hi : i < l.length:=by omega
    have hrd : rd_L1 l (i : Int) = l[i]:=by
      unfold rd_L1
      rw [Int.toNat_natCast,List.getD_eq_getElem?_getD,List.getElem?_eq_getElem hi]
      rfl
    have hw : wrap64 ((i : Int) + 1) = ((i + 1 : Nat) : Int):=by unfold wrap64;omega
    rw [undercroftplain_CopyLists.l0,if_pos (by omega),if_pos (by omega),hrd]
    refine Option.bind_eq_some_iff.mpr ⟨l[i],copyb _ (hx _ (List.getElem_mem hi)),?_⟩
    rw [if_pos (by rw [List.length_take];omega),hw,← List.take_succ_eq_append_getElem hi]
    exact copyl0 l hl hx m (i + 1) k (by omega) (by omega)
theorem copyl (l : List (List Int)) (hl : l.length ≤ 5864062014634) (hx : ∀ x ∈ l,x.length < 140737488355328) (k : Nat) (hk : l.length < k) : undercroftplain_CopyLists.f k l = some l:=by
  unfold undercroftplain_CopyLists.f
  exact copyl0 l hl hx l.length 0 k (by omega) hk
theorem of_l0 (a0 a1 a2 a3 a4 : Int) (l5 : List (List Int)) (a6 : Int) (l7 : List Int) (l8 : List Bool) (a9 : Bool) (l : List S68) (a11 a12 : Int) (l13 : List Int) (K : Nat) (hl : l.length ≤ 2932031007402) (hx : ∀ y ∈ l,y.f2.length ≤ 5864062014634∧y.f2.length < K∧∀ x ∈ y.f2,x.length < 140737488355328) : ∀ (m i k : Nat),i + m = l.length→m + K < k→undercroftlaw19_Of.l0 k i a0 a1 a2 a3 a4 l5 a6 l7 l8 a9 l a11 a12 l13 a0 a1 a2 a3 a4 l5 a6 l7 l8 a9 ((l.take i).map ofB) a11 a12 l13 = some (a0,a1,a2,a3,a4,l5,a6,l7,l8,a9,l.map ofB,a11,a12,l13)
  | m,i,0,_,h=>by omega
  | 0,i,k + 1,e,_=>by
    rw [undercroftlaw19_Of.l0,if_neg (by omega),List.take_of_length_le (by omega)]
  | m + 1,i,k + 1,e,h=>by
    have hi : i < l.length:=by omega
    have hrd : rd_T68 l (i : Int) = l[i]:=by
      unfold rd_T68
      rw [Int.toNat_natCast,List.getD_eq_getElem?_getD,List.getElem?_eq_getElem hi]
      rfl
    have hw : wrap64 ((i : Int) + 1) = ((i + 1 : Nat) : Int):=by unfold wrap64;omega
    have hxi:=hx _ (List.getElem_mem hi)
    rw [undercroftlaw19_Of.l0,if_pos (by omega),if_pos (by omega),hrd]
    refine Option.bind_eq_some_iff.mpr ⟨l[i].f2,copyl _ hxi.1 hxi.2.2 k (by omega),?_⟩
    have e2 : (l.take i).map ofB ++ [(⟨l[i].f0,l[i].f1,l[i].f2,l[i].f3⟩ : S69)] = (l.take (i + 1)).map ofB:=by
      rw [List.take_succ_eq_append_getElem hi,List.map_append]
      rfl
    rw [if_pos (by rw [List.length_map,List.length_take];omega),hw,e2]
    exact of_l0 a0 a1 a2 a3 a4 l5 a6 l7 l8 a9 l a11 a12 l13 K hl hx m (i + 1) k (by omega) (by omega)
theorem of_f (a0 a1 a2 a3 a4 : Int) (l5 : List (List Int)) (a6 : Int) (l7 : List Int) (l8 : List Bool) (a9 : Bool) (l : List S68) (a11 a12 : Int) (l13 : List Int) (K : Nat) (hl : l.length ≤ 2932031007402) (hx : ∀ y ∈ l,y.f2.length ≤ 5864062014634∧y.f2.length < K∧∀ x ∈ y.f2,x.length < 140737488355328) (h5 : l5.length ≤ 5864062014634) (hx5 : ∀ x ∈ l5,x.length < 140737488355328) (h7 : l7.length < 17592186044416) (h8 : l8.length < 140737488355328) (h13 : l13.length < 17592186044416) (k : Nat) (hk : l.length + K < k) (hk5 : l5.length < k) : undercroftlaw19_Of.f k a0 a1 a2 a3 a4 l5 a6 l7 l8 a9 l a11 a12 l13 = some (a0,a1,a2,a3,a4,l5,a6,l7,l8,a9,l.map ofB,a11,a12,l13):=by
  unfold undercroftlaw19_Of.f
  refine Option.bind_eq_some_iff.mpr ⟨l5,copyl _ h5 hx5 k hk5,?_⟩
  refine Option.bind_eq_some_iff.mpr ⟨l7,copyi _ h7,?_⟩
  refine Option.bind_eq_some_iff.mpr ⟨l8,copybo _ h8,?_⟩
  refine Option.bind_eq_some_iff.mpr ⟨l13,copyi _ h13,?_⟩
  exact of_l0 a0 a1 a2 a3 a4 l5 a6 l7 l8 a9 l a11 a12 l13 K hl hx l.length 0 k (by omega) hk
theorem ev_f (a0 a1 a2 a3 a4 a5 a6 : Int) (l7 : List (List Int)) (a8 a9 : Int) (l10 : List Int) (h7 : l7.length ≤ 5864062014634) (hx7 : ∀ x ∈ l7,x.length < 140737488355328) (h10 : l10.length < 140737488355328) (k : Nat) (hk : l7.length < k) : undercroftlaw19_OfEvent.f k a0 a1 a2 a3 a4 a5 a6 l7 a8 a9 l10 = some (a0,a1,a2,a3,a4,a5,a6,l7,a8,a9,l10):=by
  unfold undercroftlaw19_OfEvent.f undercroftlaw19_OfMsg.f
  refine Option.bind_eq_some_iff.mpr ⟨(a1,a2,a3,a4,a5,a6,l7,a8,a9),?_,?_⟩
  · exact Option.bind_eq_some_iff.mpr ⟨l7,copyl _ h7 hx7 k hk,rfl⟩
  · exact Option.bind_eq_some_iff.mpr ⟨l10,copyb _ h10,rfl⟩
end Go.Proofs.Ytojjnifbnppliaa.T
end
section
namespace Go.Proofs.Ytojjnifbnppliaa.T
open Go.RowKit Go.Proofs.YtojjnifbnppliaaW.PrintWords Go.Proofs.YtojjnifbnppliaaW.PrintLast Go.Proofs.YtojjnifbnppliaaW.PrintMore
attribute [local go_sem] max2_int min2_int max_two min_two max_three min_three max_four min_four
set_option linter.unusedVariables false
set_option linter.unusedSimpArgs false
open Go.Proofs.YtojjnifbnppliaaW.Fit
abbrev SR:=Int × Int × Int × Int × Int × List (List Int) × Int × List Int × List Bool × Bool × List S68 × Int × Int × List Int
def kSR : Kd SR:=Kd.iso (Kd.pair (Kd.int .i64) (Kd.pair (Kd.int .i64) (Kd.pair (Kd.int .i64) (Kd.pair (Kd.int .i64) (Kd.pair (Kd.int .i64) (Kd.pair (Kd.slice 22 (Kd.slice 5 (Kd.int .u8))) (Kd.pair (Kd.int .i64) (Kd.pair (Kd.slice 3 (Kd.int .i64)) (Kd.pair (Kd.slice 4 Kd.bool) (Kd.pair Kd.bool (Kd.pair (Kd.slice 68 k68) (Kd.pair (Kd.int .i64) (Kd.pair (Kd.int .i64) (Kd.slice 3 (Kd.int .i64))))))))))))))) (fun x=>x)
def stOf (x : SR) : St:={ id:=x.1,n:=x.2.1,view:=x.2.2.1,last:=x.2.2.2.1,status:=x.2.2.2.2.1,log:=x.2.2.2.2.2.1,commit:=x.2.2.2.2.2.2.1,mat:=x.2.2.2.2.2.2.2.1,marks:=x.2.2.2.2.2.2.2.2.1,sent:=x.2.2.2.2.2.2.2.2.2.1,bals:=(x.2.2.2.2.2.2.2.2.2.2.1).map ofB,elapsed:=x.2.2.2.2.2.2.2.2.2.2.2.1,timeout:=x.2.2.2.2.2.2.2.2.2.2.2.2.1,draws:=x.2.2.2.2.2.2.2.2.2.2.2.2.2 }
theorem kSR_open {w : World} {x : SR} {cs : List Value} (h : kSR.K w x cs) : ∃ A5 c5 A7 c7 A8 c8 A10 c10 A13 c13,cs = [.int .i64 x.1,.int .i64 x.2.1,.int .i64 x.2.2.1,.int .i64 x.2.2.2.1,.int .i64 x.2.2.2.2.1,.slice A5 x.2.2.2.2.2.1.length c5,.int .i64 x.2.2.2.2.2.2.1,.slice A7 x.2.2.2.2.2.2.2.1.length c7,.slice A8 x.2.2.2.2.2.2.2.2.1.length c8,.bool x.2.2.2.2.2.2.2.2.2.1,.slice A10 x.2.2.2.2.2.2.2.2.2.2.1.length c10,.int .i64 x.2.2.2.2.2.2.2.2.2.2.2.1,.int .i64 x.2.2.2.2.2.2.2.2.2.2.2.2.1,.slice A13 x.2.2.2.2.2.2.2.2.2.2.2.2.2.length c13]∧x.2.2.2.2.2.1.length ≤ c5∧Kd.C (Kd.slice 5 (Kd.int .u8)) w A5 x.2.2.2.2.2.1.length x.2.2.2.2.2.1∧x.2.2.2.2.2.2.2.1.length ≤ c7∧Kd.C (Kd.int .i64) w A7 x.2.2.2.2.2.2.2.1.length x.2.2.2.2.2.2.2.1∧x.2.2.2.2.2.2.2.2.1.length ≤ c8∧Kd.C (Kd.bool) w A8 x.2.2.2.2.2.2.2.2.1.length x.2.2.2.2.2.2.2.2.1∧x.2.2.2.2.2.2.2.2.2.2.1.length ≤ c10∧Kd.C (k68) w A10 x.2.2.2.2.2.2.2.2.2.2.1.length x.2.2.2.2.2.2.2.2.2.2.1∧x.2.2.2.2.2.2.2.2.2.2.2.2.2.length ≤ c13∧Kd.C (Kd.int .i64) w A13 x.2.2.2.2.2.2.2.2.2.2.2.2.2.length x.2.2.2.2.2.2.2.2.2.2.2.2.2:=by
  obtain ⟨_,_,rfl,rfl,⟨_,_,rfl,rfl,⟨_,_,rfl,rfl,⟨_,_,rfl,rfl,⟨_,_,rfl,rfl,⟨_,_,rfl,⟨A5,c5,rfl,l5,g5⟩,⟨_,_,rfl,rfl,⟨_,_,rfl,⟨A7,c7,rfl,l7,g7⟩,⟨_,_,rfl,⟨A8,c8,rfl,l8,g8⟩,⟨_,_,rfl,rfl,⟨_,_,rfl,⟨A10,c10,rfl,l10,g10⟩,⟨_,_,rfl,rfl,⟨_,_,rfl,rfl,⟨A13,c13,rfl,l13,g13⟩⟩⟩⟩⟩⟩⟩⟩⟩⟩⟩⟩⟩⟩:=h
  exact⟨A5,c5,A7,c7,A8,c8,A10,c10,A13,c13,rfl,l5,g5,l7,g7,l8,g8,l10,g10,l13,g13⟩
theorem kMs_open2 {w : World} {x : Ms} {cs : List Value} (h : kMs.K w x cs) : ∃ (A : Option Addr) (c : Nat),cs = [.int .i64 x.kind,.int .i64 x.fro,.int .i64 x.dst,.int .i64 x.view,.int .i64 x.last,.int .i64 x.prev,.slice A x.log.length c,.int .i64 x.commit,.int .i64 x.mat]∧x.log.length ≤ c∧Kd.C (Kd.slice 5 (Kd.int .u8)) w A x.log.length x.log:=by
  obtain ⟨_,_,rfl,rfl,⟨_,_,rfl,rfl,⟨_,_,rfl,rfl,⟨_,_,rfl,rfl,⟨_,_,rfl,rfl,⟨_,_,rfl,rfl,⟨_,_,rfl,⟨A,c,rfl,l,g⟩,⟨_,_,rfl,rfl,rfl⟩⟩⟩⟩⟩⟩⟩⟩:=h
  exact⟨A,c,rfl,l,g⟩
abbrev EV:=Int × Ms × List Int
def kEV : Kd EV:=Kd.iso (Kd.pair (Kd.int .i64) (Kd.pair kMs (Kd.slice 5 (Kd.int .u8)))) (fun x=>x)
theorem kEV_open {w : World} {x : EV} {cs : List Value} (h : kEV.K w x cs) : ∃ AX cX A c,cs = [.int .i64 x.1,.int .i64 x.2.1.kind,.int .i64 x.2.1.fro,.int .i64 x.2.1.dst,.int .i64 x.2.1.view,.int .i64 x.2.1.last,.int .i64 x.2.1.prev,.slice AX x.2.1.log.length cX,.int .i64 x.2.1.commit,.int .i64 x.2.1.mat,.slice A x.2.2.length c]∧x.2.1.log.length ≤ cX∧Kd.C (Kd.slice 5 (Kd.int .u8)) w AX x.2.1.log.length x.2.1.log∧x.2.2.length ≤ c∧Kd.C (Kd.int .u8) w A x.2.2.length x.2.2:=by
  obtain ⟨_,_,rfl,rfl,⟨_,_,rfl,hm,⟨A,c,rfl,l,g⟩⟩⟩:=h
  obtain ⟨AX,cX,rfl,lx,gx⟩:=kMs_open2 hm
  exact⟨AX,cX,A,c,rfl,lx,gx,l,g⟩
def SzL (l : List (List Int)) : Prop:=l.length ≤ 5864062014634∧∀ x ∈ l,x.length < 140737488355328
def SzSR (x : SR) : Prop:=SzL (x.2.2.2.2.2.1)∧(x.2.2.2.2.2.2.2.1).length < 17592186044416∧(x.2.2.2.2.2.2.2.2.1).length < 140737488355328∧((x.2.2.2.2.2.2.2.2.2.2.1).length ≤ 2932031007402∧∀ y ∈ x.2.2.2.2.2.2.2.2.2.2.1,SzL y.f2)∧(x.2.2.2.2.2.2.2.2.2.2.2.2.2).length < 17592186044416
def SzEV (x : EV) : Prop:=SzL x.2.1.log∧x.2.2.length < 140737488355328
theorem fits68 : ∃ ok : S68→Prop,Go.Proofs.YtojjnifbnppliaaW.Fit.Fits Try.prog 68 k68 ok∧∀ x,ok x→SzL x.f2:=by
  refine⟨_,fits_struct (f:=fun x : S68=>(x.f0,x.f1,x.f2,x.f3)) (fun y=>⟨y.1,y.2.1,y.2.2.1,y.2.2.2⟩) (fun _=>rfl) Try.underlying68 (by kernel_rfl) (fitsFs_cons rfl (fits_bool Try.underlying4 (by kernel_rfl)) (fitsFs_cons rfl (fits_int Try.underlying3 (by kernel_rfl)) (fitsFs_cons rfl (fits_slice (B:=24) Try.underlying25 (by kernel_rfl) (fits_slice (B:=1) Try.underlying22 (by kernel_rfl) (fits_int Try.underlying5 (by kernel_rfl)) (by kernel_rfl)) (by kernel_rfl)) (fitsFs_one rfl (fits_int Try.underlying3 (by kernel_rfl)))))),fun x h=>?_⟩
  obtain ⟨_,_,h2,_⟩:=h
  exact⟨by have:=h2.2.1;(try simp only at this);omega,fun y hy=>by have:=(h2.1 y hy).2.1;omega⟩
theorem fits45 : ∃ ok : Ms→Prop,Go.Proofs.YtojjnifbnppliaaW.Fit.Fits Try.prog 45 kMs ok∧∀ x,ok x→SzL x.log:=by
  refine⟨_,fits_struct (f:=fun x : Ms=>(x.kind,x.fro,x.dst,x.view,x.last,x.prev,x.log,x.commit,x.mat)) (fun y=>{ kind:=y.1,fro:=y.2.1,dst:=y.2.2.1,view:=y.2.2.2.1,last:=y.2.2.2.2.1,prev:=y.2.2.2.2.2.1,log:=y.2.2.2.2.2.2.1,commit:=y.2.2.2.2.2.2.2.1,mat:=y.2.2.2.2.2.2.2.2 }) (fun _=>rfl) Try.underlying45 (by kernel_rfl) (fitsFs_cons rfl (fits_int Try.underlying3 (by kernel_rfl)) (fitsFs_cons rfl (fits_int Try.underlying3 (by kernel_rfl)) (fitsFs_cons rfl (fits_int Try.underlying3 (by kernel_rfl)) (fitsFs_cons rfl (fits_int Try.underlying3 (by kernel_rfl)) (fitsFs_cons rfl (fits_int Try.underlying3 (by kernel_rfl)) (fitsFs_cons rfl (fits_int Try.underlying3 (by kernel_rfl)) (fitsFs_cons rfl (fits_slice (B:=24) Try.underlying25 (by kernel_rfl) (fits_slice (B:=1) Try.underlying22 (by kernel_rfl) (fits_int Try.underlying5 (by kernel_rfl)) (by kernel_rfl)) (by kernel_rfl)) (fitsFs_cons rfl (fits_int Try.underlying3 (by kernel_rfl)) (fitsFs_one rfl (fits_int Try.underlying3 (by kernel_rfl))))))))))),fun x h=>?_⟩
  obtain ⟨_,_,_,_,_,_,h2,_⟩:=h
  exact⟨by have:=h2.2.1;(try simp only at this);omega,fun y hy=>by have:=(h2.1 y hy).2.1;omega⟩
theorem fits47 : ∃ ok : EV→Prop,Go.Proofs.YtojjnifbnppliaaW.Fit.Fits Try.prog 47 kEV ok∧∀ x,ok x→SzEV x:=by
  refine⟨_,fits_struct (f:=fun x : EV=>x) (fun y=>y) (fun _=>rfl) Try.underlying47 (by kernel_rfl) (fitsFs_cons rfl (fits_int Try.underlying3 (by kernel_rfl)) (fitsFs_cons rfl fits45.choose_spec.1 (fitsFs_one rfl (fits_slice (B:=1) Try.underlying22 (by kernel_rfl) (fits_int Try.underlying5 (by kernel_rfl)) (by kernel_rfl))))),fun x h=>?_⟩
  obtain ⟨_,h1,h2⟩:=h
  exact⟨fits45.choose_spec.2 _ h1,by have:=h2.2.1;(try simp only at this);omega⟩
theorem fits44 : ∃ ok : SR→Prop,Go.Proofs.YtojjnifbnppliaaW.Fit.Fits Try.prog 44 kSR ok∧∀ x,ok x→SzSR x:=by
  refine⟨_,fits_struct (f:=fun x : SR=>x) (fun y=>y) (fun _=>rfl) Try.underlying44 (by kernel_rfl) (fitsFs_cons rfl (fits_int Try.underlying3 (by kernel_rfl)) (fitsFs_cons rfl (fits_int Try.underlying3 (by kernel_rfl)) (fitsFs_cons rfl (fits_int Try.underlying3 (by kernel_rfl)) (fitsFs_cons rfl (fits_int Try.underlying3 (by kernel_rfl)) (fitsFs_cons rfl (fits_int Try.underlying3 (by kernel_rfl)) (fitsFs_cons rfl (fits_slice (B:=24) Try.underlying25 (by kernel_rfl) (fits_slice (B:=1) Try.underlying22 (by kernel_rfl) (fits_int Try.underlying5 (by kernel_rfl)) (by kernel_rfl)) (by kernel_rfl)) (fitsFs_cons rfl (fits_int Try.underlying3 (by kernel_rfl)) (fitsFs_cons rfl (fits_slice (B:=8) Try.underlying23 (by kernel_rfl) (fits_int Try.underlying3 (by kernel_rfl)) (by kernel_rfl)) (fitsFs_cons rfl (fits_slice (B:=1) Try.underlying26 (by kernel_rfl) (fits_bool Try.underlying4 (by kernel_rfl)) (by kernel_rfl)) (fitsFs_cons rfl (fits_bool Try.underlying4 (by kernel_rfl)) (fitsFs_cons rfl (fits_slice (B:=48) Try.underlying42 (by kernel_rfl) fits68.choose_spec.1 (by kernel_rfl)) (fitsFs_cons rfl (fits_int Try.underlying3 (by kernel_rfl)) (fitsFs_cons rfl (fits_int Try.underlying3 (by kernel_rfl)) (fitsFs_one rfl (fits_slice (B:=8) Try.underlying23 (by kernel_rfl) (fits_int Try.underlying3 (by kernel_rfl)) (by kernel_rfl)))))))))))))))),fun x h=>?_⟩
  obtain ⟨_,_,_,_,_,h5,_,h7,h8,_,h10,_,_,h13⟩:=h
  exact⟨⟨by have:=h5.2.1;(try simp only at this);omega,fun y hy=>by have:=(h5.1 y hy).2.1;omega⟩,by have:=h7.2.1;(try simp only at this);omega,by have:=h8.2.1;(try simp only at this);omega,⟨by have:=h10.2.1;(try simp only at this);omega,fun y hy=>fits68.choose_spec.2 _ (h10.1 y hy)⟩,by have:=h13.2.1;(try simp only at this);omega⟩
theorem VrAnswersL.calls (A5 : Option Addr) (c5 : Nat) (A7 : Option Addr) (c7 : Nat) (A8 : Option Addr) (c8 : Nat) (A10 : Option Addr) (c10 : Nat) (A13 : Option Addr) (c13 : Nat) (x : SR) (AX : Option Addr) (cX : Nat) (A : Option Addr) (c : Nat) (y : EV) (r : Bool) (w : World) (h5 : Kd.C (Kd.slice 5 (Kd.int .u8)) w A5 (x.2.2.2.2.2.1).length (x.2.2.2.2.2.1)) (g5 : (x.2.2.2.2.2.1).length ≤ c5) (h7 : Kd.C (Kd.int .i64) w A7 (x.2.2.2.2.2.2.2.1).length (x.2.2.2.2.2.2.2.1)) (g7 : (x.2.2.2.2.2.2.2.1).length ≤ c7) (h8 : Kd.C (Kd.bool) w A8 (x.2.2.2.2.2.2.2.2.1).length (x.2.2.2.2.2.2.2.2.1)) (g8 : (x.2.2.2.2.2.2.2.2.1).length ≤ c8) (h10 : Kd.C (k68) w A10 (x.2.2.2.2.2.2.2.2.2.2.1).length (x.2.2.2.2.2.2.2.2.2.2.1)) (g10 : (x.2.2.2.2.2.2.2.2.2.2.1).length ≤ c10) (h13 : Kd.C (Kd.int .i64) w A13 (x.2.2.2.2.2.2.2.2.2.2.2.2.2).length (x.2.2.2.2.2.2.2.2.2.2.2.2.2)) (g13 : (x.2.2.2.2.2.2.2.2.2.2.2.2.2).length ≤ c13) (hX : Kd.C (Kd.slice 5 (Kd.int .u8)) w AX y.2.1.log.length y.2.1.log) (gX : y.2.1.log.length ≤ cX) (hA : Kd.C (Kd.int .u8) w A y.2.2.length y.2.2) (gA : y.2.2.length ≤ c) (h : SzSR x∧SzEV y∧r = true) :
    Calls Try.prog 4 #[.agg #[.int .i64 x.1,.int .i64 x.2.1,.int .i64 x.2.2.1,.int .i64 x.2.2.2.1,.int .i64 x.2.2.2.2.1,.slice A5 x.2.2.2.2.2.1.length c5,.int .i64 x.2.2.2.2.2.2.1,.slice A7 x.2.2.2.2.2.2.2.1.length c7,.slice A8 x.2.2.2.2.2.2.2.2.1.length c8,.bool x.2.2.2.2.2.2.2.2.2.1,.slice A10 x.2.2.2.2.2.2.2.2.2.2.1.length c10,.int .i64 x.2.2.2.2.2.2.2.2.2.2.2.1,.int .i64 x.2.2.2.2.2.2.2.2.2.2.2.2.1,.slice A13 x.2.2.2.2.2.2.2.2.2.2.2.2.2.length c13],.agg #[.int .i64 y.1,.int .i64 y.2.1.kind,.int .i64 y.2.1.fro,.int .i64 y.2.1.dst,.int .i64 y.2.1.view,.int .i64 y.2.1.last,.int .i64 y.2.1.prev,.slice AX y.2.1.log.length cX,.int .i64 y.2.1.commit,.int .i64 y.2.1.mat,.slice A y.2.2.length c]] w fun e w'=>e = .returned (.bool r)∧Below w.heap.size w w':=by
  obtain ⟨hs,he,rfl⟩:=h
  obtain ⟨k,hk⟩ : ∃ k : Nat,600000000000000 ≤ k:=⟨_,Nat.le_refl _⟩
  have hof:=of_f (x.1) (x.2.1) (x.2.2.1) (x.2.2.2.1) (x.2.2.2.2.1) (x.2.2.2.2.2.1) (x.2.2.2.2.2.2.1) (x.2.2.2.2.2.2.2.1) (x.2.2.2.2.2.2.2.2.1) (x.2.2.2.2.2.2.2.2.2.1) (x.2.2.2.2.2.2.2.2.2.2.1) (x.2.2.2.2.2.2.2.2.2.2.2.1) (x.2.2.2.2.2.2.2.2.2.2.2.2.1) (x.2.2.2.2.2.2.2.2.2.2.2.2.2) 5864062014635 hs.2.2.2.1.1 (fun y hy=>⟨(hs.2.2.2.1.2 y hy).1,by have:=(hs.2.2.2.1.2 y hy).1;omega,(hs.2.2.2.1.2 y hy).2⟩) hs.1.1 hs.1.2 hs.2.1 hs.2.2.1 hs.2.2.2.2 k (by have:=hs.2.2.2.1.1;omega) (by have:=hs.1.1;omega)
  have hev:=ev_f y.1 y.2.1.kind y.2.1.fro y.2.1.dst y.2.1.view y.2.1.last y.2.1.prev y.2.1.log y.2.1.commit y.2.1.mat y.2.2 he.1.1 he.1.2 he.2 k (by have:=he.1.1;omega)
  exact VrAnswers.calls (stOf x) (x.2.2.2.2.2.2.2.2.2.2.1) rfl A5 c5 A7 c7 A8 c8 A10 c10 A13 c13 y.1 y.2.1 AX cX A c y.2.2 k w h5 g5 h7 g7 h8 g8 h10 g10 h13 g13 hX gX hA gA hof hev
end Go.Proofs.Ytojjnifbnppliaa.T
namespace Go.Proofs.Ytojjnifbnppliaa.Pure
open Go.Proofs.Ytojjnifbnppliaa.T
theorem VrAnswers (x : SR) (y : EV) (h : fits44.choose x) (g : fits47.choose y) : SzSR x∧SzEV y∧true = true:=⟨fits44.choose_spec.2 x h,fits47.choose_spec.2 y g,rfl⟩
end Go.Proofs.Ytojjnifbnppliaa.Pure
end
section
namespace Go.Proofs.Ytojjnifbnppliaa.vrAnswers
open Go.ChangeShapes Go.WideShapes Go.ChangeAt Go.RowKit Go.Proofs.YtojjnifbnppliaaW.Fit Go.Proofs.YtojjnifbnppliaaW.PrintWords Go.Proofs.Ytojjnifbnppliaa.T
open Go.ChangeMaps (open_string shut_string)
set_option linter.unusedVariables false
set_option linter.unusedSimpArgs false
theorem own : ownKnob Try.prog.godebug = none:=by kernel_rfl
theorem laidOut : laidOutB Try.prog = true:=by kernel_rfl
set_option maxRecDepth 100000 in
theorem lifted (os : Os) (started : os.Started) (H : Type) (enc : TypeId × Value→H) :
    ReturnsInHanded {} Try.checked os 4 .any (Rows.vrAnswersSpec.pre6 enc Try.prog Try.f4 Rows.vrAnswersRow.domain false) (Rows.vrAnswersSpec.post enc Try.prog Try.f4 false true false false):=by
  refine returnsInHanded_of_change_sized (C:=Try.checked) own started (by kernel_rfl) Try.func4
    (ChangeSpec.witness6 (enc:=enc) (C:=Try.checked) false ⟨#[],#[.agg #[.int .i64 0,.int .i64 0,.int .i64 0,.int .i64 0,.int .i64 0,.slice none 0 0,.int .i64 0,.slice none 0 0,.slice none 0 0,.bool false,.slice none 0 0,.int .i64 0,.int .i64 0,.slice none 0 0],.agg #[.int .i64 0,.int .i64 0,.int .i64 0,.int .i64 0,.int .i64 0,.int .i64 0,.int .i64 0,.slice none 0 0,.int .i64 0,.int .i64 0,.slice none 0 0]],[]⟩ 8 (by kernel_rfl) (by kernel_rfl) (by kernel_rfl) (by kernel_rfl)) ?_
  intro W base args ds gs before hval0 hW hcnd hsz0 _
  have hsz : (DataW.weightsEach Try.prog (Try.f4.params.toList ++ Rows.vrAnswersSpec.plain.varTypes Try.prog) (ds ++ gs)).all (· ≤ reachBytes) = true:=hsz0
  have hval : ∀ (j : Nat) t v,Try.f4.params[j]? = some t→args[j]? = some v→Value.okWide Try.prog W .any base t v:=hval0
  have hW':=hW
  obtain ⟨p,q,hA0,hV,rfl,hfz,hnd⟩:=hW
  have hA : DataW.TrodAll enc Try.prog W 0 (fun _=>true) true Try.f4.params.toList args.toList ds p:=hA0
  rw [Try.params4] at hA hval hsz
  obtain ⟨v0,vs0,d0,ds0,p0,q0,hargs,rfl,rfl,h0,r0⟩:=trodAll_cons hA
  obtain ⟨v1,vs1,d1,ds1,p1,q1,rfl,rfl,rfl,h1,r1⟩:=trodAll_cons r0
  obtain ⟨rfl,rfl,rfl⟩:=trodAll_nil r1
  obtain rfl : args = #[v0,v1]:=by cases args;simp_all
  obtain ⟨rfl,rfl⟩:=trodVars_none hV
  have k0:=h0
  have lt0 : ∀ x ∈ p0,x.block < W.heap.size:=by obtain ⟨m,hm⟩:=k0;exact DataW.trod_lt m _ _ _ hm
  obtain ⟨cs0,rfl,_⟩:=okWide_struct Try.underlying44 (hval 0 44 v0 rfl rfl)
  obtain ⟨x0,hK0,w0⟩:=open_arg_struct fits44.choose_spec.1 h0 (fun n hn=>of_decide_eq_true (List.all_eq_true.1 hsz n (weight_at (j:=0) rfl rfl n hn)))
  obtain ⟨A5,c5,A7,c7,A8,c8,A10,c10,A13,c13,he0,l5,g5,l7,g7,l8,g8,l10,g10,l13,g13⟩:=kSR_open hK0
  obtain rfl : cs0 = #[.int .i64 x0.1,.int .i64 x0.2.1,.int .i64 x0.2.2.1,.int .i64 x0.2.2.2.1,.int .i64 x0.2.2.2.2.1,.slice A5 x0.2.2.2.2.2.1.length c5,.int .i64 x0.2.2.2.2.2.2.1,.slice A7 x0.2.2.2.2.2.2.2.1.length c7,.slice A8 x0.2.2.2.2.2.2.2.2.1.length c8,.bool x0.2.2.2.2.2.2.2.2.2.1,.slice A10 x0.2.2.2.2.2.2.2.2.2.2.1.length c10,.int .i64 x0.2.2.2.2.2.2.2.2.2.2.2.1,.int .i64 x0.2.2.2.2.2.2.2.2.2.2.2.2.1,.slice A13 x0.2.2.2.2.2.2.2.2.2.2.2.2.2.length c13]:=by apply Array.toList_inj.1;exact he0
  have k1:=h1
  have lt1 : ∀ x ∈ p1,x.block < W.heap.size:=by obtain ⟨m,hm⟩:=k1;exact DataW.trod_lt m _ _ _ hm
  obtain ⟨cs1,rfl,_⟩:=okWide_struct Try.underlying47 (hval 1 47 v1 rfl rfl)
  obtain ⟨x1,hK1,w1⟩:=open_arg_struct fits47.choose_spec.1 h1 (fun n hn=>of_decide_eq_true (List.all_eq_true.1 hsz n (weight_at (j:=1) rfl rfl n hn)))
  obtain ⟨AX,cX,B0,d0,he1,lX,gX,lA,gA⟩:=kEV_open hK1
  obtain rfl : cs1 = #[.int .i64 x1.1,.int .i64 x1.2.1.kind,.int .i64 x1.2.1.fro,.int .i64 x1.2.1.dst,.int .i64 x1.2.1.view,.int .i64 x1.2.1.last,.int .i64 x1.2.1.prev,.slice AX x1.2.1.log.length cX,.int .i64 x1.2.1.commit,.int .i64 x1.2.1.mat,.slice B0 x1.2.2.length d0]:=by apply Array.toList_inj.1;exact he1
  have h:=Pure.VrAnswers x0 x1 w0 w1
  clear hA0 hval0 hsz0 hsz
  refine(VrAnswersL.calls A5 c5 A7 c7 A8 c8 A10 c10 A13 c13 x0 AX cX B0 d0 x1 true W g5 l5 g7 l7 g8 l8 g10 l10 g13 l13 gX lX gA lA h).mono fun e W' ⟨he,bel0⟩=>?_
  have bel : Below W.heap.size W W':=bel0
  subst he
  exact⟨_,rfl,_,_,_,[],_,[],hW',trodAll_mk1 (shut_bool Try.underlying4 _),(trodAll_cons_mk (Below.trod laidOut (by kernel_rfl) (of_decide_eq_true (by kernel_rfl)) k0 bel lt0) (trodAll_cons_mk (Below.trod laidOut (by kernel_rfl) (of_decide_eq_true (by kernel_rfl)) k1 bel lt1) trodAll_mk0)),rfl,bel.frame _,fun h=>by cases h⟩
theorem over : Rows.vrAnswersRow.holds Try.pinned (OpenSpec.ofChange Rows.vrAnswersSpec) :=
  OpenClaim.holds_of_wide 4 Try.f4 rfl rfl rfl rfl rfl rfl rfl ⟨rfl,rfl,rfl,rfl,rfl⟩ rfl rfl rfl rfl rfl (by kernel_rfl) Try.func4 (by kernel_rfl)
    (of_decide_eq_true (by kernel_rfl)) (by unfold Func.isWrapper;first|(rw [if_pos (by decide +kernel)];kernel_rfl)|(rw [if_neg (by decide +kernel)];exact⟨rfl,rfl⟩))
    (fun os started H enc _=>lifted os started H enc)
end Go.Proofs.Ytojjnifbnppliaa.vrAnswers
namespace Go.Proofs.Ytojjnifbnppliaa
/-- The row, under a short name, for the claim. -/
theorem vrAnswers_holds : Rows.VrAnswersSaid:=vrAnswers.over
#print axioms vrAnswers_holds
end Go.Proofs.Ytojjnifbnppliaa
end
