/- From the datum that an argument reads as to its plain value: kind by kind, over any program. -/
import Derived.Test.YtojjnifbnppliaaWWords
import Derived.Deep.Slices
import Derived.SizedLaws
import Derived.WideShapes
namespace Go.Proofs.YtojjnifbnppliaaW.Fit
open Go.RowKit Go.Proofs.YtojjnifbnppliaaW.PrintWords Go.Deep
set_option linter.unusedVariables false
set_option linter.unusedSimpArgs false

/-- Cells of type t that read as a datum (of weights that fit) are a value of kind d, and 'ok' of it. -/
structure Fits (P : Program) (t : TypeId) {α : Type} (d : Kd α) (ok : α → Prop) : Prop where
  len : P.cellsOf t = d.sz
  op : ∀ {H : Type} {enc : TypeId × Value → H} {W : World} {fuel : Nat} {cs : List Value} {dd : DataW H} {ps : List MemPlace},
    DataW.trod enc P W 0 (fun _ => true) true fuel t cs = some (dd, ps) → (∀ n ∈ DataW.weights P t dd, n ≤ reachBytes) → ∃ x, d.K W x cs ∧ ok x

theorem fits_int {P : Program} {t : TypeId} {k : IntKind} (ht : P.underlying t = some (.int k)) (hl : P.cellsOf t = 1) : Fits P t (Kd.int k) (fun x => (Lit.int k x).wf = true) where
  len := hl
  op := fun h _ => by
    obtain ⟨n, rfl, _, hw⟩ := DataW.trod_int ht h
    exact ⟨n, rfl, hw⟩

theorem fits_bool {P : Program} {t : TypeId} (ht : P.underlying t = some .bool) (hl : P.cellsOf t = 1) : Fits P t Kd.bool (fun _ => True) where
  len := hl
  op := fun h _ => by
    obtain ⟨n, rfl, _⟩ := DataW.trod_bool ht h
    exact ⟨n, rfl, trivial⟩

theorem mem_weightsAll {H : Type} {P : Program} {e : TypeId} {D : DataW H} : ∀ {l : List (DataW H)}, D ∈ l → ∀ n ∈ DataW.weights P e D, n ∈ DataW.weightsAll P e l
  | d :: r, h, n, hn => by
    rw [DataW.weightsAll]
    rcases List.mem_cons.1 h with rfl | h
    · exact List.mem_append_left _ hn
    · exact List.mem_append_right _ (mem_weightsAll h n hn)

theorem choose_list {α : Type} {n : Nat} {p : Nat → α → Prop} (h : ∀ i, i < n → ∃ x, p i x) : ∃ l : List α, l.length = n ∧ ∀ (i : Nat) (x : α), l[i]? = some x → p i x := by
  induction n with
  | zero => exact ⟨[], rfl, fun i x hx => by simp at hx⟩
  | succ n ih =>
    obtain ⟨l, hl, hp⟩ := ih (fun i hi => h i (by omega))
    obtain ⟨y, hy⟩ := h n (by omega)
    refine ⟨l ++ [y], by simp [hl], fun i x hx => ?_⟩
    rcases Nat.lt_or_ge i l.length with hi | hi
    · rw [List.getElem?_append_left hi] at hx
      exact hp i x hx
    · have : i = l.length := by
        have := (List.getElem?_eq_some_iff.1 hx).1
        rw [List.length_append, List.length_singleton] at this
        omega
      subst this
      have hx' : y = x := by simpa using hx
      rw [← hx', hl]
      exact hy

theorem fits_slice {P : Program} {t e : TypeId} {α : Type} {d : Kd α} {ok : α → Prop} (ht : P.underlying t = some (.slice e)) (hl : P.cellsOf t = 1) (h : Fits P e d ok) {B : Nat} (hB : P.bytesOf e = B) :
    Fits P t (Kd.slice e d) (fun xs => (∀ x ∈ xs, ok x) ∧ xs.length * B ≤ 140737488351232 ∧ xs.length ≤ maxLen) where
  len := hl
  op := fun {H enc W fuel cs dd ps} hd hw => by
    rcases open_slice ht hd with ⟨rfl, hx⟩ | ⟨a, len, cap, m, n, D, Pl, rfl, _, hlc, hcm, hm, hx, hel⟩
    · exact ⟨[], ⟨none, 0, rfl, Nat.le_refl _, rfl, by simp, fun h => absurd h (by simp)⟩, by simp, by simp, by simp⟩
    · simp only [if_true] at hm
      subst hm
      obtain ⟨rfl, _⟩ := Prod.mk.inj hx
      rw [DataW.weights, ht] at hw
      simp only [List.mem_cons, List.mem_append, List.length_map, List.length_range] at hw
      have hall : ∀ i, i < len → ∃ x, (∃ c, c.length = d.sz ∧ d.K W x c ∧ ∀ j u, c[j]? = some u → W.cell? (a.add (i * d.sz + j)) = some u) ∧ ok x := by
        intro i hi
        obtain ⟨cs', hc, hdd⟩ := hel i (by omega)
        obtain ⟨x, hK, hok⟩ := h.op hdd (fun n hn => hw n (.inr (.inl (mem_weightsAll (List.mem_map.2 ⟨i, List.mem_range.2 hi, rfl⟩) n hn))))
        obtain ⟨_, hlen, hcell⟩ := World.cells?_some hc
        rw [h.len] at hlen hcell hc
        refine ⟨x, ⟨cs', hlen, hK, fun j u hj => ?_⟩, hok⟩
        have hj' : j < d.sz := by have := (List.getElem?_eq_some_iff.1 hj).1; omega
        have := hcell j hj'
        rw [hj] at this
        rw [← this]
        simp only [Addr.add]
        repeat' split
        all_goals simp_all [Nat.add_assoc]
      obtain ⟨xs, hxl, hxs⟩ := choose_list hall
      subst hxl
      have hb := hw ((xs.length + (m - xs.length)) * P.bytesOf e) (.inl rfl)
      refine ⟨xs, ⟨some a, m, rfl, hlc, rfl, by simp only [maxLen] at hcm; omega, fun _ => ⟨a, rfl, fun j p hj => (hxs j p hj).1⟩⟩, fun x hx => ?_, ?_, by omega⟩
      · obtain ⟨i, hi, rfl⟩ := List.getElem_of_mem hx
        exact (hxs i _ (List.getElem?_eq_getElem hi)).2
      · rw [hB] at hb
        have : xs.length * B ≤ (xs.length + (m - xs.length)) * B := Nat.mul_le_mul_right _ (by omega)
        simp only [reachBytes] at hb
        omega

/-- Fields, from the off-th cell on. -/
structure FitsFs (P : Program) (fs : List Field) (off : Nat) {α : Type} (d : Kd α) (ok : α → Prop) : Prop where
  op : ∀ {H : Type} {enc : TypeId × Value → H} {W : World} {fuel : Nat} {cs : List Value} {xs : List (DataW H × List MemPlace)},
    (fs.mapM fun f => DataW.trod enc P W 0 (fun _ => true) true fuel f.type ((cs.drop f.offset).take (P.cellsOf f.type))) = some xs → cs.length = off + d.sz →
    (∀ n ∈ DataW.weightsEach P (fs.map (·.type)) (xs.map (·.1)), n ≤ reachBytes) → ∃ x, d.K W x (cs.drop off) ∧ ok x

theorem fitsFs_one {P : Program} {f : Field} {off : Nat} {α : Type} {d : Kd α} {ok : α → Prop} (ho : f.offset = off) (h : Fits P f.type d ok) : FitsFs P [f] off d ok := by
  constructor
  intro H enc W fuel cs xs hx hl hw
  simp only [List.mapM_cons, List.mapM_nil, Option.pure_def, Option.bind_eq_bind, Option.bind_eq_some_iff] at hx
  obtain ⟨y, hy, z, hz, hxs⟩ := hx
  cases hz
  cases hxs
  rw [ho, h.len, List.take_of_length_le (by rw [List.length_drop]; omega)] at hy
  refine h.op hy (fun n hn => hw n ?_)
  simp only [List.map_cons, DataW.weightsEach]
  exact List.mem_append_left _ hn

theorem fitsFs_cons {P : Program} {f : Field} {fs : List Field} {off : Nat} {α β : Type} {d : Kd α} {d2 : Kd β} {ok : α → Prop} {ok2 : β → Prop} (ho : f.offset = off) (h : Fits P f.type d ok) (h2 : FitsFs P fs (off + d.sz) d2 ok2) :
    FitsFs P (f :: fs) off (Kd.pair d d2) (fun x => ok x.1 ∧ ok2 x.2) := by
  constructor
  intro H enc W fuel cs xs hx hl hw
  rw [List.mapM_cons] at hx
  simp only [Option.pure_def, Option.bind_eq_bind, Option.bind_eq_some_iff] at hx
  obtain ⟨y, hy, z, hz, hxs⟩ := hx
  cases hxs
  have hl' : cs.length = off + (d.sz + d2.sz) := hl
  simp only [List.map_cons, DataW.weightsEach] at hw
  rw [ho, h.len] at hy
  obtain ⟨x1, hk1, hok1⟩ := h.op hy (fun n hn => hw n (List.mem_append_left _ hn))
  obtain ⟨x2, hk2, hok2⟩ := h2.op hz (by omega) (fun n hn => hw n (List.mem_append_right _ hn))
  refine ⟨(x1, x2), ⟨_, _, ?_, hk1, hk2⟩, hok1, hok2⟩
  rw [← List.drop_drop, List.take_append_drop]

theorem fits_struct {P : Program} {t : TypeId} {fs : Array Field} {α β : Type} {d : Kd α} {ok : α → Prop} {f : β → α} (g : α → β) (hg : ∀ x, f (g x) = x) (ht : P.underlying t = some (.struct fs)) (hl : P.cellsOf t = d.sz) (h : FitsFs P fs.toList 0 d ok) :
    Fits P t (Kd.iso d f) (fun x => ok (f x)) where
  len := hl
  op := fun {H enc W fuel cs dd ps} hd hw => by
    cases fuel with
    | zero => simp [DataW.trod] at hd
    | succ fuel =>
      have hd2 : (if cs.length = P.cellsOf t then (fs.toList.mapM fun f => DataW.trod enc P W 0 (fun _ => true) true fuel f.type ((cs.drop f.offset).take (P.cellsOf f.type))).map fun xs => (DataW.agg (xs.map (·.1)), xs.flatMap (·.2)) else none) = some (dd, ps) := by
        unfold DataW.trod at hd
        rw [ht] at hd
        split at hd <;> simp_all
      split at hd2
      · rename_i hlen
        obtain ⟨xs, hxs, hxx⟩ := Option.map_eq_some_iff.1 hd2
        cases hxx
        rw [DataW.weights, ht] at hw
        obtain ⟨x, hK, hok⟩ := h.op hxs (by rw [hlen, hl]; omega) hw
        refine ⟨g x, ?_, by rw [hg]; exact hok⟩
        show d.K W (f (g x)) cs
        rw [hg]
        simpa using hK
      · cases hd2

/-- A parameter that is a slice. -/
theorem open_arg_slice {H : Type} {enc : TypeId × Value → H} {P : Program} {W : World} {t e : TypeId} {a : Option Addr} {len cap : Nat} {dd : DataW H} {ps : List MemPlace} {α : Type} {d : Kd α} {ok : List α → Prop}
    (hf : Fits P t (Kd.slice e d) ok) (h : DataW.Trod enc P W 0 (fun _ => true) true t (.slice a len cap) dd ps) (hw : ∀ n ∈ DataW.weights P t dd, n ≤ reachBytes) :
    ∃ xs : List α, len = xs.length ∧ xs.length ≤ cap ∧ d.C W a xs.length xs ∧ ok xs := by
  obtain ⟨fuel, hd⟩ := h
  obtain ⟨xs, ⟨A, c, hcs, hl, hC⟩, hok⟩ := hf.op hd hw
  simp [Value.cells] at hcs
  obtain ⟨rfl, rfl, rfl⟩ := hcs
  exact ⟨xs, rfl, hl, hC, hok⟩

/-- A parameter that is a struct. -/
theorem open_arg_struct {H : Type} {enc : TypeId × Value → H} {P : Program} {W : World} {t : TypeId} {cs : Array Value} {dd : DataW H} {ps : List MemPlace} {α : Type} {d : Kd α} {ok : α → Prop}
    (hf : Fits P t d ok) (h : DataW.Trod enc P W 0 (fun _ => true) true t (.agg cs) dd ps) (hw : ∀ n ∈ DataW.weights P t dd, n ≤ reachBytes) :
    ∃ x : α, d.K W x cs.toList ∧ ok x := by
  obtain ⟨fuel, hd⟩ := h
  obtain ⟨x, hK, hok⟩ := hf.op hd hw
  exact ⟨x, by simpa [Value.cells] using hK, hok⟩

theorem weight_at {H : Type} {P : Program} {t : TypeId} {d : DataW H} : ∀ {ts : List TypeId} {ds : List (DataW H)} {j : Nat}, ts[j]? = some t → ds[j]? = some d → ∀ n ∈ DataW.weights P t d, n ∈ DataW.weightsEach P ts ds
  | [], _, j, ht, _, _, _ => by simp at ht
  | _ :: _, [], j, _, hd, _, _ => by simp at hd
  | t' :: ts, d' :: ds, 0, ht, hd, n, hn => by
    simp at ht hd
    subst ht hd
    rw [DataW.weightsEach]
    exact List.mem_append_left _ hn
  | t' :: ts, d' :: ds, j + 1, ht, hd, n, hn => by
    rw [DataW.weightsEach]
    exact List.mem_append_right _ (weight_at (by simpa using ht) (by simpa using hd) n hn)
end Go.Proofs.YtojjnifbnppliaaW.Fit
