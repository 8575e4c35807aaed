/- How a law's arguments open, and how they shut again behind a call that wrote nothing that was there. Conditions: none beyond each theorem's own premises. -/
import Derived.Test.YtpgdogcgdlijeaaRows
import Derived.WalkKit
import Derived.ProofKit
import Derived.OpenShut
import Derived.Below
import Derived.Carry
import Derived.Deep.Slices
import Derived.Deep.Fields
namespace Go.Proofs.Ytpgdogcgdlijeaa
open Go.ChangeShapes Go.WideShapes Go.ChangeAt Go.RowKit Go.Deep

theorem Try.own : ownKnob Try.prog.godebug = none := by kernel_rfl
theorem Try.laidOut : laidOutB Try.prog = true := by kernel_rfl

section
variable {H : Type} {enc : TypeId × Value → H} {P : Program} {W W' : World}

/-- Arguments read behind the call as they read before it, where nothing that was there has turned. -/
theorem args_below (hl : laidOutB P = true) (hb : Below W.heap.size W W') : ∀ (ts : List TypeId) (vs : List Value) (ds : List (DataW H)) (ps : List MemPlace), (∀ t ∈ ts, P.readableRec t = true ∧ t < P.types.size) →
    DataW.TrodAll enc P W 0 (fun _ => true) true ts vs ds ps → (∀ x ∈ ps, x.block < W.heap.size) → DataW.TrodAll enc P W' 0 (fun b => decide (b < W.heap.size)) true ts vs ds ps := by
  intro ts
  induction ts with
  | nil =>
    intro vs ds ps _ h _
    obtain ⟨rfl, rfl, rfl⟩ := trodAll_nil h
    exact trodAll_mk0
  | cons t ts ih =>
    intro vs ds ps hr h hlt
    obtain ⟨v0, vs0, d0, ds0, p0, q0, rfl, rfl, rfl, h0, r0⟩ := trodAll_cons h
    have hrt := hr t (List.mem_cons_self)
    exact trodAll_cons_mk (Below.trod hl hrt.1 hrt.2 h0 hb (fun x hx => hlt x (List.mem_append_left _ hx)))
      (ih vs0 ds0 q0 (fun t' ht' => hr t' (List.mem_cons_of_mem _ ht')) r0 (fun x hx => hlt x (List.mem_append_right _ hx)))

/-- From 'for each i below m there is an x' to a list of them. -/
theorem list_of {α : Type} {m : Nat} {p : Nat → α → Prop} (h : ∀ i, i < m → ∃ x, p i x) : ∃ xs : List α, xs.length = m ∧ ∀ i (hi : i < xs.length), p i xs[i] := by
  induction m with
  | zero => exact ⟨[], rfl, fun i hi => absurd hi (Nat.not_lt_zero _)⟩
  | succ m ih =>
    obtain ⟨xs, hl, hx⟩ := ih (fun i hi => h i (Nat.lt_succ_of_lt hi))
    obtain ⟨x, hxm⟩ := h m (Nat.lt_succ_self m)
    refine ⟨xs ++ [x], by simp [hl], fun i hi => ?_⟩
    by_cases hi' : i < xs.length
    · rw [List.getElem_append_left hi']
      exact hx i hi'
    · have : i = m := by simp at hi; omega
      subst this
      rw [List.getElem_append_right (by omega)]
      simpa using hxm

/-- A slice that came in: nil, or a row; each element's cells, and that they read as one of its type. -/
theorem open_rows {t e C : Nat} {r : Reach} {b0 : Nat} {v : Value} {d : DataW H} {p : List MemPlace} (ht : P.underlying t = some (.slice e)) (hC : P.cellsOf e = C) (hC0 : 0 < C)
    (hv : Value.okWide P W r b0 t v) (h : DataW.Trod enc P W 0 (fun _ => true) true t v d p) :
    ∃ (A : Option Addr) (m c : Nat), v = .slice A m c ∧ m ≤ c ∧ c ≤ 9223372036854775807 ∧
      ∀ i, i < m → ∃ (b off : Nat) (cs : List Value), A = some ⟨b, off, none⟩ ∧ b < W.heap.size ∧ cs.length = C ∧ (∀ j, j < C → W.cell? ⟨b, off + i * C + j, none⟩ = cs[j]?) ∧ ∃ n y, DataW.trod enc P W 0 (fun _ => true) true n e cs = some y := by
  obtain ⟨A, m, c, rfl⟩ := okWide_slice ht hv
  obtain ⟨fuel, hf⟩ := h
  refine ⟨A, m, c, rfl, ?_⟩
  rcases open_slice ht hf with ⟨hcs, _⟩ | ⟨a, len, cap, m', n, D, Pl, hcs, _, hl, hm, hmm, _, hi⟩
  · simp only [Value.cells, List.cons.injEq, Value.slice.injEq, and_true] at hcs
    obtain ⟨rfl, rfl, rfl⟩ := hcs
    exact ⟨Nat.le_refl _, by omega, fun i hi => absurd hi (Nat.not_lt_zero _)⟩
  · simp only [Value.cells, List.cons.injEq, Value.slice.injEq, and_true] at hcs
    obtain ⟨rfl, rfl, rfl⟩ := hcs
    refine ⟨hl, by unfold maxLen at hm; exact hm, fun i him => ?_⟩
    have hmm' : m' = c := by simpa using hmm
    obtain ⟨cs', hc, htr⟩ := hi i (by omega)
    rw [hC] at hc
    obtain ⟨_, hcl, hat⟩ := World.cells?_some hc
    obtain ⟨b, off, spot⟩ := a
    have h0 := hat 0 hC0
    have hsome : ∃ u, cs'[0]? = some u := ⟨cs'[0]'(by omega), List.getElem?_eq_getElem (by omega)⟩
    obtain ⟨u, hu⟩ := hsome
    rw [hu] at h0
    -- the address's spot is none wherever the first element's cell reads
    have hcell0 : ∃ u0, W.cell? (⟨b, off, spot⟩ : Addr) = some u0 := by
      obtain ⟨cs0, hc0, _⟩ := hi 0 (by omega)
      rw [hC] at hc0
      obtain ⟨_, hcl0, hat0⟩ := World.cells?_some hc0
      have := hat0 0 hC0
      refine ⟨cs0[0]'(by omega), ?_⟩
      rw [List.getElem?_eq_getElem (by omega)] at this
      simpa [Addr.add] using this
    obtain ⟨u0, hu0⟩ := hcell0
    have hspot : spot = none := by simpa using World.cell?_spot hu0
    subst hspot
    have hb : b < W.heap.size := World.block_lt_of_cell? W ⟨b, off, none⟩ hu0
    refine ⟨b, off, cs', rfl, hb, hcl, fun j hj => ?_, n, _, htr⟩
    have := hat j hj
    rw [← this]
    congr 1
    unfold Addr.add
    by_cases hi0 : i * C = 0 <;> by_cases hj0 : j = 0 <;> simp [hi0, hj0]

/-- A struct's cells, each field of one cell: each is read by its field's type. -/
theorem open_fields {t n : Nat} {fs : Array Field} {cs : List Value} {y : DataW H × List MemPlace} (hs : P.underlying t = some (.struct fs)) (hone : oneCellFields P fs = true)
    (h : DataW.trod enc P W 0 (fun _ => true) true n t cs = some y) : ∀ (j : Nat) (f : Field), fs[j]? = some f → j < cs.length → ∃ v n' y', cs[j]? = some v ∧ DataW.trod enc P W 0 (fun _ => true) true n' f.type [v] = some y' := by
  obtain ⟨ys, n', _, _, _, hyl, hf⟩ := DataW.trod_struct hs h
  intro j f hj hjc
  obtain ⟨ho, hk⟩ := hone_of hone j f hj
  have hjl : j < fs.size := (Array.getElem?_eq_some_iff.1 hj).1
  have h1 := hf j f hj
  rw [ho, hk] at h1
  have hone' : (cs.drop j).take 1 = [cs[j]] := by
    rw [List.drop_eq_getElem_cons hjc]
    rfl
  rw [hone'] at h1
  refine ⟨cs[j], n', ys[j]'(by omega), List.getElem?_eq_getElem hjc, ?_⟩
  rw [h1]
  exact List.getElem?_eq_getElem (by omega)
end
end Go.Proofs.Ytpgdogcgdlijeaa
