/- A slice of numbers that came in reads as numbers. Conditions: none beyond each theorem's own premises. -/
import Derived.Test.YthbefhpgpebkgaaArg
import Derived.Test.YthbefhpgpebkgaaKeeps
namespace Go.Proofs.Ythbefhpgpebkgaa
open Go.ChangeShapes Go.WideShapes Go.ChangeAt Go.RowKit Go.Deep

theorem Try.cells3 : Try.prog.cellsOf 3 = 1 := by kernel_rfl

theorem slice_nil {H : Type} {enc : TypeId × Value → H} {P : Program} {W : World} {t e : TypeId} {A : Option Addr} {m c : Nat} {d : DataW H} {p : List MemPlace} (ht : P.underlying t = some (.slice e))
    (h : DataW.Trod enc P W 0 (fun _ => true) true t (.slice A m c) d p) : A = none → m = 0 ∧ c = 0 := by
  obtain ⟨fuel, hf⟩ := h
  intro hA
  rcases open_slice ht hf with ⟨hcs, _⟩ | ⟨a, len, cap, m', n, D, Pl, hcs, _⟩
  · simp only [Value.cells, List.cons.injEq, Value.slice.injEq, and_true] at hcs
    exact ⟨hcs.2.1, hcs.2.2⟩
  · simp only [Value.cells, List.cons.injEq, Value.slice.injEq, and_true] at hcs
    rw [hA] at hcs
    exact absurd hcs.1 (by simp)

theorem ints_of {H : Type} {enc : TypeId × Value → H} {W : World} {r : Reach} {b0 : Nat} {v : Value} {d : DataW H} {p : List MemPlace} (hv : Value.okWide Try.prog W r b0 36 v) (h : DataW.Trod enc Try.prog W 0 (fun _ => true) true 36 v d p) :
    ∃ (A : Option Addr) (m c : Nat) (zs : List Int), v = .slice A m c ∧ Ints W W.heap.size A m c zs := by
  obtain ⟨A, m, c, rfl, hmc, hcm, hrow⟩ := open_rows Try.underlying36 Try.cells3 (by omega) hv h
  obtain ⟨zs, hl, hx⟩ := list_of (α := Int) (m := m)
    (p := fun i x => (-9223372036854775808 ≤ x ∧ x ≤ 9223372036854775807) ∧ ∃ b off, A = some ⟨b, off, none⟩ ∧ b < W.heap.size ∧ W.cell? ⟨b, off + i, none⟩ = some (.int .i64 x)) (by
    intro i hi
    obtain ⟨b, off, cs, rfl, hb, hcl, hcell, n, y, htr⟩ := hrow i hi
    obtain ⟨a, ha, _, wa⟩ := DataW.trod_int Try.underlying3 htr
    have h0 := hcell 0 (by omega)
    rw [ha] at h0
    exact ⟨a, bounds_i64 wa, b, off, rfl, hb, by simpa using h0⟩)
  refine ⟨A, m, c, zs, rfl, hl, hmc, hcm, slice_nil Try.underlying36 h, fun x hxm => ?_, fun k hk => (hx k hk).2⟩
  obtain ⟨i, hi, rfl⟩ := List.getElem_of_mem hxm
  exact (hx i hi).1
end Go.Proofs.Ythbefhpgpebkgaa
