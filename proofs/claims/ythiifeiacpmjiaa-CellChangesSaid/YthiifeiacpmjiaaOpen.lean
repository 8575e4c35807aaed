/- Slices that came in: of numbers, of bytes. Conditions: none beyond each theorem's own premises. -/
import Derived.Test.YthiifeiacpmjiaaArg
import Derived.Test.YthiifeiacpmjiaaNewest
namespace Go.Proofs.Ythiifeiacpmjiaa
open Go.ChangeShapes Go.WideShapes Go.ChangeAt Go.RowKit Go.Deep

theorem Try.cells3 : Try.prog.cellsOf 3 = 1 := by kernel_rfl
theorem Try.cells5 : Try.prog.cellsOf 5 = 1 := by kernel_rfl

theorem ints_of {H : Type} {enc : TypeId × Value → H} {W : World} {r : Reach} {b0 : Nat} {v : Value} {d : DataW H} {p : List MemPlace} (hv : Value.okWide Try.prog W r b0 22 v) (h : DataW.Trod enc Try.prog W 0 (fun _ => true) true 22 v d p) :
    ∃ (A : Option Addr) (m c : Nat) (zs : List Int), v = .slice A m c ∧ Ints W W.heap.size A m c zs := by
  obtain ⟨A, m, c, rfl, hmc, hcm, hrow⟩ := open_rows Try.underlying22 Try.cells3 (by omega) hv h
  obtain ⟨zs, hl, hx⟩ := list_of (α := Int) (m := m) (p := fun i x => ∃ b off, A = some ⟨b, off, none⟩ ∧ b < W.heap.size ∧ W.cell? ⟨b, off + i, none⟩ = some (.int .i64 x)) (by
    intro i hi
    obtain ⟨b, off, cs, rfl, hb, hcl, hcell, n, y, htr⟩ := hrow i hi
    obtain ⟨a, ha, _, _⟩ := DataW.trod_int Try.underlying3 htr
    have h0 := hcell 0 (by omega)
    rw [ha] at h0
    exact ⟨a, b, off, rfl, hb, by simpa using h0⟩)
  exact ⟨A, m, c, zs, rfl, hl, hmc, hcm, hx⟩

/-- A slice value '.slice A n c' that reads as the bytes zs, in blocks below B. -/
structure Octs (w : World) (B : Nat) (A : Option Addr) (m c : Nat) (zs : List Int) : Prop where
  len : zs.length = m
  cap : m ≤ c
  max : c ≤ 9223372036854775807
  fit : ∀ x ∈ zs, 0 ≤ x ∧ x ≤ 255
  at_ : ∀ k, (h : k < zs.length) → ∃ b off, A = some ⟨b, off, none⟩ ∧ b < B ∧ w.cell? ⟨b, off + k, none⟩ = some (.int .u8 zs[k])

theorem octs_of {H : Type} {enc : TypeId × Value → H} {W : World} {r : Reach} {b0 : Nat} {v : Value} {d : DataW H} {p : List MemPlace} (hv : Value.okWide Try.prog W r b0 33 v) (h : DataW.Trod enc Try.prog W 0 (fun _ => true) true 33 v d p) :
    ∃ (A : Option Addr) (m c : Nat) (zs : List Int), v = .slice A m c ∧ Octs W W.heap.size A m c zs := by
  obtain ⟨A, m, c, rfl, hmc, hcm, hrow⟩ := open_rows Try.underlying33 Try.cells5 (by omega) hv h
  obtain ⟨zs, hl, hx⟩ := list_of (α := Int) (m := m) (p := fun i x => (0 ≤ x ∧ x ≤ 255) ∧ ∃ b off, A = some ⟨b, off, none⟩ ∧ b < W.heap.size ∧ W.cell? ⟨b, off + i, none⟩ = some (.int .u8 x)) (by
    intro i hi
    obtain ⟨b, off, cs, rfl, hb, hcl, hcell, n, y, htr⟩ := hrow i hi
    obtain ⟨a, ha, _, wa⟩ := DataW.trod_int Try.underlying5 htr
    have h0 := hcell 0 (by omega)
    rw [ha] at h0
    exact ⟨a, ⟨(bounds_u8 wa).1, (bounds_u8 wa).2⟩, b, off, rfl, hb, by simpa using h0⟩)
  refine ⟨A, m, c, zs, rfl, hl, hmc, hcm, fun x hxm => ?_, fun k hk => (hx k hk).2⟩
  obtain ⟨i, hi, rfl⟩ := List.getElem_of_mem hxm
  exact (hx i hi).1
end Go.Proofs.Ythiifeiacpmjiaa
