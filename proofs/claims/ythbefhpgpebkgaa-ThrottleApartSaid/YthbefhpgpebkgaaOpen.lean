/- The throttle's laws: a slice of steps that came in reads as steps. Conditions: none beyond each theorem's own premises. -/
import Derived.Test.YthbefhpgpebkgaaArg
import Derived.Test.YthbefhpgpebkgaaSoon
namespace Go.Proofs.Ythbefhpgpebkgaa
open Go.ChangeShapes Go.WideShapes Go.ChangeAt Go.RowKit Go.Deep

theorem Try.cells73 : Try.prog.cellsOf 73 = 2 := by kernel_rfl

theorem smalls_of {H : Type} {enc : TypeId × Value → H} {W : World} {r : Reach} {b0 : Nat} {v : Value} {d : DataW H} {p : List MemPlace} (hv : Value.okWide Try.prog W r b0 23 v) (h : DataW.Trod enc Try.prog W 0 (fun _ => true) true 23 v d p) :
    ∃ (A : Option Addr) (m c : Nat) (xs : List (Int × Int)), v = .slice A m c ∧ Smalls W W.heap.size A m c xs := by
  obtain ⟨A, m, c, rfl, hmc, hcm, hrow⟩ := open_rows Try.underlying23 Try.cells73 (by omega) hv h
  obtain ⟨xs, hl, hx⟩ := list_of (α := Int × Int) (m := m)
    (p := fun i x => Thr.Fit x ∧ ∃ b off, A = some ⟨b, off, none⟩ ∧ b < W.heap.size ∧ W.cell? ⟨b, off + i * 2, none⟩ = some (.int .u16 x.1) ∧ W.cell? ⟨b, off + i * 2 + 1, none⟩ = some (.int .u8 x.2)) (by
    intro i hi
    obtain ⟨b, off, cs, rfl, hb, hcl, hcell, n, y, htr⟩ := hrow i hi
    have hf := open_fields Try.underlying73 (by kernel_rfl) htr
    obtain ⟨u0, n0, y0, hu0, ht0⟩ := hf 0 _ rfl (by omega)
    obtain ⟨u1, n1, y1, hu1, ht1⟩ := hf 1 _ rfl (by omega)
    obtain ⟨a, ha, _, wa⟩ := DataW.trod_int Try.underlying71 ht0
    obtain ⟨k, hk, _, wk⟩ := DataW.trod_int Try.underlying5 ht1
    obtain rfl : u0 = .int .u16 a := by simpa using ha
    obtain rfl : u1 = .int .u8 k := by simpa using hk
    have ba := bounds_u16 wa
    have bk := bounds_u8 wk
    exact ⟨(a, k), ⟨ba.1, ba.2, bk.1, bk.2⟩, b, off, rfl, hb, (hcell 0 (by omega)).trans hu0, (hcell 1 (by omega)).trans hu1⟩)
  refine ⟨A, m, c, xs, rfl, hl, hmc, hcm, fun x hxm => ?_, fun k hk => (hx k hk).2⟩
  obtain ⟨i, hi, rfl⟩ := List.getElem_of_mem hxm
  exact (hx i hi).1
end Go.Proofs.Ythbefhpgpebkgaa
