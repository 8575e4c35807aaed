/- AskTells, walked; and a slice of acts that came in reads as acts. Conditions: none beyond each theorem's own premises. -/
import Derived.Test.YtdbknbgomcabbaaBTells
import Derived.Test.YtdbknbgomcabbaaAwake
import Derived.Test.YtdbknbgomcabbaaArg
namespace Go.Proofs.Ytdbknbgomcabbaa
open Go.ChangeShapes Go.WideShapes Go.ChangeAt Go.RowKit Go.Deep

theorem tells_any (start width : Int) (A : Option Addr) (m c : Nat) (xs : List (Int × Int × Bool)) (w : World) (hs : Acts w w.heap.size A m c xs) (hm : m ≤ 150) :
    Calls Try.prog 11 #[.int .i64 start, .int .i64 width, .slice A m c] w fun e w' => e = .returned (.bool true) ∧ Below w.heap.size w w' := by
  rcases (show (0 ≤ start ∧ start ≤ 281474976710656 ∧ 1 ≤ width ∧ width ≤ 1099511627776) ∨ (start < 0 ∨ 281474976710656 < start ∨ width < 1 ∨ 1099511627776 < width) by omega) with h | h
  · exact tells_yes start width A m c xs w h.1 h.2.1 h.2.2.1 h.2.2.2 hs hm
  · exact tells_no start width A m c w h

set_option maxHeartbeats 1000000 in
theorem tellsLaw_any (start width : Int) (A : Option Addr) (m c : Nat) (xs : List (Int × Int × Bool)) (w : World) (hs : Acts w w.heap.size A m c xs) :
    Calls Try.prog 3 #[.int .i64 start, .int .i64 width, .slice A m c] w fun e w' => e = .returned (.bool true) ∧ Below w.heap.size w w' := by
  have HS := Lib.hid hs
  have hmax := hs.max
  have hcap := hs.cap
  clear hs
  by_cases hm : m ≤ 150
  · have d1 : decide ((150 : Int) < (m : Int)) = false := by simp; omega
    have d2 : decide (150 < m) = false := by simp; omega
    go_enter Try.func3, Try.ntmps3
    go_wp2_with fail
    refine (tells_any start width A m c xs w HS.out hm).mono ?_
    rintro e w1 ⟨rfl, hb1⟩
    have HB1 := Lib.hid hb1
    clear hb1
    go_wp2_with fail
    refine (awake_any w1).mono ?_
    rintro e w2 ⟨rfl, hb2⟩
    have HB2 := Lib.hid (HB1.out.trans (hb2.mono HB1.out.size))
    clear hb2
    go_wp2
    go_ret
    exact ⟨rfl, HB2.out⟩
  · have d1 : decide ((150 : Int) < (m : Int)) = true := by simp; omega
    have d2 : decide (150 < m) = true := by simp; omega
    go_enter Try.func3, Try.ntmps3
    go_wp2_with fail
    refine (awake_any w).mono ?_
    rintro e w2 ⟨rfl, hb2⟩
    have HB2 := Lib.hid hb2
    clear hb2
    go_wp2
    go_ret
    exact ⟨rfl, HB2.out⟩

theorem Try.cells26 : Try.prog.cellsOf 26 = 3 := by kernel_rfl

theorem acts_of {H : Type} {enc : TypeId × Value → H} {W : World} {r : Reach} {b0 : Nat} {v : Value} {d : DataW H} {p : List MemPlace} (hv : Value.okWide Try.prog W r b0 22 v) (h : DataW.Trod enc Try.prog W 0 (fun _ => true) true 22 v d p) :
    ∃ (A : Option Addr) (m c : Nat) (xs : List (Int × Int × Bool)), v = .slice A m c ∧ Acts W W.heap.size A m c xs := by
  obtain ⟨A, m, c, rfl, hmc, hcm, hrow⟩ := open_rows Try.underlying22 Try.cells26 (by omega) hv h
  obtain ⟨xs, hl, hx⟩ := list_of (α := Int × Int × Bool) (m := m)
    (p := fun i x => (0 ≤ x.1 ∧ x.1 ≤ 255) ∧ ∃ b off, A = some ⟨b, off, none⟩ ∧ b < W.heap.size ∧ W.cell? ⟨b, off + i * 3, none⟩ = some (.int .u8 x.1) ∧ W.cell? ⟨b, off + i * 3 + 1, none⟩ = some (.int .i64 x.2.1) ∧ W.cell? ⟨b, off + i * 3 + 2, none⟩ = some (.bool x.2.2)) (by
    intro i hi
    obtain ⟨b, off, cs, rfl, hb, hcl, hcell, n, y, htr⟩ := hrow i hi
    have hf := open_fields Try.underlying26 (by kernel_rfl) htr
    obtain ⟨u0, n0, y0, hu0, ht0⟩ := hf 0 _ rfl (by omega)
    obtain ⟨u1, n1, y1, hu1, ht1⟩ := hf 1 _ rfl (by omega)
    obtain ⟨u2, n2, y2, hu2, ht2⟩ := hf 2 _ rfl (by omega)
    obtain ⟨a, ha, _, wa⟩ := DataW.trod_int Try.underlying5 ht0
    obtain ⟨k, hk, _, _⟩ := DataW.trod_int Try.underlying3 ht1
    obtain rfl : u0 = .int .u8 a := by simpa using ha
    obtain rfl : u1 = .int .i64 k := by simpa using hk
    obtain ⟨q, hq, _⟩ := DataW.trod_bool Try.underlying4 ht2
    obtain rfl : u2 = .bool q := by simpa using hq
    have ba := bounds_u8 wa
    exact ⟨(a, k, q), ⟨ba.1, ba.2⟩, b, off, rfl, hb, (hcell 0 (by omega)).trans hu0, (hcell 1 (by omega)).trans hu1, (hcell 2 (by omega)).trans hu2⟩)
  refine ⟨A, m, c, xs, rfl, hl, hmc, hcm, fun x hxm => ?_, fun k hk => (hx k hk).2⟩
  obtain ⟨i, hi, rfl⟩ := List.getElem_of_mem hxm
  exact (hx i hi).1
end Go.Proofs.Ytdbknbgomcabbaa
