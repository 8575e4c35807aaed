/- AskSmall, walked. Conditions: none. -/
import Derived.Test.YtdbknbgomcabbaaBLaw
import Derived.Test.YtdbknbgomcabbaaBNil
import Derived.Deep.RegionHeld3
namespace Go.Proofs.Ytdbknbgomcabbaa
open Go.RowKit

/-- The nine acts. -/
def nine : List (Int × Int × Bool) := [(0, 1, false), (0, 2, false), (0, 7, false), (2, 0, true), (2, 0, false), (4, 1, true), (4, 2, true), (5, 1, false), (0, -1, false)]
def actCells (l : List (Int × Int × Bool)) : List Value := l.flatMap fun x => [.int .u8 x.1, .int .i64 x.2.1, .bool x.2.2]

theorem actCells_at : ∀ (l : List (Int × Int × Bool)) (k : Nat) (h : k < l.length), (actCells l)[k * 3]? = some (.int .u8 l[k].1) ∧ (actCells l)[k * 3 + 1]? = some (.int .i64 l[k].2.1) ∧ (actCells l)[k * 3 + 2]? = some (.bool l[k].2.2)
  | [], k, h => absurd h (Nat.not_lt_zero _)
  | x :: l, 0, _ => ⟨rfl, rfl, rfl⟩
  | x :: l, k + 1, h => by
    have := actCells_at l k (by simpa using h)
    have e : actCells (x :: l) = .int .u8 x.1 :: .int .i64 x.2.1 :: .bool x.2.2 :: actCells l := rfl
    rw [e, show (k + 1) * 3 = k * 3 + 1 + 1 + 1 by omega]
    simpa using this

theorem nine_at (j : Nat) (h : j < 9) : ∃ (a b : Int) (g : Bool), (0 ≤ a ∧ a ≤ 255) ∧ (actCells nine).toArray[j * 3]? = some (.int .u8 a) ∧ (actCells nine).toArray[j * 3 + 1]? = some (.int .i64 b) ∧ (actCells nine).toArray[j * 3 + 2]? = some (.bool g) := by
  have hj : j < nine.length := h
  have := actCells_at nine j hj
  refine ⟨nine[j].1, nine[j].2.1, nine[j].2.2, ?_, by simpa using this.1, by simpa using this.2.1, by simpa using this.2.2⟩
  have hm : ∀ x ∈ nine, 0 ≤ x.1 ∧ x.1 ≤ 255 := by decide
  exact hm _ (List.getElem_mem hj)

theorem acts_block {W : World} {g n : Nat} {xs : List (Int × Int × Bool)} (h : Has W g 26 (actCells xs).toArray) (hn : xs.length = n) (hm : n ≤ 1000) (hf : ∀ x ∈ xs, 0 ≤ x.1 ∧ x.1 ≤ 255) : Acts W W.heap.size (some ⟨g, 0, none⟩) n n xs :=
  ⟨hn, Nat.le_refl _, by omega, hf, fun k hk => ⟨g, 0, rfl, Has.lt h, by
    have := actCells_at xs k hk
    rw [h.cell, h.cell, h.cell]
    exact ⟨by simpa using this.1, by simpa using this.2.1, by simpa using this.2.2⟩⟩⟩

theorem starts_at (k : Nat) (h : k < 8) : ∃ v : Int, (#[.int .i64 (-9223372036854775808), .int .i64 (-1), .int .i64 0, .int .i64 1, .int .i64 281474976710655, .int .i64 281474976710656, .int .i64 281474976710657, .int .i64 9223372036854775807] : Array Value)[k]? = some (.int .i64 v) := by
  match k, h with
  | 0, _ | 1, _ | 2, _ | 3, _ | 4, _ | 5, _ | 6, _ | 7, _ => exact ⟨_, rfl⟩
theorem widths_at (k : Nat) (h : k < 8) : ∃ v : Int, (#[.int .i64 (-1), .int .i64 0, .int .i64 1, .int .i64 2, .int .i64 1099511627775, .int .i64 1099511627776, .int .i64 1099511627777, .int .i64 9223372036854775807] : Array Value)[k]? = some (.int .i64 v) := by
  match k, h with
  | 0, _ | 1, _ | 2, _ | 3, _ | 4, _ | 5, _ | 6, _ | 7, _ => exact ⟨_, rfl⟩

set_option maxRecDepth 100000 in
set_option maxHeartbeats 16000000 in
theorem small_any (w : World) : Calls Try.prog 4 #[] w fun e w' => e = .returned (.bool true) ∧ Below w.heap.size w w' := by
  have h9 : Has (w.alloc (.cells (actCells nine).toArray 26)) w.heap.size 26 (actCells nine).toArray := Has.made _ _ _
  have H9 := Lib.hid h9
  clear h9
  go_enter Try.func4, Try.ntmps4
  go_wp2
  go_loopw [26] (fun i wr => ∃ z : Int, 0 ≤ z ∧ z ≤ 59049 ∧ i = .int .i64 z ∧ Below w.heap.size w wr ∧ Has wr w.heap.size 26 (actCells nine).toArray) (fun i _ => (59049 - intOf i).toNat)
  case atStart => exact ⟨0, by omega, by omega, rfl, (Below.refl _ _).alloc (Nat.le_refl _) _, H9.out⟩
  case round =>
    obtain ⟨z, z0, z1, rfl, hbl, hn⟩ := hrel
    have HB := Lib.hid hbl
    have HN := Lib.hid hn
    have hlt9 : w.heap.size < wr.heap.size := Has.lt hn
    clear hbl hn
    by_cases hlt : z < 59049
    · obtain ⟨j0, hj0, hl0⟩ : ∃ j : Nat, z.tmod 9 = (j : Int) ∧ j < 9 := ⟨(z % 9).toNat, by rw [Int.tmod_eq_emod_of_nonneg z0]; omega, by omega⟩
      obtain ⟨q1, hq1, hql1⟩ : ∃ q : Int, z.tdiv 9 = q ∧ 0 ≤ q ∧ q ≤ 59049 := ⟨z / 9, Int.tdiv_eq_ediv_of_nonneg z0, by omega, by omega⟩
      obtain ⟨q2, hq2, hql2⟩ : ∃ q : Int, z.tdiv 81 = q ∧ 0 ≤ q ∧ q ≤ 59049 := ⟨z / 81, Int.tdiv_eq_ediv_of_nonneg z0, by omega, by omega⟩
      obtain ⟨q3, hq3, hql3⟩ : ∃ q : Int, z.tdiv 729 = q ∧ 0 ≤ q ∧ q ≤ 59049 := ⟨z / 729, Int.tdiv_eq_ediv_of_nonneg z0, by omega, by omega⟩
      obtain ⟨j4, hj4, hl4⟩ : ∃ j : Nat, z.tdiv 6561 = (j : Int) ∧ j < 9 := ⟨(z / 6561).toNat, by rw [Int.tdiv_eq_ediv_of_nonneg z0]; omega, by omega⟩
      obtain ⟨j1, hj1, hl1⟩ : ∃ j : Nat, q1.tmod 9 = (j : Int) ∧ j < 9 := ⟨(q1 % 9).toNat, by rw [Int.tmod_eq_emod_of_nonneg hql1.1]; omega, by omega⟩
      obtain ⟨j2, hj2, hl2⟩ : ∃ j : Nat, q2.tmod 9 = (j : Int) ∧ j < 9 := ⟨(q2 % 9).toNat, by rw [Int.tmod_eq_emod_of_nonneg hql2.1]; omega, by omega⟩
      obtain ⟨j3, hj3, hl3⟩ : ∃ j : Nat, q3.tmod 9 = (j : Int) ∧ j < 9 := ⟨(q3 % 9).toNat, by rw [Int.tmod_eq_emod_of_nonneg hql3.1]; omega, by omega⟩
      obtain ⟨r5, hr5, hrl5⟩ : ∃ r : Int, z.tmod 5 = r ∧ 0 ≤ r ∧ r ≤ 4 := ⟨z % 5, Int.tmod_eq_emod_of_nonneg z0, by omega, by omega⟩
      obtain ⟨r3, hr3, hrl3⟩ : ∃ r : Int, z.tmod 3 = r ∧ 0 ≤ r ∧ r ≤ 2 := ⟨z % 3, Int.tmod_eq_emod_of_nonneg z0, by omega, by omega⟩
      obtain ⟨a0, b0, g0, f0, ca0, cb0, cg0⟩ := nine_at j0 hl0
      have ca0' : wr.cell? ⟨w.heap.size, j0 * 3, none⟩ = some (.int .u8 a0) := (HN.out.cell _).trans ca0
      have cb0' : wr.cell? ⟨w.heap.size, j0 * 3 + 1, none⟩ = some (.int .i64 b0) := (HN.out.cell _).trans cb0
      have cg0' : wr.cell? ⟨w.heap.size, j0 * 3 + 2, none⟩ = some (.bool g0) := (HN.out.cell _).trans cg0
      have n0 : (0 : Int) ≤ (j0 : Int) := by omega
      have m0 : (j0 : Int) < 9 := by omega
      clear ca0 cb0 cg0
      obtain ⟨a1, b1, g1, f1, ca1, cb1, cg1⟩ := nine_at j1 hl1
      have ca1' : wr.cell? ⟨w.heap.size, j1 * 3, none⟩ = some (.int .u8 a1) := (HN.out.cell _).trans ca1
      have cb1' : wr.cell? ⟨w.heap.size, j1 * 3 + 1, none⟩ = some (.int .i64 b1) := (HN.out.cell _).trans cb1
      have cg1' : wr.cell? ⟨w.heap.size, j1 * 3 + 2, none⟩ = some (.bool g1) := (HN.out.cell _).trans cg1
      have n1 : (0 : Int) ≤ (j1 : Int) := by omega
      have m1 : (j1 : Int) < 9 := by omega
      clear ca1 cb1 cg1
      obtain ⟨a2, b2, g2, f2, ca2, cb2, cg2⟩ := nine_at j2 hl2
      have ca2' : wr.cell? ⟨w.heap.size, j2 * 3, none⟩ = some (.int .u8 a2) := (HN.out.cell _).trans ca2
      have cb2' : wr.cell? ⟨w.heap.size, j2 * 3 + 1, none⟩ = some (.int .i64 b2) := (HN.out.cell _).trans cb2
      have cg2' : wr.cell? ⟨w.heap.size, j2 * 3 + 2, none⟩ = some (.bool g2) := (HN.out.cell _).trans cg2
      have n2 : (0 : Int) ≤ (j2 : Int) := by omega
      have m2 : (j2 : Int) < 9 := by omega
      clear ca2 cb2 cg2
      obtain ⟨a3, b3, g3, f3, ca3, cb3, cg3⟩ := nine_at j3 hl3
      have ca3' : wr.cell? ⟨w.heap.size, j3 * 3, none⟩ = some (.int .u8 a3) := (HN.out.cell _).trans ca3
      have cb3' : wr.cell? ⟨w.heap.size, j3 * 3 + 1, none⟩ = some (.int .i64 b3) := (HN.out.cell _).trans cb3
      have cg3' : wr.cell? ⟨w.heap.size, j3 * 3 + 2, none⟩ = some (.bool g3) := (HN.out.cell _).trans cg3
      have n3 : (0 : Int) ≤ (j3 : Int) := by omega
      have m3 : (j3 : Int) < 9 := by omega
      clear ca3 cb3 cg3
      obtain ⟨a4, b4, g4, f4, ca4, cb4, cg4⟩ := nine_at j4 hl4
      have ca4' : wr.cell? ⟨w.heap.size, j4 * 3, none⟩ = some (.int .u8 a4) := (HN.out.cell _).trans ca4
      have cb4' : wr.cell? ⟨w.heap.size, j4 * 3 + 1, none⟩ = some (.int .i64 b4) := (HN.out.cell _).trans cb4
      have cg4' : wr.cell? ⟨w.heap.size, j4 * 3 + 2, none⟩ = some (.bool g4) := (HN.out.cell _).trans cg4
      have n4 : (0 : Int) ≤ (j4 : Int) := by omega
      have m4 : (j4 : Int) < 9 := by omega
      clear ca4 cb4 cg4
      have v1 : IntKind.i64.wrap q1 = q1 := IntWalk.i64_in _ (by omega)
      have v2 : IntKind.i64.wrap q2 = q2 := IntWalk.i64_in _ (by omega)
      have v3 : IntKind.i64.wrap q3 = q3 := IntWalk.i64_in _ (by omega)
      have v4 : IntKind.i64.wrap (j4 : Int) = (j4 : Int) := IntWalk.i64_in _ (by omega)
      have v5 : IntKind.i64.wrap r5 = r5 := IntWalk.i64_in _ (by omega)
      have v6 : IntKind.i64.wrap r3 = r3 := IntWalk.i64_in _ (by omega)
      have v7 : IntKind.i64.wrap (1 + r3) = 1 + r3 := IntWalk.i64_in _ (by omega)
      have HF : Hid (∀ x ∈ ([(a0, b0, g0), (a1, b1, g1), (a2, b2, g2), (a3, b3, g3), (a4, b4, g4)] : List (Int × Int × Bool)), 0 ≤ x.1 ∧ x.1 ≤ 255) := by
        show ∀ x ∈ _, _
        intro x hx
        simp only [List.mem_cons, List.not_mem_nil, or_false] at hx
        rcases hx with rfl | rfl | rfl | rfl | rfl <;> assumption
      clear f0 f1 f2 f3 f4
      go_wp2
      go_region_held3 (fun W => W.cell? ⟨w.heap.size, j0 * 3, none⟩ = some (.int .u8 a0) ∧ W.cell? ⟨w.heap.size, j0 * 3 + 1, none⟩ = some (.int .i64 b0) ∧ W.cell? ⟨w.heap.size, j0 * 3 + 2, none⟩ = some (.bool g0) ∧ W.cell? ⟨w.heap.size, j1 * 3, none⟩ = some (.int .u8 a1) ∧ W.cell? ⟨w.heap.size, j1 * 3 + 1, none⟩ = some (.int .i64 b1) ∧ W.cell? ⟨w.heap.size, j1 * 3 + 2, none⟩ = some (.bool g1) ∧ W.cell? ⟨w.heap.size, j2 * 3, none⟩ = some (.int .u8 a2) ∧ W.cell? ⟨w.heap.size, j2 * 3 + 1, none⟩ = some (.int .i64 b2) ∧ W.cell? ⟨w.heap.size, j2 * 3 + 2, none⟩ = some (.bool g2) ∧ W.cell? ⟨w.heap.size, j3 * 3, none⟩ = some (.int .u8 a3) ∧ W.cell? ⟨w.heap.size, j3 * 3 + 1, none⟩ = some (.int .i64 b3) ∧ W.cell? ⟨w.heap.size, j3 * 3 + 2, none⟩ = some (.bool g3) ∧ W.cell? ⟨w.heap.size, j4 * 3, none⟩ = some (.int .u8 a4) ∧ W.cell? ⟨w.heap.size, j4 * 3 + 1, none⟩ = some (.int .i64 b4) ∧ W.cell? ⟨w.heap.size, j4 * 3 + 2, none⟩ = some (.bool g4)) (go_keep) (fail)
      clear hj0 hj1 hj2 hj3 hj4 hq1 hq2 hq3 ca0' cb0' cg0' ca1' cb1' cg1' ca2' cb2' cg2' ca3' cb3' cg3' ca4' cb4' cg4' v1 v2 v3 v4 n0 n1 n2 n3 n4 m0 m1 m2 m3 m4
      go_wp2_with fail
      refine (tells_any r5 (1 + r3) _ 5 5 [(a0, b0, g0), (a1, b1, g1), (a2, b2, g2), (a3, b3, g3), (a4, b4, g4)] _ (acts_block (by first | exact Has.made _ _ _ | exact (Has.made _ _ _).drew) rfl (by omega) HF.out) (by omega)).mono ?_
      rintro e w3 ⟨rfl, hb3⟩
      have HB3 : Hid (Below wr.heap.size wr w3) := Lib.hid (Below.trans (by first | exact ((Below.refl wr.heap.size wr).alloc (Nat.le_refl _) (.cells (actCells [(a0, b0, g0), (a1, b1, g1), (a2, b2, g2), (a3, b3, g3), (a4, b4, g4)]).toArray 26)).drew | exact (Below.refl wr.heap.size wr).drew.alloc (by simp) (.cells (actCells [(a0, b0, g0), (a1, b1, g1), (a2, b2, g2), (a3, b3, g3), (a4, b4, g4)]).toArray 26) | exact (Below.refl wr.heap.size wr).alloc (Nat.le_refl _) (.cells (actCells [(a0, b0, g0), (a1, b1, g1), (a2, b2, g2), (a3, b3, g3), (a4, b4, g4)]).toArray 26)) (hb3.mono (by simp)))
      clear hb3
      go_wp2
      go_roundw
      case rel => exact ⟨z + 1, by omega, by omega, rfl, HB.out.trans (HB3.out.mono HB.out.size), HN.out.below HB3.out (Has.lt HN.out)⟩
      case measure => simp [intOf]; omega
    · obtain ⟨w7, hw7⟩ : ∃ w7 : World, w7 = wr := ⟨_, rfl⟩
      rw [← hw7] at HB HN hlt9 ⊢
      clear hw7
      have HS7 := Lib.hid (Has.made w7 3 #[.int .i64 (-9223372036854775808), .int .i64 (-1), .int .i64 0, .int .i64 1, .int .i64 281474976710655, .int .i64 281474976710656, .int .i64 281474976710657, .int .i64 9223372036854775807])
      have HB7 := Lib.hid (HB.out.alloc HB.out.size (.cells #[.int .i64 (-9223372036854775808), .int .i64 (-1), .int .i64 0, .int .i64 1, .int .i64 281474976710655, .int .i64 281474976710656, .int .i64 281474976710657, .int .i64 9223372036854775807] 3))
      go_wp2
      go_loopw [69] (fun i wr => ∃ k : Nat, k ≤ 8 ∧ i = .int .i64 k ∧ Below w.heap.size w wr ∧ Has wr w7.heap.size 3 #[.int .i64 (-9223372036854775808), .int .i64 (-1), .int .i64 0, .int .i64 1, .int .i64 281474976710655, .int .i64 281474976710656, .int .i64 281474976710657, .int .i64 9223372036854775807]) (fun i _ => 8 - (intOf i).toNat)
      case atStart => exact ⟨0, by omega, rfl, HB7.out, HS7.out⟩
      case round =>
        obtain ⟨k, hk, rfl, hbl, hn⟩ := hrel
        have HB8 := Lib.hid hbl
        have HN8 := Lib.hid hn
        obtain ⟨w8, hw8⟩ : ∃ w8 : World, w8 = wr := ⟨_, rfl⟩
        rw [← hw8] at HB8 HN8 ⊢
        clear hbl hn hw8
        by_cases hlk : k < 8
        · have d7 : decide ((k : Int) < 8) = true := by simp; omega
          have d7' : decide (k < 8) = true := by simp; omega
          obtain ⟨v, hv⟩ := starts_at k hlk
          have hv' : w8.cell? ⟨w7.heap.size, k, none⟩ = some (.int .i64 v) := (HN8.out.cell _).trans hv
          clear hv
          have HS9 := Lib.hid (Has.made w8 3 #[.int .i64 (-1), .int .i64 0, .int .i64 1, .int .i64 2, .int .i64 1099511627775, .int .i64 1099511627776, .int .i64 1099511627777, .int .i64 9223372036854775807])
          have HB9 := Lib.hid ((Below.refl w8.heap.size w8).alloc (Nat.le_refl _) (.cells #[.int .i64 (-1), .int .i64 0, .int .i64 1, .int .i64 2, .int .i64 1099511627775, .int .i64 1099511627776, .int .i64 1099511627777, .int .i64 9223372036854775807] 3))
          go_wp2
          go_loopw [75] (fun i wr => ∃ j : Nat, j ≤ 8 ∧ i = .int .i64 j ∧ Below w8.heap.size w8 wr ∧ Has wr w8.heap.size 3 #[.int .i64 (-1), .int .i64 0, .int .i64 1, .int .i64 2, .int .i64 1099511627775, .int .i64 1099511627776, .int .i64 1099511627777, .int .i64 9223372036854775807]) (fun i _ => 8 - (intOf i).toNat)
          case atStart => exact ⟨0, by omega, rfl, HB9.out, HS9.out⟩
          case round =>
            obtain ⟨j, hj, rfl, hbl, hn⟩ := hrel
            have HBa := Lib.hid hbl
            have HNa := Lib.hid hn
            obtain ⟨wa, hwa⟩ : ∃ wa : World, wa = wr := ⟨_, rfl⟩
            rw [← hwa] at HBa HNa ⊢
            clear hbl hn hwa
            by_cases hlj : j < 8
            · obtain ⟨u, hu⟩ := widths_at j hlj
              have hu' : wa.cell? ⟨w8.heap.size, j, none⟩ = some (.int .i64 u) := (HNa.out.cell _).trans hu
              clear hu
              have HFa : Hid (∀ x ∈ ([(1, wrap64 (wrap64 (v + u) - 1), true), (2, 0, true), (1, wrap64 (v + u), true), (2, 0, false), (1, 281474976710656, true), (2, 0, true), (1, 281474976710657, true), (0, 0, true), (4, 0, true), (4, -1, true), (5, 1, true), (5, 1, true), (0, 0, true)] : List (Int × Int × Bool)), 0 ≤ x.1 ∧ x.1 ≤ 255) := by
                show ∀ x ∈ _, _
                intro x hx
                simp only [List.mem_cons, List.not_mem_nil, or_false] at hx
                rcases hx with rfl | rfl | rfl | rfl | rfl | rfl | rfl | rfl | rfl | rfl | rfl | rfl | rfl <;> exact ⟨by omega, by omega⟩
              go_wp2_with fail
              refine (tells_any v u (some ⟨wa.heap.size, 0, none⟩) 13 13 [(1, wrap64 (wrap64 (v + u) - 1), true), (2, 0, true), (1, wrap64 (v + u), true), (2, 0, false), (1, 281474976710656, true), (2, 0, true), (1, 281474976710657, true), (0, 0, true), (4, 0, true), (4, -1, true), (5, 1, true), (5, 1, true), (0, 0, true)] _ (acts_block (Has.made wa 26 (actCells [(1, wrap64 (wrap64 (v + u) - 1), true), (2, 0, true), (1, wrap64 (v + u), true), (2, 0, false), (1, 281474976710656, true), (2, 0, true), (1, 281474976710657, true), (0, 0, true), (4, 0, true), (4, -1, true), (5, 1, true), (5, 1, true), (0, 0, true)]).toArray) rfl (by omega) HFa.out) (by omega)).mono ?_
              rintro e wb ⟨rfl, hbb⟩
              have HBb := Lib.hid (((Below.refl wa.heap.size wa).alloc (Nat.le_refl _) (.cells (actCells [(1, wrap64 (wrap64 (v + u) - 1), true), (2, 0, true), (1, wrap64 (v + u), true), (2, 0, false), (1, 281474976710656, true), (2, 0, true), (1, 281474976710657, true), (0, 0, true), (4, 0, true), (4, -1, true), (5, 1, true), (5, 1, true), (0, 0, true)]).toArray 26)).trans (hbb.mono (by simp)))
              clear hbb
              go_wp2
              go_roundw
              case rel => exact ⟨j + 1, by omega, by go_num, HBa.out.trans (HBb.out.mono HBa.out.size), HNa.out.below HBb.out (Has.lt HNa.out)⟩
              case measure => simp [intOf]; omega
            · go_wp2
              go_roundw
              case rel => exact ⟨k + 1, by omega, by go_num, HB8.out.trans (HBa.out.mono HB8.out.size), HN8.out.below HBa.out (Has.lt HN8.out)⟩
              case measure => simp [intOf]; omega
        · have hz0 : Has ((w8.alloc (.cells noAsk 32)).alloc (.cells #[.pointer none, .pointer (some ⟨w8.heap.size, 0, none⟩)] 28)) w8.heap.size 32 noAsk := (Has.made _ _ _).alloc _
          have hp0 : Has ((w8.alloc (.cells noAsk 32)).alloc (.cells #[.pointer none, .pointer (some ⟨w8.heap.size, 0, none⟩)] 28)) (w8.heap.size + 1) 28 #[.pointer none, .pointer (some ⟨w8.heap.size, 0, none⟩)] := bmade_at _ _ (by simp)
          have HZ0 := Lib.hid hz0
          have HP0 := Lib.hid hp0
          have HB0 := Lib.hid ((HB8.out.alloc HB8.out.size (.cells noAsk 32)).alloc (by have := HB8.out.size; simp; omega) (.cells #[.pointer none, .pointer (some ⟨w8.heap.size, 0, none⟩)] 28))
          clear hz0 hp0
          go_wp2
          go_loopw [110] (fun i wr => ∃ k : Nat, k ≤ 2 ∧ i = .int .i64 k ∧ Below w.heap.size w wr ∧ Has wr w8.heap.size 32 noAsk ∧ Has wr (w8.heap.size + 1) 28 #[.pointer none, .pointer (some ⟨w8.heap.size, 0, none⟩)]) (fun i _ => 2 - (intOf i).toNat)
          case atStart => exact ⟨0, by omega, rfl, HB0.out, HZ0.out, HP0.out⟩
          case round =>
            obtain ⟨k, hk, rfl, hbl, hz, hp⟩ := hrel
            have HBc := Lib.hid hbl
            have HZc := Lib.hid hz
            have HPc := Lib.hid hp
            have cc0 : wr.cell? ⟨w8.heap.size + 1, 0, none⟩ = some (.pointer none) := hp.cell 0
            have cc1 : wr.cell? ⟨w8.heap.size + 1, 1, none⟩ = some (.pointer (some ⟨w8.heap.size, 0, none⟩)) := hp.cell 1
            clear hbl hz hp
            rcases (show k = 0 ∨ k = 1 ∨ k = 2 by omega) with rfl | rfl | rfl
            · go_wp2_with fail
              refine (rcv_move_nil _).mono ?_
              rintro e wd0 ⟨rfl, hb⟩
              have HZd0 := Lib.hid (HZc.out.below hb (Has.lt HZc.out))
              have HPd0 := Lib.hid (HPc.out.below hb (Has.lt HPc.out))
              have HBd0 := Lib.hid (HBc.out.trans (hb.mono HBc.out.size))
              clear hb
              go_wp2_with fail
              refine (rcv_open_nil _).mono ?_
              rintro e wd1 ⟨rfl, hb⟩
              have HZd1 := Lib.hid (HZd0.out.below hb (Has.lt HZd0.out))
              have HPd1 := Lib.hid (HPd0.out.below hb (Has.lt HPd0.out))
              have HBd1 := Lib.hid (HBd0.out.trans (hb.mono HBd0.out.size))
              clear hb
              go_wp2_with fail
              refine (rcv_next_nil _).mono ?_
              rintro e wd2 ⟨rfl, hb⟩
              have HZd2 := Lib.hid (HZd1.out.below hb (Has.lt HZd1.out))
              have HPd2 := Lib.hid (HPd1.out.below hb (Has.lt HPd1.out))
              have HBd2 := Lib.hid (HBd1.out.trans (hb.mono HBd1.out.size))
              clear hb
              go_wp2_with fail
              refine (rcv_clock_nil _).mono ?_
              rintro e wd3 ⟨rfl, hb⟩
              have HZd3 := Lib.hid (HZd2.out.below hb (Has.lt HZd2.out))
              have HPd3 := Lib.hid (HPd2.out.below hb (Has.lt HPd2.out))
              have HBd3 := Lib.hid (HBd2.out.trans (hb.mono HBd2.out.size))
              clear hb
              go_wp2_with fail
              refine (rcv_answer_nil 0 true _).mono ?_
              rintro e wd4 ⟨rfl, hb⟩
              have HZd4 := Lib.hid (HZd3.out.below hb (Has.lt HZd3.out))
              have HPd4 := Lib.hid (HPd3.out.below hb (Has.lt HPd3.out))
              have HBd4 := Lib.hid (HBd3.out.trans (hb.mono HBd3.out.size))
              clear hb
              go_wp2_with fail
              refine (rcv_answer_nil 1 true _).mono ?_
              rintro e wd5 ⟨rfl, hb⟩
              have HZd5 := Lib.hid (HZd4.out.below hb (Has.lt HZd4.out))
              have HPd5 := Lib.hid (HPd4.out.below hb (Has.lt HPd4.out))
              have HBd5 := Lib.hid (HBd4.out.trans (hb.mono HBd4.out.size))
              clear hb
              go_wp2_with fail
              refine (rcv_stop_nil _).mono ?_
              rintro e wd6 ⟨rfl, hb⟩
              have HZd6 := Lib.hid (HZd5.out.below hb (Has.lt HZd5.out))
              have HPd6 := Lib.hid (HPd5.out.below hb (Has.lt HPd5.out))
              have HBd6 := Lib.hid (HBd5.out.trans (hb.mono HBd5.out.size))
              clear hb
              go_wp2_with fail
              refine (rcv_counts_nil _).mono ?_
              rintro e wd7 ⟨rfl, hb⟩
              have HZd7 := Lib.hid (HZd6.out.below hb (Has.lt HZd6.out))
              have HPd7 := Lib.hid (HPd6.out.below hb (Has.lt HPd6.out))
              have HBd7 := Lib.hid (HBd6.out.trans (hb.mono HBd6.out.size))
              clear hb
              go_wp2
              go_roundw
              case rel => exact ⟨1, by omega, rfl, HBd7.out, HZd7.out, HPd7.out⟩
              case measure => simp [intOf]
            · go_wp2_with fail
              refine (rcv_move_zero _ w8.heap.size HZc.out).mono ?_
              rintro e wd0 ⟨rfl, hb⟩
              have HZd0 := Lib.hid (HZc.out.below hb (Has.lt HZc.out))
              have HPd0 := Lib.hid (HPc.out.below hb (Has.lt HPc.out))
              have HBd0 := Lib.hid (HBc.out.trans (hb.mono HBc.out.size))
              clear hb
              go_wp2_with fail
              refine (rcv_open_zero _ w8.heap.size HZd0.out).mono ?_
              rintro e wd1 ⟨rfl, hb⟩
              have HZd1 := Lib.hid (HZd0.out.below hb (Has.lt HZd0.out))
              have HPd1 := Lib.hid (HPd0.out.below hb (Has.lt HPd0.out))
              have HBd1 := Lib.hid (HBd0.out.trans (hb.mono HBd0.out.size))
              clear hb
              go_wp2_with fail
              refine (rcv_next_zero _ w8.heap.size HZd1.out).mono ?_
              rintro e wd2 ⟨rfl, hb⟩
              have HZd2 := Lib.hid (HZd1.out.below hb (Has.lt HZd1.out))
              have HPd2 := Lib.hid (HPd1.out.below hb (Has.lt HPd1.out))
              have HBd2 := Lib.hid (HBd1.out.trans (hb.mono HBd1.out.size))
              clear hb
              go_wp2_with fail
              refine (rcv_clock_zero _ w8.heap.size HZd2.out).mono ?_
              rintro e wd3 ⟨rfl, hb⟩
              have HZd3 := Lib.hid (HZd2.out.below hb (Has.lt HZd2.out))
              have HPd3 := Lib.hid (HPd2.out.below hb (Has.lt HPd2.out))
              have HBd3 := Lib.hid (HBd2.out.trans (hb.mono HBd2.out.size))
              clear hb
              go_wp2_with fail
              refine (rcv_answer_zero 0 true _ w8.heap.size HZd3.out).mono ?_
              rintro e wd4 ⟨rfl, hb⟩
              have HZd4 := Lib.hid (HZd3.out.below hb (Has.lt HZd3.out))
              have HPd4 := Lib.hid (HPd3.out.below hb (Has.lt HPd3.out))
              have HBd4 := Lib.hid (HBd3.out.trans (hb.mono HBd3.out.size))
              clear hb
              go_wp2_with fail
              refine (rcv_answer_zero 1 true _ w8.heap.size HZd4.out).mono ?_
              rintro e wd5 ⟨rfl, hb⟩
              have HZd5 := Lib.hid (HZd4.out.below hb (Has.lt HZd4.out))
              have HPd5 := Lib.hid (HPd4.out.below hb (Has.lt HPd4.out))
              have HBd5 := Lib.hid (HBd4.out.trans (hb.mono HBd4.out.size))
              clear hb
              go_wp2_with fail
              refine (rcv_stop_zero _ w8.heap.size HZd5.out).mono ?_
              rintro e wd6 ⟨rfl, hb⟩
              have HZd6 := Lib.hid (HZd5.out.below hb (Has.lt HZd5.out))
              have HPd6 := Lib.hid (HPd5.out.below hb (Has.lt HPd5.out))
              have HBd6 := Lib.hid (HBd5.out.trans (hb.mono HBd5.out.size))
              clear hb
              go_wp2_with fail
              refine (rcv_counts_zero _ w8.heap.size HZd6.out).mono ?_
              rintro e wd7 ⟨rfl, hb⟩
              have HZd7 := Lib.hid (HZd6.out.below hb (Has.lt HZd6.out))
              have HPd7 := Lib.hid (HPd6.out.below hb (Has.lt HPd6.out))
              have HBd7 := Lib.hid (HBd6.out.trans (hb.mono HBd6.out.size))
              clear hb
              go_wp2
              go_roundw
              case rel => exact ⟨2, by omega, rfl, HBd7.out, HZd7.out, HPd7.out⟩
              case measure => simp [intOf]
            · go_wp2_with fail
              refine (awake_any _).mono ?_
              rintro e wd ⟨rfl, hb⟩
              have HBd := Lib.hid (HBc.out.trans (hb.mono HBc.out.size))
              clear hb
              go_wp2
              go_ret
              exact ⟨rfl, HBd.out⟩
end Go.Proofs.Ytdbknbgomcabbaa
