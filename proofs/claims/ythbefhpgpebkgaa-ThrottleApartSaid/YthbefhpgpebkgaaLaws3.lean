/- ThrottleApart, walked. Conditions: a slice of steps that reads as numbers of their types. -/
import Derived.Test.YthbefhpgpebkgaaLaws1
import Derived.IntWalk
namespace Go.Proofs.Ythbefhpgpebkgaa
open Go.RowKit

theorem outCells_length (l : List (Int × Int × Int)) : (outCells l).length = l.length * 3 := by
  induction l with
  | nil => rfl
  | cons x l ih => simp [outCells] at ih ⊢; omega
theorem outCells_get (l : List (Int × Int × Int)) (i : Nat) (h : i < l.length) : (outCells l)[i * 3]? = some (.int .i64 l[i].1) ∧ (outCells l)[i * 3 + 1]? = some (.int .i64 l[i].2.1) ∧ (outCells l)[i * 3 + 2]? = some (.int .i64 l[i].2.2) := by
  induction l generalizing i with
  | nil => simp at h
  | cons x l ih =>
    cases i with
    | zero => simp [outCells]
    | succ i =>
      have := ih i (by simpa using h)
      have e : outCells (x :: l) = [.int .i64 x.1, .int .i64 x.2.1, .int .i64 x.2.2] ++ outCells l := by simp [outCells]
      rw [e]
      have e1 : ((i + 1) * 3) = i * 3 + 3 := by omega
      rw [e1]
      refine ⟨?_, ?_, ?_⟩
      · rw [List.getElem?_append_right (by simp)]; simpa using this.1
      · rw [List.getElem?_append_right (by simp)]; simpa using this.2.1
      · rw [List.getElem?_append_right (by simp)]; simpa using this.2.2

/-- The cells of the list of what was handed over. -/
theorem out_cells {w : World} {base : Nat} {A : Option Addr} {c : Nat} {l : List (Int × Int × Int)} (h : w.ownsRow base 30 3 (.slice A l.length c) l.length (outCells l)) (i : Nat) (hi : i < l.length) :
    ∃ g, A = some ⟨g, 0, none⟩ ∧ g < w.heap.size ∧ ∀ j (hj : j < l.length), w.cell? ⟨g, j * 3, none⟩ = some (.int .i64 l[j].1) ∧ w.cell? ⟨g, j * 3 + 1, none⟩ = some (.int .i64 l[j].2.1) ∧ w.cell? ⟨g, j * 3 + 2, none⟩ = some (.int .i64 l[j].2.2) := by
  rcases h.2 with ⟨_, h0⟩ | ⟨g, cap, cur, hv, hg, hh, hn, hcap, hsz, htake⟩
  · omega
  · have hA : A = some ⟨g, 0, none⟩ := by injection hv
    subst hA
    refine ⟨g, rfl, lt_of_block hh, fun j hj => ?_⟩
    have hc : ∀ q, q < l.length * 3 → w.cell? ⟨g, q, none⟩ = (outCells l)[q]? := by
      intro q hq
      rw [← htake, List.getElem?_take_of_lt hq]
      simp [World.cell?, hh]
    obtain ⟨a, b, d⟩ := outCells_get l j hj
    exact ⟨(hc _ (by omega)).trans a, (hc _ (by omega)).trans b, (hc _ (by omega)).trans d⟩

set_option maxRecDepth 100000 in
set_option maxHeartbeats 1000000 in
theorem apart_any (n : Int) (A : Option Addr) (m c : Nat) (xs : List (Int × Int)) (w : World) (h0 : 0 ≤ n) (h1 : n ≤ 4294967295) (hs : Smalls w w.heap.size A m c xs) :
    Calls Try.prog 3 #[.int .u32 n, .slice A m c] w fun e w' => e = .returned (.bool true) ∧ Below w.heap.size w w' := by
  obtain ⟨k, hk, hg⟩ := good_of n xs hs.fit
  have c0 := awake_any w
  have HS := Lib.hid hs
  clear hs
  go_enter Try.func3, Try.ntmps3
  go_wp2_with fail
  refine c0.mono ?_
  rintro e w1 ⟨rfl, hb1⟩
  clear c0
  have HB1 := Lib.hid hb1
  clear hb1
  go_wp2_with fail
  refine (played_form (n % 1048577) A m c xs w1 (by omega) (by omega) (HS.out.below HB1.out)).mono ?_
  rintro e w2 ⟨A', c', rfl, hr2, ho2⟩
  generalize Thr.after (n % 1048577) (xs.take 200) = p at *
  have hlen : p.out.length ≤ 9223372036854775807 := by have := hg.len; have := hg.ok.t1; omega
  have hb2 : Below w.heap.size w w2 := HB1.out.trans (hr2.below.mono HB1.out.size)
  have hsz := hb2.size
  have HB2 := Lib.hid hb2
  have HG := Lib.hid hg
  have HO := Lib.hid ho2
  clear hg hr2 ho2 hb2
  obtain ⟨wid, hwid, hw0, hw1⟩ : ∃ wid, wid = n % 1048577 ∧ 0 ≤ wid ∧ wid ≤ 1048576 := ⟨_, rfl, by omega, by omega⟩
  have HW := Lib.hid hwid
  clear hwid
  rw [← HW.out]
  go_wp2
  go_loopw [29] (fun i wr => ∃ k : Nat, k ≤ p.out.length ∧ i = .int .i64 k ∧ Below w2.heap.size w2 wr) (fun i _ => p.out.length - (intOf i).toNat)
  case atStart => exact ⟨0, Nat.zero_le _, rfl, Below.refl _ _⟩
  case round =>
    obtain ⟨k, hk', rfl, hbr⟩ := hrel
    by_cases hlt : k < p.out.length
    · obtain ⟨g, rfl, hgl, hcell⟩ := out_cells HO.out k hlt
      have hrng := HG.out.rng _ (List.getElem_mem hlt)
      have heach := HG.out.each _ (List.getElem_mem hlt)
      obtain ⟨ca, cb, cc⟩ := hcell k hlt
      have c1 := (hbr.cell (p := ⟨g, k * 3, none⟩) hgl).trans ca
      have c2 := (hbr.cell (p := ⟨g, k * 3 + 1, none⟩) hgl).trans cb
      have c3 := (hbr.cell (p := ⟨g, k * 3 + 2, none⟩) hgl).trans cc
      have HBR := Lib.hid hbr
      clear ca cb cc
      rcases Nat.eq_zero_or_pos k with hk0 | hk0
      · subst hk0
        clear hcell hbr
        generalize p.out[0] = x at *
        obtain ⟨xv, xa, xo⟩ := x
        dsimp only at *
        have hq1 : (xv != xo - 1) = false := by simp; omega
        obtain ⟨r0, r1, r2, r3, r4, r5⟩ := hrng
        clear heach
        go_wp2
        go_quiet (fail)
        go_wp2
        go_roundw
        case rel => exact ⟨1, by omega, by go_num, (by repeat (first | exact HBR.out | refine Below.drew ?_ | refine below_drewN ?_ _ | refine Below.alloc ?_ (by have := HBR.out.size; first | exact this | (simp; done) | (simp; omega)) _))⟩
        case measure => simp [intOf]; omega
      · obtain ⟨j, rfl⟩ : ∃ j, k = j + 1 := ⟨k - 1, by omega⟩
        obtain ⟨pa, pb⟩ := HG.out.pairs j hlt
        have hrng2 := HG.out.rng _ (List.getElem_mem (show j < p.out.length by omega))
        obtain ⟨da, db, dc⟩ := hcell j (by omega)
        have d1 := (hbr.cell (p := ⟨g, j * 3, none⟩) hgl).trans da
        have d2 := (hbr.cell (p := ⟨g, j * 3 + 1, none⟩) hgl).trans db
        clear da db dc hcell hbr
        generalize p.out[j + 1] = x at *
        generalize p.out[j] = y at *
        obtain ⟨xv, xa, xo⟩ := x
        obtain ⟨yv, ya, yo⟩ := y
        dsimp only at *
        have hq1 : (xv != xo - 1) = false := by simp; omega
        have hq2 : decide (xa - ya < wid) = false := by have := HW.out; simp; omega
        have hq3 : decide (xv ≤ yv) = false := by simp; omega
        have hq4 : decide ((0 : Int) < (j : Int) + 1) = true := by simp only [decide_eq_true_eq]; omega
        obtain ⟨r0, r1, r2, r3, r4, r5⟩ := hrng
        obtain ⟨s0, s1, s2, s3, s4, s5⟩ := hrng2
        have hpn := HG.out.now
        have g1 : IntKind.i64.wrap (xo - 1) = xo - 1 := IntWalk.i64_in _ (by omega)
        have g2 : IntKind.i64.wrap (j : Int) = (j : Int) := IntWalk.i64_in _ (by omega)
        have g3 : IntKind.i64.wrap (xa - ya) = xa - ya := IntWalk.i64_in _ (by omega)
        have g5 : (0 : Int) ≤ (j : Int) ∧ (j : Int) < (p.out.length : Int) := by omega
        have g6 : j < p.out.length := by omega
        have g7 : g < wr.heap.size := by have := HBR.out.size; omega
        clear hpn
        clear heach pa pb
        go_wp2
        go_quiet (fail)
        go_wp2
        go_roundw
        case rel => exact ⟨j + 1 + 1, by omega, by go_num, (by repeat (first | exact HBR.out | refine Below.drew ?_ | refine below_drewN ?_ _ | refine Below.alloc ?_ (by have := HBR.out.size; first | exact this | (simp; done) | (simp; omega)) _))⟩
        case measure => simp [intOf]; omega
    · have hb3 : Below w.heap.size w wr := HB2.out.trans (hbr.mono hsz)
      have HB3 := Lib.hid hb3
      clear hb3 hbr
      go_wp2
      go_ret
      exact ⟨rfl, HB3.out⟩
end Go.Proofs.Ythbefhpgpebkgaa
