/- ThrottleFree, walked: with the width 0 each value is handed over at once; with any width the first one is. Conditions: a slice that reads as numbers. -/
import Derived.Test.YthbefhpgpebkgaaKeeps
import Derived.Test.YthbefhpgpebkgaaTPE
import Derived.Test.YthbefhpgpebkgaaPairEq
import Derived.IntWalk
namespace Go.Proofs.Ythbefhpgpebkgaa
open Go.RowKit

namespace Thr
/-- A throttle whose clock stands at 0, after k offers each with an attempt to take. -/
structure Still {α : Type} (wid : Int) (k : Nat) (s : St α) : Prop where
  now : s.now = 0
  last : s.last = 0
  width : s.width = wid
  handed : s.handed = decide (0 < k)

theorem Still.ready_ {α : Type} {wid : Int} {k : Nat} {s : St α} (h : Still wid k s) (hw : 0 ≤ wid) (x : α) : ready (offer s x) = decide (k = 0 ∨ wid = 0) := by
  obtain ⟨h1, h2, h3, h4⟩ := h
  have e : nextAt (offer s x) = if decide (0 < k) = true then max 0 (0 + wid) else 0 := by
    simp only [nextAt, offer, if_true, h1, h2, h3, h4]
  have e2 : ready (offer s x) = decide (nextAt (offer s x) = 0) := by
    unfold ready
    have : (offer s x).now = 0 := h1
    rw [this]
    rfl
  rw [e2, e]
  by_cases hk : k = 0
  · simp [hk]
  · have hk' : 0 < k := by omega
    simp only [hk', decide_true, if_true]
    rw [Bool.eq_iff_iff]
    simp only [decide_eq_true_eq]
    omega
theorem Still.taken_ {α : Type} {wid : Int} {k : Nat} {s : St α} (h : Still wid k s) (hw : 0 ≤ wid) (z x : α) : taken z (offer s x) = if k = 0 ∨ wid = 0 then x else z := by
  unfold taken
  rw [h.ready_ hw x]
  by_cases hk : k = 0 ∨ wid = 0
  · rw [decide_eq_true hk, if_pos rfl, if_pos hk]; rfl
  · rw [decide_eq_false hk, if_neg (by decide), if_neg hk]
theorem Still.step_ {α : Type} {wid : Int} {k : Nat} {s : St α} (h : Still wid k s) (hw : 0 ≤ wid) (z x : α) : Still wid (k + 1) (take z (offer s x)) := by
  have hr := h.ready_ hw x
  obtain ⟨h1, h2, h3, h4⟩ := h
  unfold take
  rw [hr]
  by_cases hk : k = 0 ∨ wid = 0
  · rw [decide_eq_true hk, if_pos rfl]
    exact ⟨h1, h1, h3, by simp⟩
  · rw [decide_eq_false hk, if_neg (by decide)]
    refine ⟨h1, h2, h3, ?_⟩
    show s.handed = _
    rw [h4]
    simp; omega
theorem Still.start_ {α : Type} (z : α) (n : Int) : Still n 0 (fresh z n) := ⟨rfl, rfl, rfl, rfl⟩
end Thr

set_option maxRecDepth 100000 in
set_option maxHeartbeats 1000000 in
theorem free_any (n : Int) (A : Option Addr) (m c : Nat) (zs : List Int) (w : World) (h0 : 0 ≤ n) (h1 : n ≤ 4294967295) (hs : Ints w w.heap.size A m c zs) :
    Calls Try.prog 5 #[.int .u32 n, .slice A m c] w fun e w' => e = .returned (.bool true) ∧ Below w.heap.size w w' := by
  have c0 := awake_any w
  have hcap := hs.cap
  have hmax := hs.max
  have HS := Lib.hid hs
  clear hs
  obtain ⟨M, hM, hMm, hM2⟩ : ∃ M : Nat, (if (100 : Int) < (m : Int) then (100 : Int) else (m : Int)) = (M : Int) ∧ M ≤ m ∧ M ≤ 100 := by
    refine ⟨min 100 m, ?_, by omega, by omega⟩
    split <;> omega
  have hMc : M ≤ c := by omega
  go_enter Try.func5, Try.ntmps5
  go_wp2_with fail
  refine c0.mono ?_
  rintro e w1 ⟨rfl, hb1⟩
  clear c0
  have HB1 := Lib.hid hb1
  clear hb1
  go_wp2_with fail
  refine (TI.new_run (W := w) 0 w1 (by omega) (by omega) HB1.out).mono ?_
  rintro e w2 ⟨rfl, hr2, -⟩
  have HR2 := Lib.hid hr2
  clear hr2
  go_wp2_with fail
  refine (TP.new_run (W := w) (n % 1048577) w2 (by omega) (by omega) HR2.out.below).mono ?_
  rintro e w3 ⟨rfl, hu3, hb3⟩
  have HU3 := Lib.hid hu3
  have HR3 := Lib.hid (HR2.out.on_ hb3)
  have hbb : w1.heap.size < w2.heap.size := Has.lt HR2.out.at_
  have hww : w.heap.size ≤ w1.heap.size := HR2.out.base
  clear hu3 hb3
  go_wp2
  obtain ⟨wid, hwid, hw0, hw1⟩ : ∃ wid, wid = n % 1048577 ∧ 0 ≤ wid ∧ wid ≤ 1048576 := ⟨_, rfl, by omega, by omega⟩
  have HW := Lib.hid hwid
  clear hwid
  go_loopw [46] (fun i wr => ∃ k : Nat, k ≤ M ∧ i = .int .i64 k ∧ ∃ st su, TI.Run w wr w1.heap.size (2 * k) st ∧ TP.Run w wr w2.heap.size (2 * k) su ∧ Thr.Still 0 k st ∧ Thr.Still wid k su) (fun i _ => M - (intOf i).toNat)
  case atStart => exact ⟨0, Nat.zero_le _, rfl, _, _, HR3.out, HU3.out, Thr.Still.start_ _ _, HW.out ▸ Thr.Still.start_ _ _⟩
  case round =>
    obtain ⟨k, hk, rfl, st, su, hrt, hru, hst, hsu⟩ := hrel
    by_cases hlt : k < M
    · obtain ⟨ab, off, rfl, hab, hcell⟩ := HS.out.at_ k (by have := HS.out.len; omega)
      have hc := (hrt.below.cell (p := ⟨ab, off + k, none⟩) hab).trans hcell
      generalize zs[k]'(by have := HS.out.len; omega) = x at *
      have hrd := hst.ready_ (by omega) x
      have htk := hst.taken_ (by omega) 0 x
      rw [if_pos (.inr rfl)] at htk
      rw [decide_eq_true (.inr rfl)] at hrd
      have hrdu := hsu.ready_ hw0 (x, (k : Int))
      have htku := hsu.taken_ hw0 (0, 0) (x, (k : Int))
      have heq := eq_pair
      have HH : Hid ((((k : Int) == 0) = true ∧ Thr.ready (Thr.offer su (x, (k : Int))) = true ∧ Thr.taken (0, 0) (Thr.offer su (x, (k : Int))) = (x, (k : Int))) ∨
          (((k : Int) == 0) = false ∧ (n % 1048577 == 0) = true ∧ Thr.ready (Thr.offer su (x, (k : Int))) = true ∧ Thr.taken (0, 0) (Thr.offer su (x, (k : Int))) = (x, (k : Int))) ∨
          (((k : Int) == 0) = false ∧ (n % 1048577 == 0) = false ∧ Thr.ready (Thr.offer su (x, (k : Int))) = false ∧ Thr.taken (0, 0) (Thr.offer su (x, (k : Int))) = (0, 0))) := by
        show _ ∨ _
        rw [hrdu, htku, ← HW.out]
        by_cases hk0 : k = 0
        · left; simp [hk0]
        · right
          by_cases hw : wid = 0
          · left; simp [hk0, hw]
          · right; simp [hk0, hw]
      clear hrdu htku
      have HT := Lib.hid hrt
      have HU := Lib.hid hru
      have HST := Lib.hid hst
      have HSU := Lib.hid hsu
      clear hrt hru hst hsu hcell
      go_wp2_with fail
      refine (TI.offer_run x HT.out (by omega)).mono ?_
      rintro e w4 ⟨rfl, hr4, hg4⟩
      have HR4 := Lib.hid hr4
      have HU4 := Lib.hid (HU.out.other_ hg4 (by simp; omega) (fun g hg => by injection hg with hg; omega))
      clear hr4 hg4
      go_wp2_with fail
      refine (TI.ready_run HR4.out).mono ?_
      rintro e w5 ⟨rfl, hr5, hb5⟩
      have HR5 := Lib.hid hr5
      have HU5 := Lib.hid (HU4.out.on_ hb5)
      clear hr5 hb5
      go_wp2_with fail
      refine (TP.offer_run (x, (k : Int)) HU5.out (by omega)).mono ?_
      rintro e w6 ⟨rfl, hu6, hg6⟩
      have HU6 := Lib.hid hu6
      have HR6 := Lib.hid (HR5.out.other_ hg6 (by simp; omega) (fun g hg => by injection hg with hg; omega))
      clear hu6 hg6
      go_wp2_with fail
      refine (TI.take_run HR6.out (by omega)).mono ?_
      rintro e w7 ⟨rfl, hr7, hg7⟩
      have HR7 := Lib.hid hr7
      have HU7 := Lib.hid (HU6.out.other_ hg7 (by simp; omega) (fun g hg => by injection hg with hg; omega))
      clear hr7 hg7
      go_wp2_with fail
      refine (TP.take_run HU7.out (by omega)).mono ?_
      rintro e w8 ⟨rfl, hu8, hg8⟩
      have HU8 := Lib.hid hu8
      have HR8 := Lib.hid (HR7.out.other_ hg8 (by simp; omega) (fun g hg => by injection hg with hg; omega))
      clear hu8 hg8
      have HQ := Lib.hid (⟨HST.out.step_ (by omega) 0 x, HSU.out.step_ hw0 (0, 0) (x, (k : Int))⟩ : Thr.Still 0 (k + 1) (Thr.take 0 (Thr.offer st x)) ∧ Thr.Still wid (k + 1) (Thr.take (0, 0) (Thr.offer su (x, (k : Int)))))
      rcases HH.out with ⟨q1, q2, q3⟩ | ⟨q1, q2, q3, q4⟩ | ⟨q1, q2, q3, q4⟩
      all_goals
        go_wp2
        go_roundw
        case rel => exact ⟨k + 1, by omega, by go_num, _, _, (HR8.out.alloc_ _).more_ (by omega), (HU8.out.alloc_ _).more_ (by omega), HQ.out.1, HQ.out.2⟩
        case measure => simp [intOf]; omega
    · have HT := Lib.hid hrt
      clear hrt hru
      go_wp2
      go_ret
      exact ⟨rfl, HT.out.below⟩
end Go.Proofs.Ythbefhpgpebkgaa
