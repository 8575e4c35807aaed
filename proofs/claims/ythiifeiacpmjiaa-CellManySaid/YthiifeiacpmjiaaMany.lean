/- CellMany, walked. Conditions: a slice that reads as bytes. -/
import Derived.Test.YthiifeiacpmjiaaOpen
namespace Go.Proofs.Ythiifeiacpmjiaa
open Go.RowKit

/-- Eight numbers, none above n. -/
def Eight (n : Int) (cs : Array Value) : Prop := ∀ j, j < 8 → ∃ v : Int, cs[j]? = some (.int .i64 v) ∧ v ≤ n
theorem Eight.set_ {n : Int} {cs : Array Value} (h : Eight n cs) (j : Nat) : Eight (n + 1) (cs.setIfInBounds j (.int .i64 (n + 1))) := by
  intro i hi
  obtain ⟨v, hv, hn⟩ := h i hi
  have hs : i < cs.size := (Array.getElem?_eq_some_iff.1 hv).1
  by_cases e : j = i
  · subst e
    exact ⟨n + 1, by simp [hs], Int.le_refl _⟩
  · exact ⟨v, by rw [Array.getElem?_setIfInBounds_ne e]; exact hv, by omega⟩

set_option maxRecDepth 100000 in
set_option maxHeartbeats 8000000 in
theorem many_any (A : Option Addr) (m cp : Nat) (zs : List Int) (w : World) (hs : Octs w w.heap.size A m cp zs) :
    Calls Try.prog 4 #[.slice A m cp] w fun e w' => e = .returned (.bool true) ∧ Below w.heap.size w w' := by
  have c0 := awake_any w
  have HS := Lib.hid hs
  have hcap := hs.cap
  have hmax := hs.max
  clear hs
  obtain ⟨M, hM, hMc, hM2⟩ : ∃ M : Nat, (if (200 : Int) < (m : Int) then (200 : Int) else (m : Int)) = (M : Int) ∧ M ≤ cp ∧ M = min 200 m := by
    refine ⟨min 200 m, ?_, by omega, rfl⟩
    split <;> omega
  have HM := Lib.hid hM2
  clear hM2
  go_enter Try.func4, Try.ntmps4
  go_wp2_with fail
  refine c0.mono ?_
  rintro e w1 ⟨rfl, hb1⟩
  have HB1 := Lib.hid hb1
  have hz1 := hb1.size
  clear c0 hb1
  go_wp2_with fail
  refine (new_run (W := w) w1 HB1.out).mono ?_
  rintro e w2 ⟨rfl, hr2, hb2⟩
  have HR2 := Lib.hid (hr2.alloc_ (.cells #[.int .i64 0, .int .i64 0, .int .i64 0, .int .i64 0, .int .i64 0, .int .i64 0, .int .i64 0, .int .i64 0] 34))
  have hz2 : w1.heap.size < w2.heap.size := Has.lt hr2.at_
  clear hr2 hb2
  have HE0 : Hid (Eight 0 #[.int .i64 0, .int .i64 0, .int .i64 0, .int .i64 0, .int .i64 0, .int .i64 0, .int .i64 0, .int .i64 0]) := Lib.hid fun j hj => by
    match j, hj with
    | 0, _ | 1, _ | 2, _ | 3, _ | 4, _ | 5, _ | 6, _ | 7, _ => exact ⟨0, rfl, Int.le_refl _⟩
  have HL0 := Lib.hid (Has.made w2 34 #[.int .i64 0, .int .i64 0, .int .i64 0, .int .i64 0, .int .i64 0, .int .i64 0, .int .i64 0, .int .i64 0])
  go_wp2
  go_loopw [5, 6, 7, 8, 30] (fun sn ls vl f i wr => ∃ (k : Nat) (val ver los : Int) (fr : Bool) (cs : Array Value), k ≤ M ∧ i = .int .i64 k ∧ sn = .int .i64 ver ∧ ls = .int .i64 los ∧ vl = .int .i64 val ∧ f = .bool fr ∧
      Run w wr w1.heap.size k ⟨val, fr, false, ver, los⟩ ∧ Has wr w2.heap.size 34 cs ∧ Eight ver cs) (fun _ _ _ _ i _ => M - (intOf i).toNat)
  case atStart => exact ⟨0, 0, 0, 0, false, _, by omega, rfl, rfl, rfl, rfl, rfl, HR2.out, HL0.out, HE0.out⟩
  case round =>
    obtain ⟨k, val, ver, los, fr, cs, hk, rfl, rfl, rfl, rfl, rfl, hrun, hl, he⟩ := hrel
    have hM200 : M ≤ 200 := by have := HM.out; omega
    have hv0 := hrun.ok.v0
    have hv1 := hrun.ok.v1
    have hl0 := hrun.ok.l0
    have hl1 := hrun.ok.l1
    dsimp only at hv0 hv1 hl0 hl1
    have hbw := hrun.base
    have HR := Lib.hid hrun
    have HL := Lib.hid hl
    have HE := Lib.hid he
    by_cases hlt : k < M
    · have hkl : k < zs.length := by have := HS.out.len; have := HM.out; omega
      have hfit := HS.out.fit _ (List.getElem_mem hkl)
      obtain ⟨ab, off, rfl, hab, hcell⟩ := HS.out.at_ k hkl
      generalize zs[k] = x at hcell hfit
      obtain ⟨x0, x1⟩ := hfit
      have hc1 := (hrun.below.cell (p := ⟨ab, off + k, none⟩) hab).trans hcell
      clear hrun hl he hcell
      obtain ⟨j, hj, hj8⟩ : ∃ j : Nat, x % 8 = (j : Int) ∧ j < 8 := ⟨(x % 8).toNat, by omega, by omega⟩
      obtain ⟨lv, hlv, hle⟩ := HE.out j hj8
      have j0 : (0 : Int) ≤ (j : Int) := by omega
      have j1 : (j : Int) < 8 := by omega
      by_cases hq : x / 8 % 9 = 8
      · rcases fr with _ | _
        · have d0 : (x / 8 % 9 == 8) = true := by simp; exact hq
          clear hq hj
          go_wp2_with fail
          refine (take_run (x := 0) (n := 0) rfl HR.out).mono ?_
          rintro e w3 ⟨rfl, hr, hg⟩
          have HR3 := Lib.hid hr
          have HL3 := Lib.hid (HL.out.grown hg (by simp; omega))
          clear hr hg hlv
          go_wp2
          go_roundw
          case rel => exact ⟨k + 1, val, ver, los, false, cs, by omega, by go_num, rfl, rfl, rfl, rfl, HR3.out.more_ (by omega), HL3.out, HE.out⟩
          case measure => simp [intOf]; omega
        · have d0 : (x / 8 % 9 == 8) = true := by simp; exact hq
          clear hq hj
          go_wp2_with fail
          refine (take_run (x := val) (n := ver) rfl HR.out).mono ?_
          rintro e w3 ⟨rfl, hr, hg⟩
          have HR3 := Lib.hid hr
          have HL3 := Lib.hid (HL.out.grown hg (by simp; omega))
          clear hr hg hlv
          go_wp2
          go_roundw
          case rel => exact ⟨k + 1, val, ver, los, false, cs, by omega, by go_num, rfl, rfl, rfl, rfl, HR3.out.more_ (by omega), HL3.out, HE.out⟩
          case measure => simp [intOf]; omega
      · rcases fr with _ | _
        · have d0 : (x / 8 % 9 == 8) = false := by simp; exact hq
          clear hq
          have d1 : decide (ver + 1 ≤ lv) = false := decide_eq_false (by omega)
          go_wp2_with fail
          refine (put_run ((j : Int) * 1000 + (k : Int)) (c' := ⟨(j : Int) * 1000 + (k : Int), true, false, ver + 1, los⟩) (n := ver + 1) (er := 0) rfl HR.out (by omega)).mono ?_
          rintro e w3 ⟨rfl, hr, hg⟩
          have HR3 := Lib.hid hr
          have HL3 := Lib.hid (HL.out.grown hg (by simp; omega))
          have k1 : w3.cell? ⟨w2.heap.size, j, none⟩ = some (.int .i64 lv) := (HL3.out.cell j).trans hlv
          have f1 : w3.frozen? ⟨w2.heap.size, j, none⟩ = false := HL3.out.free j
          have HE3 := Lib.hid (HE.out.set_ j)
          clear hr hg hlv
          go_wp2
          go_roundw
          case rel => exact ⟨k + 1, _, ver + 1, los, true, _, by omega, by go_num, rfl, rfl, rfl, rfl, (HR3.out.set_ _ _ _ (by omega) (by omega)).more_ (by omega), HL3.out.here j _, HE3.out⟩
          case measure => simp [intOf]; omega
        · have d0 : (x / 8 % 9 == 8) = false := by simp; exact hq
          clear hq
          have d1 : decide (ver + 1 ≤ lv) = false := decide_eq_false (by omega)
          go_wp2_with fail
          refine (put_run ((j : Int) * 1000 + (k : Int)) (c' := ⟨(j : Int) * 1000 + (k : Int), true, false, ver + 1, los + 1⟩) (n := ver + 1) (er := 0) rfl HR.out (by omega)).mono ?_
          rintro e w3 ⟨rfl, hr, hg⟩
          have HR3 := Lib.hid hr
          have HL3 := Lib.hid (HL.out.grown hg (by simp; omega))
          have k1 : w3.cell? ⟨w2.heap.size, j, none⟩ = some (.int .i64 lv) := (HL3.out.cell j).trans hlv
          have f1 : w3.frozen? ⟨w2.heap.size, j, none⟩ = false := HL3.out.free j
          have HE3 := Lib.hid (HE.out.set_ j)
          clear hr hg hlv
          go_wp2
          go_roundw
          case rel => exact ⟨k + 1, _, ver + 1, los + 1, true, _, by omega, by go_num, rfl, rfl, rfl, rfl, (HR3.out.set_ _ _ _ (by omega) (by omega)).more_ (by omega), HL3.out.here j _, HE3.out⟩
          case measure => simp [intOf]; omega
    · clear hrun hl he
      go_wp2_with fail
      refine (look_run HR.out).mono ?_
      rintro e w3 ⟨rfl, hr, -⟩
      have HR3 := Lib.hid hr
      clear hr
      go_wp2_with fail
      refine (lost_run HR3.out).mono ?_
      rintro e w4 ⟨rfl, hr, -⟩
      have HR4 := Lib.hid hr
      clear hr
      go_wp2_with fail
      refine (version_run HR4.out).mono ?_
      rintro e w5 ⟨rfl, hr, -⟩
      have HR5 := Lib.hid hr
      clear hr
      go_wp2_with fail
      refine (fresh_run HR5.out).mono ?_
      rintro e w6 ⟨rfl, hr, -⟩
      have HR6 := Lib.hid hr
      clear hr
      go_wp2
      go_ret
      exact ⟨rfl, HR6.out.below⟩
end Go.Proofs.Ythiifeiacpmjiaa
