/- CellNewest, walked. Conditions: a slice that reads as numbers. -/
import Derived.Test.YthiifeiacpmjiaaAwake
import Derived.LoopTactic
namespace Go.Proofs.Ythiifeiacpmjiaa
open Go.RowKit

/-- A slice value '.slice A n c' that reads as the numbers zs, in blocks below B. -/
structure Ints (w : World) (B : Nat) (A : Option Addr) (m c : Nat) (zs : List Int) : Prop where
  len : zs.length = m
  cap : m ≤ c
  max : c ≤ 9223372036854775807
  at_ : ∀ k, (h : k < zs.length) → ∃ b off, A = some ⟨b, off, none⟩ ∧ b < B ∧ w.cell? ⟨b, off + k, none⟩ = some (.int .i64 zs[k])

set_option maxRecDepth 100000 in
set_option maxHeartbeats 8000000 in
theorem newest_any (A : Option Addr) (m cp : Nat) (zs : List Int) (w : World) (hs : Ints w w.heap.size A m cp zs) :
    Calls Try.prog 3 #[.slice A m cp] w fun e w' => e = .returned (.bool true) ∧ Below w.heap.size w w' := by
  have c0 := awake_any w
  have HS := Lib.hid hs
  have hcap := hs.cap
  have hmax := hs.max
  clear hs
  obtain ⟨M, hM, hMc, hM2⟩ : ∃ M : Nat, (if (300 : Int) < (m : Int) then (300 : Int) else (m : Int)) = (M : Int) ∧ M ≤ cp ∧ M = min 300 m := by
    refine ⟨min 300 m, ?_, by omega, rfl⟩
    split <;> omega
  have HM := Lib.hid hM2
  clear hM2
  go_enter Try.func3, Try.ntmps3
  go_wp2_with fail
  refine c0.mono ?_
  rintro e w1 ⟨rfl, hb1⟩
  have HB1 := Lib.hid hb1
  have hz1 := hb1.size
  clear c0 hb1
  go_wp2_with fail
  refine (new_run (W := w) w1 HB1.out).mono ?_
  rintro e w2 ⟨rfl, hr2, hb2⟩
  have HR2 := Lib.hid hr2
  clear hr2 hb2
  go_wp2
  go_loopw [4, 5, 6, 7, 25] (fun p t f nw i wr => ∃ (k : Nat) (val ver los tk nv : Int) (fr : Bool), k ≤ M ∧ i = .int .i64 k ∧ p = .int .i64 ver ∧ t = .int .i64 tk ∧ f = .bool fr ∧ nw = .int .i64 nv ∧
      Run w wr w1.heap.size k ⟨val, fr, false, ver, los⟩ ∧ (fr = true → nv = val) ∧ tk + los + (if fr then 1 else 0) = ver ∧ 0 ≤ tk ∧ tk ≤ k) (fun _ _ _ _ i _ => M - (intOf i).toNat)
  case atStart => exact ⟨0, 0, 0, 0, 0, 0, false, by omega, rfl, rfl, rfl, rfl, rfl, HR2.out, (fun h => by cases h), rfl, by omega, by omega⟩
  case round =>
    obtain ⟨k, val, ver, los, tk, nv, fr, hk, rfl, rfl, rfl, rfl, rfl, hrun, hnv, hsum, ht0, ht1⟩ := hrel
    have hM300 : M ≤ 300 := by have := HM.out; omega
    have hv0 := hrun.ok.v0
    have hv1 := hrun.ok.v1
    have hl0 := hrun.ok.l0
    have hl1 := hrun.ok.l1
    dsimp only at hv0 hv1 hl0 hl1
    by_cases hlt : k < M
    · have hkl : k < zs.length := by have := HS.out.len; have := HM.out; omega
      obtain ⟨ab, off, rfl, hab, hcell⟩ := HS.out.at_ k hkl
      generalize zs[k] = n at hcell
      have hc1 := (hrun.below.cell (p := ⟨ab, off + k, none⟩) hab).trans hcell
      have HR := Lib.hid hrun
      clear hrun hcell
      obtain ⟨q, hq⟩ : ∃ q, n.tmod 3 = q := ⟨_, rfl⟩
      rcases fr with _ | _
      · clear hnv
        have hsum : tk + los + 0 = ver := hsum
        by_cases hq0 : q = 0
        · have HSUM : Hid (tk + (los) + (if false then 1 else 0) = ver) := by show _ = _; simp at hsum ⊢; omega
          have d0 : (q != 0) = false := by simp; exact hq0
          have d1 : (tk + los != ver) = false := by simp; omega
          clear hq0 hsum
          go_wp2_with fail
          refine (take_run (x := 0) (n := 0) rfl HR.out).mono ?_
          rintro e w3 ⟨rfl, hr, -⟩
          have HR3 := Lib.hid hr
          clear hr
          go_wp2_with fail
          refine (lost_run HR3.out).mono ?_
          rintro e w4 ⟨rfl, hr, -⟩
          have HR4 := Lib.hid hr
          clear hr
          go_wp2_with fail
          refine (fresh_run HR4.out).mono ?_
          rintro e w5 ⟨rfl, hr, -⟩
          have HR5 := Lib.hid hr
          clear hr
          go_wp2_with fail
          refine (version_run HR5.out).mono ?_
          rintro e w6 ⟨rfl, hr, -⟩
          have HR6 := Lib.hid hr
          clear hr
          go_wp2
          go_roundw
          case rel => exact ⟨k + 1, val, ver, los, tk, nv, false, by omega, by go_num, rfl, rfl, rfl, rfl, HR6.out.more_ (by omega), (fun h => by cases h), HSUM.out, by omega, by omega⟩
          case measure => simp [intOf]; omega
        · have HSUM : Hid (tk + (los) + (if true then 1 else 0) = ver + 1) := by show _ = _; simp at hsum ⊢; omega
          have d0 : (q != 0) = true := by simp; exact hq0
          have d1 : (tk + (los) + 1 != ver + 1) = false := by simp; omega
          have d2 : (tk + (los) != ver) = false := by simp; omega
          clear hq0 hsum
          go_wp2_with fail
          refine (put_run n (c' := ⟨n, true, false, ver + 1, los⟩) (n := ver + 1) (er := 0) rfl HR.out (by omega)).mono ?_
          rintro e w3 ⟨rfl, hr, -⟩
          have HR3 := Lib.hid hr
          clear hr
          go_wp2_with fail
          refine (lost_run HR3.out).mono ?_
          rintro e w4 ⟨rfl, hr, -⟩
          have HR4 := Lib.hid hr
          clear hr
          go_wp2_with fail
          refine (fresh_run HR4.out).mono ?_
          rintro e w5 ⟨rfl, hr, -⟩
          have HR5 := Lib.hid hr
          clear hr
          go_wp2_with fail
          refine (version_run HR5.out).mono ?_
          rintro e w6 ⟨rfl, hr, -⟩
          have HR6 := Lib.hid hr
          clear hr
          go_wp2
          go_roundw
          case rel => exact ⟨k + 1, n, ver + 1, los, tk, n, true, by omega, by go_num, rfl, rfl, rfl, rfl, HR6.out.more_ (by omega), (fun _ => rfl), HSUM.out, by omega, by omega⟩
          case measure => simp [intOf]; omega
      · obtain rfl : val = nv := (hnv rfl).symm
        clear hnv
        have hsum : tk + los + 1 = ver := hsum
        by_cases hq0 : q = 0
        · have HSUM : Hid ((tk + 1) + (los) + (if false then 1 else 0) = ver) := by show _ = _; simp at hsum ⊢; omega
          have d0 : (q != 0) = false := by simp; exact hq0
          have d1 : (tk + 1 + los != ver) = false := by simp; omega
          clear hq0 hsum
          go_wp2_with fail
          refine (take_run (x := val) (n := ver) rfl HR.out).mono ?_
          rintro e w3 ⟨rfl, hr, -⟩
          have HR3 := Lib.hid hr
          clear hr
          go_wp2_with fail
          refine (lost_run HR3.out).mono ?_
          rintro e w4 ⟨rfl, hr, -⟩
          have HR4 := Lib.hid hr
          clear hr
          go_wp2_with fail
          refine (fresh_run HR4.out).mono ?_
          rintro e w5 ⟨rfl, hr, -⟩
          have HR5 := Lib.hid hr
          clear hr
          go_wp2_with fail
          refine (version_run HR5.out).mono ?_
          rintro e w6 ⟨rfl, hr, -⟩
          have HR6 := Lib.hid hr
          clear hr
          go_wp2
          go_roundw
          case rel => exact ⟨k + 1, val, ver, los, tk + 1, val, false, by omega, by go_num, rfl, rfl, rfl, rfl, HR6.out.more_ (by omega), (fun h => by cases h), HSUM.out, by omega, by omega⟩
          case measure => simp [intOf]; omega
        · have HSUM : Hid (tk + (los + 1) + (if true then 1 else 0) = ver + 1) := by show _ = _; simp at hsum ⊢; omega
          have d0 : (q != 0) = true := by simp; exact hq0
          have d1 : (tk + (los + 1) + 1 != ver + 1) = false := by simp; omega
          have d2 : (tk + (los + 1) != ver) = false := by simp; omega
          clear hq0 hsum
          go_wp2_with fail
          refine (put_run n (c' := ⟨n, true, false, ver + 1, los + 1⟩) (n := ver + 1) (er := 0) rfl HR.out (by omega)).mono ?_
          rintro e w3 ⟨rfl, hr, -⟩
          have HR3 := Lib.hid hr
          clear hr
          go_wp2_with fail
          refine (lost_run HR3.out).mono ?_
          rintro e w4 ⟨rfl, hr, -⟩
          have HR4 := Lib.hid hr
          clear hr
          go_wp2_with fail
          refine (fresh_run HR4.out).mono ?_
          rintro e w5 ⟨rfl, hr, -⟩
          have HR5 := Lib.hid hr
          clear hr
          go_wp2_with fail
          refine (version_run HR5.out).mono ?_
          rintro e w6 ⟨rfl, hr, -⟩
          have HR6 := Lib.hid hr
          clear hr
          go_wp2
          go_roundw
          case rel => exact ⟨k + 1, n, ver + 1, los + 1, tk, n, true, by omega, by go_num, rfl, rfl, rfl, rfl, HR6.out.more_ (by omega), (fun _ => rfl), HSUM.out, by omega, by omega⟩
          case measure => simp [intOf]; omega
    · have HR := Lib.hid hrun
      clear hrun hnv hsum
      go_wp2
      go_ret
      exact ⟨rfl, HR.out.below⟩
end Go.Proofs.Ythiifeiacpmjiaa
