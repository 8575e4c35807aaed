/- CellOnce, walked. Conditions: a slice that reads as bytes. -/
import Derived.Test.YthiifeiacpmjiaaOpen
namespace Go.Proofs.Ythiifeiacpmjiaa
open Go.RowKit

def evens (l : List Int) : Bool := l.any fun x => x % 2 == 0
def odds (l : List Int) : Bool := l.any fun x => x % 2 == 1
theorem evens_snoc (l : List Int) (x : Int) : evens (l ++ [x]) = (evens l || x % 2 == 0) := by simp [evens]
theorem odds_snoc (l : List Int) (x : Int) : odds (l ++ [x]) = (odds l || x % 2 == 1) := by simp [odds]
theorem take_snoc_ (l : List Int) (k : Nat) (h : k < l.length) : l.take (k + 1) = l.take k ++ [l[k]] := List.take_succ_eq_append_getElem h
def num (x : Bool) : Int := if x then 1 else 0

set_option maxRecDepth 100000 in
set_option maxHeartbeats 16000000 in
theorem once_any (A : Option Addr) (m cp : Nat) (zs : List Int) (v : Int) (w : World) (hs : Octs w w.heap.size A m cp zs) :
    Calls Try.prog 5 #[.slice A m cp, .int .i64 v] w fun e w' => e = .returned (.bool true) ∧ Below w.heap.size w w' := by
  have c0 := awake_any w
  have HS := Lib.hid hs
  have hcap := hs.cap
  have hmax := hs.max
  clear hs
  obtain ⟨M, hM, hMc, hM2⟩ : ∃ M : Nat, (if (30 : Int) < (m : Int) then (30 : Int) else (m : Int)) = (M : Int) ∧ M ≤ cp ∧ M = min 30 m := by
    refine ⟨min 30 m, ?_, by omega, rfl⟩
    split <;> omega
  have HM := Lib.hid hM2
  clear hM2
  go_enter Try.func5, Try.ntmps5
  go_wp2_with fail
  refine c0.mono ?_
  rintro e w1 ⟨rfl, hb1⟩
  have HB1 := Lib.hid hb1
  have hz1 := hb1.size
  clear c0 hb1
  go_wp2_with fail
  refine (new_run (W := w) w1 HB1.out).mono ?_
  rintro e w2 ⟨rfl, hr2, -⟩
  have HR2 := Lib.hid hr2
  clear hr2
  go_wp2_with fail
  refine (put_run v (c' := ⟨v, true, false, 1, 0⟩) (n := 1) (er := 0) rfl HR2.out (by omega)).mono ?_
  rintro e w3 ⟨rfl, hr3, -⟩
  have HR3 := Lib.hid hr3
  clear hr3 HR2
  go_wp2
  go_loopw [8, 9, 43] (fun cl tk i wr => ∃ (k : Nat) (c t : Int) (ev od : Bool), k ≤ M ∧ i = .int .i64 k ∧ cl = .int .i64 c ∧ tk = .int .i64 t ∧ c = num ev ∧ t = num od ∧ ev = evens (zs.take k) ∧ od = odds (zs.take k) ∧
      Run w wr w1.heap.size (1 + 2 * k) ⟨v, !od, ev, 1, 0⟩) (fun _ _ i _ => M - (intOf i).toNat)
  case atStart => exact ⟨0, 0, 0, false, false, by omega, rfl, rfl, rfl, rfl, rfl, rfl, rfl, HR3.out⟩
  case round =>
    obtain ⟨k, c, t, ev, od, hk, rfl, rfl, rfl, hc, ht, hev, hod, hrun⟩ := hrel
    have hM30 : M ≤ 30 := by have := HM.out; omega
    have HR := Lib.hid hrun
    have HEV := Lib.hid hev
    have HOD := Lib.hid hod
    by_cases hlt : k < M
    · have hkl : k < zs.length := by have := HS.out.len; have := HM.out; omega
      have hfit := HS.out.fit _ (List.getElem_mem hkl)
      have hsn := take_snoc_ zs k hkl
      obtain ⟨ab, off, rfl, hab, hcell⟩ := HS.out.at_ k hkl
      generalize zs[k] = x at hcell hfit hsn
      obtain ⟨x0, x1⟩ := hfit
      have hc1 := (hrun.below.cell (p := ⟨ab, off + k, none⟩) hab).trans hcell
      have HSN := Lib.hid hsn
      clear hrun hcell hev hod hsn
      by_cases hq : x % 2 = 0
      · rcases ev with _ | _
        · rcases od with _ | _
          · obtain rfl : c = 0 := hc
            obtain rfl : t = 0 := ht
            have HE1 : Hid (true = evens (zs.take (k + 1)) ∧ false = odds (zs.take (k + 1))) := by
              show _ ∧ _
              rw [HSN.out, evens_snoc, odds_snoc, ← HEV.out, ← HOD.out]
              simp; omega
            have d0 : (x % 2 == 0) = true := by simp; exact hq
            clear hq HEV HOD
            go_wp2_with fail
            refine (close_run HR.out).mono ?_
            rintro e w4 ⟨rfl, hr, -⟩
            have HR4 := Lib.hid hr
            clear hr
            go_wp2_with fail
            refine (closed_run HR4.out).mono ?_
            rintro e w5 ⟨rfl, hr, -⟩
            have HR5 := Lib.hid hr
            clear hr
            go_wp2_with fail
            refine (put_run _ (c' := ⟨v, !false, true, 1, 0⟩) (n := 0) (er := 390) rfl HR5.out (by omega)).mono ?_
            rintro e w6 ⟨rfl, hr, -⟩
            have HR6 := Lib.hid hr
            clear hr
            go_wp2_with fail
            refine (change_run 1 _ (c' := ⟨v, !false, true, 1, 0⟩) (n := 0) (er := 390) rfl HR6.out (by omega)).mono ?_
            rintro e w7 ⟨rfl, hr, -⟩
            have HR7 := Lib.hid hr
            clear hr
            go_wp2
            go_roundw
            case rel => exact ⟨k + 1, 1, 0, true, false, by omega, by go_num, rfl, rfl, rfl, rfl, HE1.out.1, HE1.out.2, HR7.out.more_ (by omega)⟩
            case measure => simp [intOf]; omega
          · obtain rfl : c = 0 := hc
            obtain rfl : t = 1 := ht
            have HE1 : Hid (true = evens (zs.take (k + 1)) ∧ true = odds (zs.take (k + 1))) := by
              show _ ∧ _
              rw [HSN.out, evens_snoc, odds_snoc, ← HEV.out, ← HOD.out]
              simp; omega
            have d0 : (x % 2 == 0) = true := by simp; exact hq
            clear hq HEV HOD
            go_wp2_with fail
            refine (close_run HR.out).mono ?_
            rintro e w4 ⟨rfl, hr, -⟩
            have HR4 := Lib.hid hr
            clear hr
            go_wp2_with fail
            refine (closed_run HR4.out).mono ?_
            rintro e w5 ⟨rfl, hr, -⟩
            have HR5 := Lib.hid hr
            clear hr
            go_wp2_with fail
            refine (put_run _ (c' := ⟨v, !true, true, 1, 0⟩) (n := 0) (er := 390) rfl HR5.out (by omega)).mono ?_
            rintro e w6 ⟨rfl, hr, -⟩
            have HR6 := Lib.hid hr
            clear hr
            go_wp2_with fail
            refine (change_run 1 _ (c' := ⟨v, !true, true, 1, 0⟩) (n := 0) (er := 390) rfl HR6.out (by omega)).mono ?_
            rintro e w7 ⟨rfl, hr, -⟩
            have HR7 := Lib.hid hr
            clear hr
            go_wp2
            go_roundw
            case rel => exact ⟨k + 1, 1, 1, true, true, by omega, by go_num, rfl, rfl, rfl, rfl, HE1.out.1, HE1.out.2, HR7.out.more_ (by omega)⟩
            case measure => simp [intOf]; omega
        · rcases od with _ | _
          · obtain rfl : c = 1 := hc
            obtain rfl : t = 0 := ht
            have HE1 : Hid (true = evens (zs.take (k + 1)) ∧ false = odds (zs.take (k + 1))) := by
              show _ ∧ _
              rw [HSN.out, evens_snoc, odds_snoc, ← HEV.out, ← HOD.out]
              simp; omega
            have d0 : (x % 2 == 0) = true := by simp; exact hq
            clear hq HEV HOD
            go_wp2_with fail
            refine (close_run HR.out).mono ?_
            rintro e w4 ⟨rfl, hr, -⟩
            have HR4 := Lib.hid hr
            clear hr
            go_wp2_with fail
            refine (closed_run HR4.out).mono ?_
            rintro e w5 ⟨rfl, hr, -⟩
            have HR5 := Lib.hid hr
            clear hr
            go_wp2_with fail
            refine (put_run _ (c' := ⟨v, !false, true, 1, 0⟩) (n := 0) (er := 390) rfl HR5.out (by omega)).mono ?_
            rintro e w6 ⟨rfl, hr, -⟩
            have HR6 := Lib.hid hr
            clear hr
            go_wp2_with fail
            refine (change_run 1 _ (c' := ⟨v, !false, true, 1, 0⟩) (n := 0) (er := 390) rfl HR6.out (by omega)).mono ?_
            rintro e w7 ⟨rfl, hr, -⟩
            have HR7 := Lib.hid hr
            clear hr
            go_wp2
            go_roundw
            case rel => exact ⟨k + 1, 1, 0, true, false, by omega, by go_num, rfl, rfl, rfl, rfl, HE1.out.1, HE1.out.2, HR7.out.more_ (by omega)⟩
            case measure => simp [intOf]; omega
          · obtain rfl : c = 1 := hc
            obtain rfl : t = 1 := ht
            have HE1 : Hid (true = evens (zs.take (k + 1)) ∧ true = odds (zs.take (k + 1))) := by
              show _ ∧ _
              rw [HSN.out, evens_snoc, odds_snoc, ← HEV.out, ← HOD.out]
              simp
            have d0 : (x % 2 == 0) = true := by simp; exact hq
            clear hq HEV HOD
            go_wp2_with fail
            refine (close_run HR.out).mono ?_
            rintro e w4 ⟨rfl, hr, -⟩
            have HR4 := Lib.hid hr
            clear hr
            go_wp2_with fail
            refine (closed_run HR4.out).mono ?_
            rintro e w5 ⟨rfl, hr, -⟩
            have HR5 := Lib.hid hr
            clear hr
            go_wp2_with fail
            refine (put_run _ (c' := ⟨v, !true, true, 1, 0⟩) (n := 0) (er := 390) rfl HR5.out (by omega)).mono ?_
            rintro e w6 ⟨rfl, hr, -⟩
            have HR6 := Lib.hid hr
            clear hr
            go_wp2_with fail
            refine (change_run 1 _ (c' := ⟨v, !true, true, 1, 0⟩) (n := 0) (er := 390) rfl HR6.out (by omega)).mono ?_
            rintro e w7 ⟨rfl, hr, -⟩
            have HR7 := Lib.hid hr
            clear hr
            go_wp2
            go_roundw
            case rel => exact ⟨k + 1, 1, 1, true, true, by omega, by go_num, rfl, rfl, rfl, rfl, HE1.out.1, HE1.out.2, HR7.out.more_ (by omega)⟩
            case measure => simp [intOf]; omega
      · rcases ev with _ | _
        · rcases od with _ | _
          · obtain rfl : c = 0 := hc
            obtain rfl : t = 0 := ht
            have HE1 : Hid (false = evens (zs.take (k + 1)) ∧ true = odds (zs.take (k + 1))) := by
              show _ ∧ _
              rw [HSN.out, evens_snoc, odds_snoc, ← HEV.out, ← HOD.out]
              simp; omega
            have d0 : (x % 2 == 0) = false := by simp; omega
            clear hq HEV HOD
            go_wp2_with fail
            refine (take_run (x := v) (n := 1) rfl HR.out).mono ?_
            rintro e w4 ⟨rfl, hr, -⟩
            have HR4 := Lib.hid hr
            clear hr
            go_wp2
            go_roundw
            case rel => exact ⟨k + 1, 0, 1, false, true, by omega, by go_num, rfl, rfl, rfl, rfl, HE1.out.1, HE1.out.2, HR4.out.more_ (by omega)⟩
            case measure => simp [intOf]; omega
          · obtain rfl : c = 0 := hc
            obtain rfl : t = 1 := ht
            have HE1 : Hid (false = evens (zs.take (k + 1)) ∧ true = odds (zs.take (k + 1))) := by
              show _ ∧ _
              rw [HSN.out, evens_snoc, odds_snoc, ← HEV.out, ← HOD.out]
              simp; omega
            have d0 : (x % 2 == 0) = false := by simp; omega
            clear hq HEV HOD
            go_wp2_with fail
            refine (take_run (x := 0) (n := 0) rfl HR.out).mono ?_
            rintro e w4 ⟨rfl, hr, -⟩
            have HR4 := Lib.hid hr
            clear hr
            go_wp2
            go_roundw
            case rel => exact ⟨k + 1, 0, 1, false, true, by omega, by go_num, rfl, rfl, rfl, rfl, HE1.out.1, HE1.out.2, HR4.out.more_ (by omega)⟩
            case measure => simp [intOf]; omega
        · rcases od with _ | _
          · obtain rfl : c = 1 := hc
            obtain rfl : t = 0 := ht
            have HE1 : Hid (true = evens (zs.take (k + 1)) ∧ true = odds (zs.take (k + 1))) := by
              show _ ∧ _
              rw [HSN.out, evens_snoc, odds_snoc, ← HEV.out, ← HOD.out]
              simp; omega
            have d0 : (x % 2 == 0) = false := by simp; omega
            clear hq HEV HOD
            go_wp2_with fail
            refine (take_run (x := v) (n := 1) rfl HR.out).mono ?_
            rintro e w4 ⟨rfl, hr, -⟩
            have HR4 := Lib.hid hr
            clear hr
            go_wp2
            go_roundw
            case rel => exact ⟨k + 1, 1, 1, true, true, by omega, by go_num, rfl, rfl, rfl, rfl, HE1.out.1, HE1.out.2, HR4.out.more_ (by omega)⟩
            case measure => simp [intOf]; omega
          · obtain rfl : c = 1 := hc
            obtain rfl : t = 1 := ht
            have HE1 : Hid (true = evens (zs.take (k + 1)) ∧ true = odds (zs.take (k + 1))) := by
              show _ ∧ _
              rw [HSN.out, evens_snoc, odds_snoc, ← HEV.out, ← HOD.out]
              simp
            have d0 : (x % 2 == 0) = false := by simp; omega
            clear hq HEV HOD
            go_wp2_with fail
            refine (take_run (x := 0) (n := 0) rfl HR.out).mono ?_
            rintro e w4 ⟨rfl, hr, -⟩
            have HR4 := Lib.hid hr
            clear hr
            go_wp2
            go_roundw
            case rel => exact ⟨k + 1, 1, 1, true, true, by omega, by go_num, rfl, rfl, rfl, rfl, HE1.out.1, HE1.out.2, HR4.out.more_ (by omega)⟩
            case measure => simp [intOf]; omega
    · have hkM : k = M := by omega
      subst hkM
      clear hrun hev hod hlt hk
      go_wp2
      go_loop [19, 20, 98] (fun cl tk i => ∃ (j : Nat), j ≤ k ∧ i = .int .i64 j ∧ cl = .bool (evens (zs.take j)) ∧ tk = .bool (odds (zs.take j))) (fun _ _ i => k - (intOf i).toNat)
      case atStart => exact ⟨0, by omega, rfl, rfl, rfl⟩
      case round =>
        obtain ⟨j, hj, rfl, rfl, rfl⟩ := hrel
        by_cases hlt : j < k
        · have hkl : j < zs.length := by have := HS.out.len; have := HM.out; omega
          have hfit := HS.out.fit _ (List.getElem_mem hkl)
          have hsn := take_snoc_ zs j hkl
          obtain ⟨ab, off, rfl, hab, hcell⟩ := HS.out.at_ j hkl
          generalize zs[j] = x at hcell hfit hsn
          obtain ⟨x0, x1⟩ := hfit
          have hc1 := (HR.out.below.cell (p := ⟨ab, off + j, none⟩) hab).trans hcell
          have HSN : Hid (evens (zs.take (j + 1)) = (evens (zs.take j) || x % 2 == 0) ∧ odds (zs.take (j + 1)) = (odds (zs.take j) || x % 2 == 1)) := by
            show _ ∧ _
            rw [hsn, evens_snoc, odds_snoc]; exact ⟨rfl, rfl⟩
          clear hcell hsn
          generalize evens (zs.take j) = e1 at *
          generalize odds (zs.take j) = o1 at *
          obtain ⟨q0, hq0⟩ : ∃ q, (x % 2 == 0) = q := ⟨_, rfl⟩
          obtain ⟨q1, hq1⟩ : ∃ q, (x % 2 == 1) = q := ⟨_, rfl⟩
          rw [hq0, hq1] at HSN
          rcases e1 with _ | _
          all_goals
            rcases o1 with _ | _
            all_goals
              go_wp2
              go_round
              case rel => exact ⟨j + 1, by omega, by go_num, by rw [HSN.out.1]; rfl, by rw [HSN.out.2]; rfl⟩
              case measure => simp [intOf]; omega
        · have hjk : j = k := by omega
          subst hjk
          rw [← HEV.out, ← HOD.out]
          clear hlt hj HEV HOD
          rcases ev with _ | _
          · rcases od with _ | _
            · obtain rfl : c = 0 := hc
              obtain rfl : t = 0 := ht
              go_wp2_with fail
              refine (look_run HR.out).mono ?_
              rintro e w4 ⟨rfl, hr, -⟩
              have HR4 := Lib.hid hr
              clear hr
              go_wp2_with fail
              refine (closed_run HR4.out).mono ?_
              rintro e w5 ⟨rfl, hr, -⟩
              have HR5 := Lib.hid hr
              clear hr
              go_wp2_with fail
              refine (fresh_run HR5.out).mono ?_
              rintro e w6 ⟨rfl, hr, -⟩
              have HR6 := Lib.hid hr
              clear hr
              go_wp2_with fail
              refine (close_run HR6.out).mono ?_
              rintro e w7 ⟨rfl, hr, -⟩
              have HR7 := Lib.hid hr
              clear hr
              go_wp2
              go_ret
              exact ⟨rfl, HR7.out.below⟩
            · obtain rfl : c = 0 := hc
              obtain rfl : t = 1 := ht
              go_wp2_with fail
              refine (look_run HR.out).mono ?_
              rintro e w4 ⟨rfl, hr, -⟩
              have HR4 := Lib.hid hr
              clear hr
              go_wp2_with fail
              refine (closed_run HR4.out).mono ?_
              rintro e w5 ⟨rfl, hr, -⟩
              have HR5 := Lib.hid hr
              clear hr
              go_wp2_with fail
              refine (fresh_run HR5.out).mono ?_
              rintro e w6 ⟨rfl, hr, -⟩
              have HR6 := Lib.hid hr
              clear hr
              go_wp2_with fail
              refine (close_run HR6.out).mono ?_
              rintro e w7 ⟨rfl, hr, -⟩
              have HR7 := Lib.hid hr
              clear hr
              go_wp2
              go_ret
              exact ⟨rfl, HR7.out.below⟩
          · rcases od with _ | _
            · obtain rfl : c = 1 := hc
              obtain rfl : t = 0 := ht
              go_wp2_with fail
              refine (look_run HR.out).mono ?_
              rintro e w4 ⟨rfl, hr, -⟩
              have HR4 := Lib.hid hr
              clear hr
              go_wp2_with fail
              refine (closed_run HR4.out).mono ?_
              rintro e w5 ⟨rfl, hr, -⟩
              have HR5 := Lib.hid hr
              clear hr
              go_wp2_with fail
              refine (fresh_run HR5.out).mono ?_
              rintro e w6 ⟨rfl, hr, -⟩
              have HR6 := Lib.hid hr
              clear hr
              go_wp2_with fail
              refine (close_run HR6.out).mono ?_
              rintro e w7 ⟨rfl, hr, -⟩
              have HR7 := Lib.hid hr
              clear hr
              go_wp2
              go_ret
              exact ⟨rfl, HR7.out.below⟩
            · obtain rfl : c = 1 := hc
              obtain rfl : t = 1 := ht
              go_wp2_with fail
              refine (look_run HR.out).mono ?_
              rintro e w4 ⟨rfl, hr, -⟩
              have HR4 := Lib.hid hr
              clear hr
              go_wp2_with fail
              refine (closed_run HR4.out).mono ?_
              rintro e w5 ⟨rfl, hr, -⟩
              have HR5 := Lib.hid hr
              clear hr
              go_wp2_with fail
              refine (fresh_run HR5.out).mono ?_
              rintro e w6 ⟨rfl, hr, -⟩
              have HR6 := Lib.hid hr
              clear hr
              go_wp2_with fail
              refine (close_run HR6.out).mono ?_
              rintro e w7 ⟨rfl, hr, -⟩
              have HR7 := Lib.hid hr
              clear hr
              go_wp2
              go_ret
              exact ⟨rfl, HR7.out.below⟩
end Go.Proofs.Ythiifeiacpmjiaa
