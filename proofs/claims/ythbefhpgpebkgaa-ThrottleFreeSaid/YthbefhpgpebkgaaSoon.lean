/- ThrottleSoon, walked: what waits is handed over at the tick that Next returns, not one tick before it. Conditions: a slice of steps that reads as numbers of their types. -/
import Derived.Test.YthbefhpgpebkgaaPlayed
import Derived.Test.YthbefhpgpebkgaaAwake
namespace Go.Proofs.Ythbefhpgpebkgaa
open Go.RowKit

namespace Thr
theorem max_cases (a b : Int) : a ≤ max a b ∧ b ≤ max a b ∧ (max a b = a ∨ max a b = b) := by omega
section
variable {n : Int} {k : Nat} {p : Pl}
theorem soon_at (h : Good n k p) : p.st.now ≤ nextAt (offer p.st (-1)) ∧ nextAt (offer p.st (-1)) ≤ p.st.now + n := by
  obtain ⟨h0, h1, h2, h3, h4, h5, h6, h7, h8, h9, h10, h11⟩ := h.ok
  have hw := h.wid
  have hm := max_cases p.st.now (p.st.last + p.st.width)
  rcases hb : p.st.handed with _ | _
  · have e : nextAt (offer p.st (-1)) = p.st.now := by simp [nextAt, offer, hb]
    omega
  · have e : nextAt (offer p.st (-1)) = max p.st.now (p.st.last + p.st.width) := by simp [nextAt, offer, hb]
    omega
theorem soon_ready : ready (offer p.st (-1)) = decide (nextAt (offer p.st (-1)) = p.st.now) := rfl
theorem soon_now : ready (offer p.st (-1)) = true → taken 0 (offer p.st (-1)) = -1 ∧ (take 0 (offer p.st (-1))).waits = false := by
  intro hr
  constructor
  · simp only [taken, hr, if_true]; rfl
  · simp only [take, hr, if_true]
theorem soon_before (h : Good n k p) (hk : k ≤ 200) (hlt : p.st.now < nextAt (offer p.st (-1))) : moveErr (offer p.st (-1)) (nextAt (offer p.st (-1)) - 1) = 0 ∧ ready (move (offer p.st (-1)) (nextAt (offer p.st (-1)) - 1)) = false ∧
    moveErr (move (offer p.st (-1)) (nextAt (offer p.st (-1)) - 1)) (nextAt (offer p.st (-1))) = 0 ∧ ready (move (move (offer p.st (-1)) (nextAt (offer p.st (-1)) - 1)) (nextAt (offer p.st (-1)))) = true ∧
    taken 0 (move (move (offer p.st (-1)) (nextAt (offer p.st (-1)) - 1)) (nextAt (offer p.st (-1)))) = -1 ∧ (take 0 (move (move (offer p.st (-1)) (nextAt (offer p.st (-1)) - 1)) (nextAt (offer p.st (-1))))).waits = false := by
  have ha := soon_at h
  have hN := h.now
  obtain ⟨h0, h1, h2, h3, h4, h5, h6, h7, h8, h9, h10, h11⟩ := h.ok
  have hw := h.wid
  have hh : p.st.handed = true := by
    rcases hb : p.st.handed with _ | _
    · simp [nextAt, offer, hb] at hlt
    · rfl
  have e : nextAt (offer p.st (-1)) = max p.st.now (p.st.last + p.st.width) := by simp [nextAt, offer, hh]
  obtain ⟨e1, e2, e3⟩ := max_cases p.st.now (p.st.last + p.st.width)
  rw [← e] at e1 e2 e3
  clear e
  generalize nextAt (offer p.st (-1)) = at_ at *
  have m1 : moveOk (offer p.st (-1)) (at_ - 1) = true := by
    unfold moveOk
    rw [Bool.not_eq_true', Bool.or_eq_false_iff]
    exact ⟨decide_eq_false (by show ¬ at_ - 1 < p.st.now; omega), decide_eq_false (by omega)⟩
  have s1 : move (offer p.st (-1)) (at_ - 1) = { offer p.st (-1) with now := at_ - 1 } := by unfold move; rw [if_pos m1]
  have m2 : moveOk { offer p.st (-1) with now := at_ - 1 } at_ = true := by
    simp only [moveOk, Bool.not_eq_true', Bool.or_eq_false_iff, decide_eq_false_iff_not]
    omega
  have s2 : move { offer p.st (-1) with now := at_ - 1 } at_ = { offer p.st (-1) with now := at_ } := by unfold move; rw [if_pos m2]
  have r1 : ready { offer p.st (-1) with now := at_ - 1 } = false := by
    have hm : max (at_ - 1) (p.st.last + p.st.width) = at_ := by omega
    simp only [ready, nextAt, offer, hh, if_true, hm, Bool.true_and]
    exact decide_eq_false (by omega)
  have r2 : ready { offer p.st (-1) with now := at_ } = true := by
    have hm : max at_ (p.st.last + p.st.width) = at_ := by omega
    simp only [ready, nextAt, offer, hh, if_true, hm, Bool.true_and, decide_true]
  rw [s1, s2]
  refine ⟨by simp [moveErr, m1], r1, by simp [moveErr, m2], r2, ?_, ?_⟩
  · simp only [taken, r2, if_true]; rfl
  · simp only [take, r2, if_true]
end
end Thr

theorem Smalls.below {w w' : World} {A : Option Addr} {m c : Nat} {xs : List (Int × Int)} (h : Smalls w w.heap.size A m c xs) (k : Below w.heap.size w w') : Smalls w' w'.heap.size A m c xs :=
  ⟨h.len, h.cap, h.max, h.fit, fun i hi => by
    obtain ⟨b, off, ha, hb, h1, h2⟩ := h.at_ i hi
    exact ⟨b, off, ha, Nat.lt_of_lt_of_le hb k.size, (k.cell (p := ⟨b, _, none⟩) hb).trans h1, (k.cell (p := ⟨b, _, none⟩) hb).trans h2⟩⟩

set_option maxRecDepth 100000 in
set_option maxHeartbeats 1000000 in
theorem soon_any (n : Int) (A : Option Addr) (m c : Nat) (xs : List (Int × Int)) (w : World) (h0 : 0 ≤ n) (h1 : n ≤ 4294967295) (hs : Smalls w w.heap.size A m c xs) :
    Calls Try.prog 4 #[.int .u32 n, .slice A m c] w fun e w' => e = .returned (.bool true) ∧ Below w.heap.size w w' := by
  obtain ⟨k, hk, hg⟩ : ∃ k : Nat, k ≤ 200 ∧ Thr.Good (n % 1048577) k (Thr.after (n % 1048577) (xs.take 200)) := by
    have hl : (xs.take 200).length ≤ 200 := by simp; omega
    refine ⟨(xs.take 200).length, hl, ?_⟩
    have := Thr.good_after (n % 1048577) (by omega) (by omega) (xs.take 200) (fun x hx => hs.fit x (List.mem_of_mem_take hx)) (xs.take 200).length (Nat.le_refl _) hl
    rwa [List.take_of_length_le (Nat.le_refl _)] at this
  have c0 := awake_any w
  have HS := Lib.hid hs
  clear hs
  go_enter Try.func4, Try.ntmps4
  go_wp2_with fail
  refine c0.mono ?_
  rintro e w1 ⟨rfl, hb1⟩
  clear c0
  have HB1 := Lib.hid hb1
  clear hb1
  go_wp2_with fail
  refine (played_any (n % 1048577) A m c xs w1 (by omega) (by omega) (HS.out.below HB1.out)).mono ?_
  rintro e w2 ⟨v, rfl, hr2, -⟩
  generalize Thr.after (n % 1048577) (xs.take 200) = p at *
  have hat := Thr.soon_at hg
  have h2b := hg.ok.n0
  have h2c := hg.now
  have HG := Lib.hid hg
  have HR2 := Lib.hid hr2
  clear hg hr2
  go_wp2_with fail
  refine (TI.offer_run (-1) HR2.out (by omega)).mono ?_
  rintro e w3 ⟨rfl, hr3, -⟩
  have HR3 := Lib.hid hr3
  clear hr3
  go_wp2_with fail
  refine (TI.next_run HR3.out).mono ?_
  rintro e w4 ⟨rfl, hr4, -⟩
  have HR4 := Lib.hid hr4
  clear hr4
  have hwt : (Thr.offer p.st (-1)).waits = true := rfl
  by_cases hlt : p.st.now < Thr.nextAt (Thr.offer p.st (-1))
  · obtain ⟨hm1, hrd1, hm2, hrd2, htk, hwt2⟩ := Thr.soon_before HG.out hk hlt
    have hrd0 : Thr.ready (Thr.offer p.st (-1)) = false := by rw [Thr.soon_ready]; exact decide_eq_false (by omega)
    have heq : (Thr.nextAt (Thr.offer p.st (-1)) == p.st.now) = false := by simp; omega
    have htk1 : Thr.take 0 (Thr.move (Thr.offer p.st (-1)) (Thr.nextAt (Thr.offer p.st (-1)) - 1)) = Thr.move (Thr.offer p.st (-1)) (Thr.nextAt (Thr.offer p.st (-1)) - 1) := by
      unfold Thr.take; rw [hrd1]; rfl
    generalize Thr.nextAt (Thr.offer p.st (-1)) = at_ at *
    generalize Thr.offer p.st (-1) = s0 at *
    go_wp2_with fail
    refine (TI.ready_run HR4.out).mono ?_
    rintro e w5 ⟨rfl, hr5, -⟩
    have HR5 := Lib.hid hr5
    clear hr5
    go_wp2_with fail
    refine (TI.move_run (at_ - 1) HR5.out).mono ?_
    rintro e w6 ⟨rfl, hr6, -⟩
    have HR6 := Lib.hid hr6
    clear hr6
    go_wp2_with fail
    refine (TI.ready_run HR6.out).mono ?_
    rintro e w7 ⟨rfl, hr7, -⟩
    have HR7 := Lib.hid hr7
    clear hr7
    go_wp2_with fail
    refine (TI.take_run HR7.out (by omega)).mono ?_
    rintro e w8 ⟨rfl, hr8, -⟩
    have HR8 := Lib.hid hr8
    clear hr8
    have HR8b := Lib.hid (htk1 ▸ HR8.out)
    go_wp2_with fail
    refine (TI.move_run at_ HR8b.out).mono ?_
    rintro e w9 ⟨rfl, hr9, -⟩
    have HR9 := Lib.hid hr9
    clear hr9
    go_wp2_with fail
    refine (TI.take_run HR9.out (by omega)).mono ?_
    rintro e w10 ⟨rfl, hr10, -⟩
    have HR10 := Lib.hid hr10
    clear hr10
    go_wp2_with fail
    refine (TI.next_run HR10.out).mono ?_
    rintro e w11 ⟨rfl, hr11, -⟩
    have HR11 := Lib.hid hr11
    clear hr11
    go_wp2
    go_ret
    exact ⟨rfl, HB1.out.trans (HR11.out.below.mono HB1.out.size)⟩
  · have hav : Thr.nextAt (Thr.offer p.st (-1)) = p.st.now := by omega
    have hrd0 : Thr.ready (Thr.offer p.st (-1)) = true := by rw [Thr.soon_ready]; exact decide_eq_true hav
    obtain ⟨htk, hwt2⟩ := Thr.soon_now (p := p) hrd0
    generalize Thr.offer p.st (-1) = s0 at *
    go_wp2_with fail
    refine (TI.ready_run HR4.out).mono ?_
    rintro e w5 ⟨rfl, hr5, -⟩
    have HR5 := Lib.hid hr5
    clear hr5
    go_wp2_with fail
    refine (TI.take_run HR5.out (by omega)).mono ?_
    rintro e w6 ⟨rfl, hr6, -⟩
    have HR6 := Lib.hid hr6
    clear hr6
    go_wp2_with fail
    refine (TI.next_run HR6.out).mono ?_
    rintro e w7 ⟨rfl, hr7, -⟩
    have HR7 := Lib.hid hr7
    clear hr7
    go_wp2
    go_ret
    exact ⟨rfl, HB1.out.trans (HR7.out.below.mono HB1.out.size)⟩
end Go.Proofs.Ythbefhpgpebkgaa
