/- AskSums, walked. Conditions: a slice of steps that reads as numbers of their types. -/
import Derived.Test.YtdbknbgomcabbaaAHeld
namespace Go.Proofs.Ytdbknbgomcabbaa
open Go.RowKit

namespace Ak
theorem answers_take (l : List (Int × Int × Bool)) (k : Nat) (h : k < l.length) : answers (l.take (k + 1)) = answers (l.take k) + (if l[k].2.2 then 1 else 0) := by
  rw [List.take_succ_eq_append_getElem h, answers_snoc]
theorem lates_take (l : List Step) (k : Nat) (h : k < l.length) : lates (l.take (k + 1)) = lates (l.take k) + (if l[k].2.1 % 6 < 4 then 1 else 0) := by
  rw [List.take_succ_eq_append_getElem h, lates_snoc]
theorem answers_le (l : List (Int × Int × Bool)) : 0 ≤ answers l ∧ answers l ≤ l.length := by
  unfold answers
  have := List.length_filter_le (fun x : Int × Int × Bool => x.2.2) l
  omega
theorem lates_le (l : List Step) : 0 ≤ lates l ∧ lates l ≤ l.length := by
  unfold lates
  have := List.length_filter_le (fun x : Step => decide (x.2.1 % 6 < 4)) l
  omega
end Ak

theorem undef_guard {b : Bool} {P : Prop} (h : some undef = some (Value.bool b)) : P := by cases h

set_option maxRecDepth 100000 in
set_option maxHeartbeats 8000000 in
theorem sums_any (start wid : Int) (A : Option Addr) (m c : Nat) (xs : List Ak.Step) (w : World) (h0 : 0 ≤ start) (h1 : start ≤ 4294967295) (h2 : 0 ≤ wid) (h3 : wid ≤ 4294967295) (hs : Smalls w w.heap.size A m c xs) :
    Calls Try.prog 6 #[.int .u32 start, .int .u32 wid, .slice A m c] w fun e w' => e = .returned (.bool true) ∧ Below w.heap.size w w' := by
  have hg := good_of h0 h1 h2 h3 xs hs.fit
  have c0 := awake_any w
  have hcap := hs.cap
  have hmax := hs.max
  obtain ⟨M, hM, hMc, hM2⟩ : ∃ M : Nat, (if (150 : Int) < (m : Int) then (150 : Int) else (m : Int)) = (M : Int) ∧ M ≤ c ∧ M = min 150 m := by
    refine ⟨min 150 m, ?_, by omega, rfl⟩
    split <;> omega
  have hMl : M ≤ xs.length := by have := hs.len; omega
  have htk : xs.take M = xs.take 150 := by
    have := hs.len
    rcases Nat.le_total m 150 with h4 | h4
    · rw [List.take_of_length_le (by omega), List.take_of_length_le (by omega)]
    · rw [show M = 150 by omega]
  have HM := Lib.hid hM2
  have HTK := Lib.hid htk
  have HS := Lib.hid hs
  clear hs hM2 htk
  go_enter Try.func6, Try.ntmps6
  go_wp2_with fail
  refine c0.mono ?_
  rintro e w1 ⟨rfl, hb1⟩
  clear c0
  have HB1 := Lib.hid hb1
  clear hb1
  go_wp2_with fail
  refine (played_form start wid A m c xs w1 h0 h1 h2 h3 (HS.out.below HB1.out)).mono ?_
  rintro e w2 ⟨A', c', rfl, hr2, ho2⟩
  generalize Ak.after start (1 + wid) (xs.take 150) = p at *
  have hlen : p.out.length ≤ 301 := by have := hg.len; omega
  have HG := Lib.hid hg
  have HO := Lib.hid ho2
  have HR2 := Lib.hid hr2
  clear hg hr2 ho2
  go_wp2_with fail
  refine (counts_ex HR2.out).mono ?_
  rintro e w3 ⟨rfl, hr3, hb3⟩
  have HO3 := Lib.hid (own_kept_below HO.out hb3)
  have HR3 := Lib.hid hr3
  clear hr3 hb3
  go_wp2_with fail
  refine (open_run (HR3.out.alloc_ _)).mono ?_
  rintro e w4 ⟨rfl, hr4, hb4⟩
  have hh4 : Held w1 w1.heap.size 1000 p.st w3.heap.size p.st w4 := (Held.made (t := p.st) HR3.out).on hb4
  have HO4 := Lib.hid (own_kept_below (HO3.out.alloc _) hb4)
  have HR4 := Lib.hid hh4
  clear hr4 hh4 hb4
  have ho0 := HG.out.ok.o0
  obtain ⟨d, hd, hdp⟩ : ∃ d : Int, d = (if p.st.opn = 0 then 0 else 1) ∧ (p.st.opn = 0 → d = 0) ∧ (0 < p.st.opn → d = 1) := ⟨_, rfl, fun h => if_pos h, fun h => if_neg (by omega)⟩
  have HD := Lib.hid hd
  clear hd
  rcases (show p.st.opn = 0 ∨ 0 < p.st.opn by omega) with ho | ho
  · obtain rfl : d = 0 := hdp.1 ho
    clear hdp
    have hdq : decide (0 < p.st.opn) = false := decide_eq_false (by omega)
    go_wp2
    go_loopw [14, 45] (fun a i wr => ∃ k : Nat, k ≤ p.out.length ∧ i = .int .i64 k ∧ a = .int .i64 (Ak.answers (p.out.take k)) ∧ Held w1 w1.heap.size 1000 p.st w3.heap.size p.st wr ∧ Below w4.heap.size w4 wr) (fun _ i _ => p.out.length - (intOf i).toNat)
    case atStart => exact ⟨0, Nat.zero_le _, rfl, rfl, HR4.out, Below.refl _ _⟩
    case round =>
      obtain ⟨k, hk', rfl, rfl, hhd, hbr⟩ := hrel
      by_cases hlt : k < p.out.length
      · obtain ⟨g, rfl, hgl, hcell⟩ := out_cells HO4.out k hlt
        obtain ⟨ca, cb, cc⟩ := hcell k hlt
        have c1 := (hbr.cell (p := ⟨g, k * 3, none⟩) hgl).trans ca
        have c2 := (hbr.cell (p := ⟨g, k * 3 + 1, none⟩) hgl).trans cb
        have c3 := (hbr.cell (p := ⟨g, k * 3 + 2, none⟩) hgl).trans cc
        have HAN := Lib.hid (Ak.answers_take p.out k hlt)
        have hab := Ak.answers_le (p.out.take k)
        have hal : (p.out.take k).length ≤ 301 := by simp; omega
        have HHD := Lib.hid hhd
        have HBR := Lib.hid hbr
        have hw4 := hbr.size
        clear ca cb cc hcell hhd hbr
        rcases hx : (p.out[k]).2.2 with _ | _
        · have HANX : Hid (Ak.answers (p.out.take (k + 1)) = Ak.answers (p.out.take k)) := by show _ = _; rw [HAN.out, hx]; simp
          rw [hx] at c3
          go_wp2
          go_roundw
          case rel => exact ⟨k + 1, by omega, by go_num, by rw [HANX.out], HHD.out.alloc _, HBR.out.alloc hw4 _⟩
          case measure => simp [intOf]; omega
        · have HANX : Hid (Ak.answers (p.out.take (k + 1)) = Ak.answers (p.out.take k) + 1) := by show _ = _; rw [HAN.out, hx]; simp
          rw [hx] at c3
          go_wp2
          go_roundw
          case rel => exact ⟨k + 1, by omega, by go_num, by rw [HANX.out], HHD.out.alloc _, HBR.out.alloc hw4 _⟩
          case measure => simp [intOf]; omega
      · obtain rfl : k = p.out.length := by omega
        rw [List.take_length]
        have HHD := Lib.hid hhd
        clear hhd hbr
        go_wp2
        go_loopw [15, 60] (fun a i wq => ∃ k : Nat, k ≤ M ∧ i = .int .i64 k ∧ a = .int .i64 (Ak.lates (xs.take k)) ∧ Held w1 w1.heap.size 1000 p.st w3.heap.size p.st wq) (fun _ i _ => M - (intOf i).toNat)
        case atStart => exact ⟨0, Nat.zero_le _, rfl, rfl, HHD.out⟩
        case round =>
          obtain ⟨k, hk', rfl, rfl, hhd⟩ := hrel
          by_cases hlt : k < M
          · have hkl : k < xs.length := by omega
            obtain ⟨ab, off, rfl, hab, hc1, hc2, hc3⟩ := HS.out.at_ k hkl
            have hfit := HS.out.fit _ (List.getElem_mem hkl)
            have hbw := HB1.out.trans (hhd.run.below.mono HB1.out.size)
            have c1 := (hbw.cell (p := ⟨ab, off + k * 3, none⟩) hab).trans hc1
            have c2 := (hbw.cell (p := ⟨ab, off + k * 3 + 1, none⟩) hab).trans hc2
            have c3 := (hbw.cell (p := ⟨ab, off + k * 3 + 2, none⟩) hab).trans hc3
            have HLT := Lib.hid (Ak.lates_take xs k hkl)
            have hla := Ak.lates_le (xs.take k)
            have hll : (xs.take k).length ≤ 150 := by simp; omega
            have HHD2 := Lib.hid hhd
            clear hc1 hc2 hc3 hhd hbw
            obtain ⟨hx0, hx1, hx2, hx3⟩ := hfit
            generalize xs[k] = x at *
            obtain ⟨tk, kd, gd⟩ := x
            dsimp only at *
            rcases (show kd % 6 < 4 ∨ 4 ≤ kd % 6 by omega) with hq | hq
            · have HANX : Hid (Ak.lates (xs.take (k + 1)) = Ak.lates (xs.take k) + 1) := by show _ = _; rw [HLT.out, if_pos hq]
              have hqd : decide (kd % 6 < 4) = true := decide_eq_true hq
              go_wp2
              go_roundw
              case rel => exact ⟨k + 1, by omega, by go_num, by rw [HANX.out], HHD2.out.alloc _⟩
              case measure => simp [intOf]; omega
            · have HANX : Hid (Ak.lates (xs.take (k + 1)) = Ak.lates (xs.take k)) := by show _ = _; rw [HLT.out, if_neg (by omega)]; simp
              have hqd : decide (kd % 6 < 4) = false := decide_eq_false (by omega)
              go_wp2
              go_roundw
              case rel => exact ⟨k + 1, by omega, by go_num, by rw [HANX.out], HHD2.out.alloc _⟩
              case measure => simp [intOf]; omega
          · obtain rfl : k = M := by omega
            rw [HTK.out]
            have hgd := HG.out
            obtain ⟨⟨a0, a1, g0, g1, b0, b1, f0, f1, l0, l1, s0, y1, y2, c0, c1, k0, k1, o0, o1⟩, stp, st, wd, clk, one, op, z1, z2, z3, z4, -⟩ := hgd
            rw [if_pos ho] at z1
            have hab := Ak.answers_le p.out
            have hla := Ak.lates_le (xs.take 150)
            have hll : (xs.take 150).length ≤ 150 := by simp; omega
            have hdu : Ak.due p.st p.st.clock = (p.st.clock - start) / (1 + wid) := by unfold Ak.due Ak.dueOf; rw [st, wd]
            have hq : (p.st.clock - start).tdiv (1 + wid) = Ak.due p.st p.st.clock := by rw [hdu]; exact Int.tdiv_eq_ediv_of_nonneg (by omega)
            have sp := Ak.due_spec (show 1 ≤ 1 + wid by omega) (st ▸ c0 : start ≤ p.st.clock)
            have hsp : Ak.dueOf start (1 + wid) p.st.clock = Ak.due p.st p.st.clock := by rw [hdu]; rfl
            rw [hsp] at sp
            have HE0 := Lib.hid hhd
            clear hhd
            obtain ⟨sp0, sp1, sp2, sp3, sp4⟩ := sp
            have hsi : p.st.since = 0 := by rcases op with h | h <;> omega
            have hsb : (p.st.since == 0) = true := by rw [hsi]; rfl
            clear op
            generalize Ak.answers p.out = an at *
            generalize Ak.lates (xs.take 150) = la at *
            generalize Ak.due p.st p.st.clock = D at *
            have e1 : (p.st.asked == p.st.good + p.st.bad + p.st.failed) = true := by simp; omega
            have e2 : (p.st.asked + p.st.skipped == 1 + D) = true := by simp; omega
            have e3 : (p.st.good + p.st.bad == an) = true := by simp; omega
            have e4 : (p.st.late == la - an) = true := by simp; omega
            have HX := Lib.hid z1
            have HE1x := Lib.hid HG.out
            have g01 : IntKind.i64.wrap (p.st.clock - start) = p.st.clock - start := IntWalk.i64_in _ (by omega)
            have g02 : IntKind.i64.wrap (1 + wid) = 1 + wid := IntWalk.i64_in _ (by omega)
            have g03 : IntKind.i64.wrap D = D := IntWalk.i64_in _ (by omega)
            have g04 : IntKind.i64.wrap (1 + D) = 1 + D := IntWalk.i64_in _ (by omega)
            have g05 : IntKind.i64.wrap (p.st.good + p.st.bad) = p.st.good + p.st.bad := IntWalk.i64_in _ (by omega)
            have g06 : IntKind.i64.wrap (p.st.good + p.st.bad + p.st.failed) = p.st.good + p.st.bad + p.st.failed := IntWalk.i64_in _ (by omega)
            have g07 : IntKind.i64.wrap (p.st.good + p.st.bad + p.st.failed + 1) = p.st.good + p.st.bad + p.st.failed + 1 := IntWalk.i64_in _ (by omega)
            have g08 : IntKind.i64.wrap (p.st.asked + p.st.skipped) = p.st.asked + p.st.skipped := IntWalk.i64_in _ (by omega)
            have g09 : IntKind.i64.wrap (la - an) = la - an := IntWalk.i64_in _ (by omega)
            clear z1 z2 z3 z4 hdu hsp sp2 sp3 sp4 o0 o1 y1 y2 one clk st wd stp
            go_wp2_with fail
            refine (clock_held HE0.out).mono ?_
            rintro e wz1 ⟨rfl, hz1⟩
            obtain ⟨-, j0, j1, j2, j3, j4, j5⟩ := Held.all hz1
            have HE1 := Lib.hid hz1
            clear hz1
            go_wp2_with fail
            all_goals first | exact undef_guard (by assumption) | skip
            go_ret
            exact ⟨rfl, HB1.out.trans ((Held.run HE1.out).below.mono HB1.out.size)⟩
  · obtain rfl : d = 1 := hdp.2 ho
    clear hdp
    have hdq : decide (0 < p.st.opn) = true := decide_eq_true ho
    go_wp2
    go_loopw [14, 45] (fun a i wr => ∃ k : Nat, k ≤ p.out.length ∧ i = .int .i64 k ∧ a = .int .i64 (Ak.answers (p.out.take k)) ∧ Held w1 w1.heap.size 1000 p.st w3.heap.size p.st wr ∧ Below w4.heap.size w4 wr) (fun _ i _ => p.out.length - (intOf i).toNat)
    case atStart => exact ⟨0, Nat.zero_le _, rfl, rfl, HR4.out, Below.refl _ _⟩
    case round =>
      obtain ⟨k, hk', rfl, rfl, hhd, hbr⟩ := hrel
      by_cases hlt : k < p.out.length
      · obtain ⟨g, rfl, hgl, hcell⟩ := out_cells HO4.out k hlt
        obtain ⟨ca, cb, cc⟩ := hcell k hlt
        have c1 := (hbr.cell (p := ⟨g, k * 3, none⟩) hgl).trans ca
        have c2 := (hbr.cell (p := ⟨g, k * 3 + 1, none⟩) hgl).trans cb
        have c3 := (hbr.cell (p := ⟨g, k * 3 + 2, none⟩) hgl).trans cc
        have HAN := Lib.hid (Ak.answers_take p.out k hlt)
        have hab := Ak.answers_le (p.out.take k)
        have hal : (p.out.take k).length ≤ 301 := by simp; omega
        have HHD := Lib.hid hhd
        have HBR := Lib.hid hbr
        have hw4 := hbr.size
        clear ca cb cc hcell hhd hbr
        rcases hx : (p.out[k]).2.2 with _ | _
        · have HANX : Hid (Ak.answers (p.out.take (k + 1)) = Ak.answers (p.out.take k)) := by show _ = _; rw [HAN.out, hx]; simp
          rw [hx] at c3
          go_wp2
          go_roundw
          case rel => exact ⟨k + 1, by omega, by go_num, by rw [HANX.out], HHD.out.alloc _, HBR.out.alloc hw4 _⟩
          case measure => simp [intOf]; omega
        · have HANX : Hid (Ak.answers (p.out.take (k + 1)) = Ak.answers (p.out.take k) + 1) := by show _ = _; rw [HAN.out, hx]; simp
          rw [hx] at c3
          go_wp2
          go_roundw
          case rel => exact ⟨k + 1, by omega, by go_num, by rw [HANX.out], HHD.out.alloc _, HBR.out.alloc hw4 _⟩
          case measure => simp [intOf]; omega
      · obtain rfl : k = p.out.length := by omega
        rw [List.take_length]
        have HHD := Lib.hid hhd
        clear hhd hbr
        go_wp2
        go_loopw [15, 60] (fun a i wq => ∃ k : Nat, k ≤ M ∧ i = .int .i64 k ∧ a = .int .i64 (Ak.lates (xs.take k)) ∧ Held w1 w1.heap.size 1000 p.st w3.heap.size p.st wq) (fun _ i _ => M - (intOf i).toNat)
        case atStart => exact ⟨0, Nat.zero_le _, rfl, rfl, HHD.out⟩
        case round =>
          obtain ⟨k, hk', rfl, rfl, hhd⟩ := hrel
          by_cases hlt : k < M
          · have hkl : k < xs.length := by omega
            obtain ⟨ab, off, rfl, hab, hc1, hc2, hc3⟩ := HS.out.at_ k hkl
            have hfit := HS.out.fit _ (List.getElem_mem hkl)
            have hbw := HB1.out.trans (hhd.run.below.mono HB1.out.size)
            have c1 := (hbw.cell (p := ⟨ab, off + k * 3, none⟩) hab).trans hc1
            have c2 := (hbw.cell (p := ⟨ab, off + k * 3 + 1, none⟩) hab).trans hc2
            have c3 := (hbw.cell (p := ⟨ab, off + k * 3 + 2, none⟩) hab).trans hc3
            have HLT := Lib.hid (Ak.lates_take xs k hkl)
            have hla := Ak.lates_le (xs.take k)
            have hll : (xs.take k).length ≤ 150 := by simp; omega
            have HHD2 := Lib.hid hhd
            clear hc1 hc2 hc3 hhd hbw
            obtain ⟨hx0, hx1, hx2, hx3⟩ := hfit
            generalize xs[k] = x at *
            obtain ⟨tk, kd, gd⟩ := x
            dsimp only at *
            rcases (show kd % 6 < 4 ∨ 4 ≤ kd % 6 by omega) with hq | hq
            · have HANX : Hid (Ak.lates (xs.take (k + 1)) = Ak.lates (xs.take k) + 1) := by show _ = _; rw [HLT.out, if_pos hq]
              have hqd : decide (kd % 6 < 4) = true := decide_eq_true hq
              go_wp2
              go_roundw
              case rel => exact ⟨k + 1, by omega, by go_num, by rw [HANX.out], HHD2.out.alloc _⟩
              case measure => simp [intOf]; omega
            · have HANX : Hid (Ak.lates (xs.take (k + 1)) = Ak.lates (xs.take k)) := by show _ = _; rw [HLT.out, if_neg (by omega)]; simp
              have hqd : decide (kd % 6 < 4) = false := decide_eq_false (by omega)
              go_wp2
              go_roundw
              case rel => exact ⟨k + 1, by omega, by go_num, by rw [HANX.out], HHD2.out.alloc _⟩
              case measure => simp [intOf]; omega
          · obtain rfl : k = M := by omega
            rw [HTK.out]
            have hgd := HG.out
            obtain ⟨⟨a0, a1, g0, g1, b0, b1, f0, f1, l0, l1, s0, y1, y2, c0, c1, k0, k1, o0, o1⟩, stp, st, wd, clk, one, op, z1, z2, z3, z4, -⟩ := hgd
            rw [if_neg (by omega)] at z1
            have hab := Ak.answers_le p.out
            have hla := Ak.lates_le (xs.take 150)
            have hll : (xs.take 150).length ≤ 150 := by simp; omega
            have hdu : Ak.due p.st p.st.clock = (p.st.clock - start) / (1 + wid) := by unfold Ak.due Ak.dueOf; rw [st, wd]
            have hq : (p.st.clock - start).tdiv (1 + wid) = Ak.due p.st p.st.clock := by rw [hdu]; exact Int.tdiv_eq_ediv_of_nonneg (by omega)
            have sp := Ak.due_spec (show 1 ≤ 1 + wid by omega) (st ▸ c0 : start ≤ p.st.clock)
            have hsp : Ak.dueOf start (1 + wid) p.st.clock = Ak.due p.st p.st.clock := by rw [hdu]; rfl
            rw [hsp] at sp
            have HE0 := Lib.hid hhd
            clear hhd
            obtain ⟨sp0, sp1, sp2, sp3, sp4⟩ := sp
            have hop : p.st.opn = p.st.asked := by rcases op with h | h <;> omega
            have hsi : p.st.since = start + Ak.due p.st p.st.clock * (1 + wid) := by rcases op with h | h; (exact absurd h.1 (by omega)); exact h.2
            have hs1 : p.st.since ≤ p.st.clock := by omega
            have hs2 : p.st.clock - p.st.since ≤ wid := by omega
            have hs3 : decide (p.st.since ≤ p.st.clock) = true := decide_eq_true hs1
            have hs4 : decide (p.st.clock - p.st.since ≤ wid) = true := decide_eq_true hs2
            have hs5 : 0 ≤ p.st.since := by omega
            have g10 : IntKind.i64.wrap (p.st.clock - p.st.since) = p.st.clock - p.st.since := IntWalk.i64_in _ (by omega)
            clear op hsi
            generalize Ak.answers p.out = an at *
            generalize Ak.lates (xs.take 150) = la at *
            generalize Ak.due p.st p.st.clock = D at *
            have e1 : (p.st.asked == p.st.good + p.st.bad + p.st.failed + 1) = true := by simp; omega
            have e2 : (p.st.asked + p.st.skipped == 1 + D) = true := by simp; omega
            have e3 : (p.st.good + p.st.bad == an) = true := by simp; omega
            have e4 : (p.st.late == la - an) = true := by simp; omega
            have HX := Lib.hid z1
            have HE1x := Lib.hid HG.out
            have g01 : IntKind.i64.wrap (p.st.clock - start) = p.st.clock - start := IntWalk.i64_in _ (by omega)
            have g02 : IntKind.i64.wrap (1 + wid) = 1 + wid := IntWalk.i64_in _ (by omega)
            have g03 : IntKind.i64.wrap D = D := IntWalk.i64_in _ (by omega)
            have g04 : IntKind.i64.wrap (1 + D) = 1 + D := IntWalk.i64_in _ (by omega)
            have g05 : IntKind.i64.wrap (p.st.good + p.st.bad) = p.st.good + p.st.bad := IntWalk.i64_in _ (by omega)
            have g06 : IntKind.i64.wrap (p.st.good + p.st.bad + p.st.failed) = p.st.good + p.st.bad + p.st.failed := IntWalk.i64_in _ (by omega)
            have g07 : IntKind.i64.wrap (p.st.good + p.st.bad + p.st.failed + 1) = p.st.good + p.st.bad + p.st.failed + 1 := IntWalk.i64_in _ (by omega)
            have g08 : IntKind.i64.wrap (p.st.asked + p.st.skipped) = p.st.asked + p.st.skipped := IntWalk.i64_in _ (by omega)
            have g09 : IntKind.i64.wrap (la - an) = la - an := IntWalk.i64_in _ (by omega)
            clear z1 z2 z3 z4 hdu hsp sp2 sp3 sp4 o0 o1 y1 y2 one clk st wd stp
            go_wp2_with fail
            refine (clock_held HE0.out).mono ?_
            rintro e wz1 ⟨rfl, hz1⟩
            obtain ⟨-, j0, j1, j2, j3, j4, j5⟩ := Held.all hz1
            have HE1 := Lib.hid hz1
            clear hz1
            go_wp2_with fail
            refine (clock_held HE1.out).mono ?_
            rintro e wz2 ⟨rfl, hz2⟩
            have HE2 := Lib.hid hz2
            clear hz2
            go_wp2_with fail
            refine (clock_held HE2.out).mono ?_
            rintro e wz3 ⟨rfl, hz3⟩
            have HE3 := Lib.hid hz3
            clear hz3
            go_wp2
            go_ret
            exact ⟨rfl, HB1.out.trans ((Held.run HE3.out).below.mono HB1.out.size)⟩
end Go.Proofs.Ytdbknbgomcabbaa
