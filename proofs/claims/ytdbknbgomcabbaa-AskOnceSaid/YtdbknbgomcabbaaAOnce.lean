/- AskOnce, walked. Conditions: a slice of steps that reads as numbers of their types. -/
import Derived.Test.YtdbknbgomcabbaaALaws
namespace Go.Proofs.Ytdbknbgomcabbaa
open Go.RowKit

namespace Ak
theorem check_prefix {start width : Int} {l : List (Int × Int × Bool)} {r : Int × Int × Bool} (h : check start width l = some r) (k : Nat) (hk : k < l.length) {c : Int × Int × Bool} (hc : check start width (l.take k) = some c) :
    ∃ c', check1 start width c l[k] = some c' ∧ check start width (l.take (k + 1)) = some c' := by
  have e : l = l.take k ++ (l[k] :: l.drop (k + 1)) := by rw [List.getElem_cons_drop, List.take_append_drop]
  have e1 : check start width l = (check start width (l.take k)).bind fun c => (check1 start width c l[k]).bind fun c' => (l.drop (k + 1)).foldlM (check1 start width) c' := by
    conv => lhs; rw [e]
    unfold check
    rw [List.foldlM_append]
    rfl
  rw [hc, Option.bind_some, h] at e1
  have e2 : check start width (l.take (k + 1)) = check1 start width c l[k] := by
    rw [List.take_succ_eq_append_getElem hk, check_snoc, hc, Option.bind_some]
  rcases hn : check1 start width c l[k] with _ | c'
  · rw [hn] at e1; exact absurd e1 (by simp)
  · exact ⟨c', rfl, by rw [e2, hn]⟩
theorem check1_answer {start width : Int} {c c' x : Int × Int × Bool} (h : check1 start width c x = some c') (hx : x.2.2 = true) : c.2.2 = true ∧ x.1 = c.1 ∧ c.2.1 ≤ x.2.1 ∧ c' = (c.1, c.2.1, false) := by
  unfold check1 at h
  rw [if_pos hx] at h
  split at h
  · exact absurd h (by simp)
  · rename_i hq
    simp at hq h
    exact ⟨hq.1.1, hq.1.2, by omega, h.symm⟩
theorem check1_opened {start width : Int} {c c' x : Int × Int × Bool} (h : check1 start width c x = some c') (hx : x.2.2 = false) : x.1 = c.1 + 1 ∧ c.2.1 < x.2.1 ∧ (x.2.1 - start) % width = 0 ∧ c' = (x.1, x.2.1, true) := by
  unfold check1 at h
  rw [if_neg (by simp [hx])] at h
  split at h
  · exact absurd h (by simp)
  · rename_i hq
    simp at hq h
    exact ⟨hq.1.1, by omega, hq.2, h.symm⟩
end Ak

set_option maxRecDepth 100000 in
set_option maxHeartbeats 1000000 in
theorem once_any (start wid : Int) (A : Option Addr) (m c : Nat) (xs : List Ak.Step) (w : World) (h0 : 0 ≤ start) (h1 : start ≤ 4294967295) (h2 : 0 ≤ wid) (h3 : wid ≤ 4294967295) (hs : Smalls w w.heap.size A m c xs) :
    Calls Try.prog 5 #[.int .u32 start, .int .u32 wid, .slice A m c] w fun e w' => e = .returned (.bool true) ∧ Below w.heap.size w w' := by
  have hg := good_of h0 h1 h2 h3 xs hs.fit
  have c0 := awake_any w
  have HS := Lib.hid hs
  clear hs
  go_enter Try.func5, Try.ntmps5
  go_wp2_with fail
  refine c0.mono ?_
  rintro e w1 ⟨rfl, hb1⟩
  clear c0
  have HB1 := Lib.hid hb1
  clear hb1
  go_wp2_with fail
  refine (played_form start wid A m c xs w1 h0 h1 h2 h3 (HS.out.below HB1.out)).mono ?_
  rintro e w2 ⟨A', c', rfl, hr2, ho2⟩
  generalize Ak.after start (1 + wid) (xs.take 150) = p at *
  have hlen : p.out.length ≤ 301 := by have := hg.len; omega
  have hb2 : Below w.heap.size w w2 := HB1.out.trans (hr2.below.mono HB1.out.size)
  have hsz := hb2.size
  obtain ⟨ls, hev, -⟩ := hg.ev
  have HEV := Lib.hid hev
  have HRNG := Lib.hid hg.rng
  have HB2 := Lib.hid hb2
  have HO := Lib.hid ho2
  clear hg hr2 ho2 hb2 hev
  generalize p.out = l at *
  go_wp2
  go_loopw [10, 11, 12, 29] (fun a b o i wr => ∃ (k : Nat) (s : Int × Int × Bool), k ≤ l.length ∧ i = .int .i64 k ∧ a = .int .i64 s.1 ∧ b = .int .i64 s.2.1 ∧ o = .bool s.2.2 ∧ 0 ≤ s.1 ∧ s.1 ≤ 301 ∧ -1 ≤ s.2.1 ∧ s.2.1 ≤ 281474976710656 ∧ Ak.check start (1 + wid) (l.take k) = some s ∧ Below w2.heap.size w2 wr) (fun _ _ _ i _ => l.length - (intOf i).toNat)
  case atStart => exact ⟨0, (0, -1, false), Nat.zero_le _, rfl, rfl, rfl, rfl, by decide, by decide, by decide, by decide, rfl, Below.refl _ _⟩
  case round =>
    obtain ⟨k, s, hk', rfl, rfl, rfl, rfl, hs1, hs2, hs3, hs4, hck, hbr⟩ := hrel
    by_cases hlt : k < l.length
    · obtain ⟨g, rfl, hgl, hcell⟩ := out_cells HO.out k hlt
      have hrng := HRNG.out _ (List.getElem_mem hlt)
      obtain ⟨ca, cb, cc⟩ := hcell k hlt
      have c1 := (hbr.cell (p := ⟨g, k * 3, none⟩) hgl).trans ca
      have c2 := (hbr.cell (p := ⟨g, k * 3 + 1, none⟩) hgl).trans cb
      have c3 := (hbr.cell (p := ⟨g, k * 3 + 2, none⟩) hgl).trans cc
      obtain ⟨s', hn, hn2⟩ := Ak.check_prefix HEV.out k hlt hck
      have HN2 := Lib.hid hn2
      have HBR := Lib.hid hbr
      clear ca cb cc hcell hbr hck hn2
      obtain ⟨sn, sa, so⟩ := s
      generalize l[k] = x at *
      obtain ⟨xn, xa, xo⟩ := x
      dsimp only at *
      obtain ⟨r0, r1, r2, r3⟩ := hrng
      cases xo
      · obtain ⟨q1, q2, q3, rfl⟩ := Ak.check1_opened hn rfl
        dsimp only at q1 q2 q3
        have t1 : (xn != sn + 1) = false := by simp; omega
        have t2 : decide (xa ≤ sa) = false := by simp; omega
        have t3 : ((xa - start).tmod (1 + wid) != 0) = false := by
          simp only [bne_eq_false_iff_eq]
          exact Int.tmod_eq_zero_of_dvd (Int.dvd_of_emod_eq_zero q3)
        clear hn q3
        go_wp2
        go_quiet (fail)
        go_wp2
        go_roundw
        case rel => exact ⟨k + 1, (xn, xa, true), by omega, by go_num, by first | rfl | (dsimp only; rw [q1]), rfl, rfl, by dsimp only; omega, by dsimp only; omega, by dsimp only; omega, by dsimp only; omega, HN2.out, (by repeat (first | exact HBR.out | refine Below.drew ?_ | refine below_drewN ?_ _ | refine Below.alloc ?_ (by have := HBR.out.size; first | exact this | (simp; done) | (simp; omega)) _))⟩
        case measure => simp [intOf]; omega
      · obtain ⟨q1, q2, q3, rfl⟩ := Ak.check1_answer hn rfl
        dsimp only at q1 q2 q3
        subst q2
        have t1 : decide (xa < sa) = false := by simp; omega
        subst q1
        clear hn
        go_wp2
        go_roundw
        case rel => exact ⟨k + 1, (xn, sa, false), by omega, by go_num, by first | rfl | (dsimp only; rw [q1]), rfl, rfl, by dsimp only; omega, by dsimp only; omega, by dsimp only; omega, by dsimp only; omega, HN2.out, (by repeat (first | exact HBR.out | refine Below.drew ?_ | refine below_drewN ?_ _ | refine Below.alloc ?_ (by have := HBR.out.size; first | exact this | (simp; done) | (simp; omega)) _))⟩
        case measure => simp [intOf]; omega
    · have hb3 : Below w.heap.size w wr := HB2.out.trans (hbr.mono hsz)
      have HB3 := Lib.hid hb3
      clear hb3 hbr
      go_wp2
      go_ret
      exact ⟨rfl, HB3.out⟩
end Go.Proofs.Ytdbknbgomcabbaa
