/- The reference's functions, walked: Right, Ready, Next, Move, Offer, Clear. Conditions: the reference's state in memory, numbers in bounds. -/
import Derived.Test.YthbefhpgpebkgaaRows
import Derived.Test.YthbefhpgpebkgaaRefMem
import Derived.WalkSpells
import Derived.WalkLawsBesides
import Derived.BigQuiet
import Derived.IntWalk
import Derived.Outline
import Derived.Lib.Hide
namespace Go.Proofs.Ythbefhpgpebkgaa
open Go.RowKit

theorem made_at {w : World} {g : Nat} (t : TypeId) (cs : Array Value) (h : w.heap.size = g) : Has (w.alloc (.cells cs t)) g t cs := h ▸ Has.made w t cs

theorem below_set {B : Nat} {w w1 : World} (h : Below B w w1) (g i : Nat) (u : Value) (hg : B ≤ g) : Below B w (w1.setCell ⟨g, i, none⟩ u) := h.setCell (p := ⟨g, i, none⟩) hg u

theorem rright_any (n : Int) (w : World) : Calls Try.prog 48 #[.int .i64 n] w fun e w' => e = .returned (.bool (decide (0 ≤ n) && decide (n ≤ 1048576))) ∧ w = w' := by
  rcases h0 : decide (0 ≤ n) with _ | _
  · go_enter Try.func48, Try.ntmps48
    go_wp2
    go_ret
    exact ⟨rfl, rfl⟩
  · rcases h1 : decide (n ≤ 1048576) with _ | _
    · go_enter Try.func48, Try.ntmps48
      go_wp2
      go_ret
      exact ⟨rfl, rfl⟩
    · go_enter Try.func48, Try.ntmps48
      go_wp2
      go_ret
      exact ⟨rfl, rfl⟩

section
variable {base : Nat} {N : Int} {s : Thr.St Int} {hs : List Int} {wv hv : Value} {w : World}

set_option maxHeartbeats 1000000 in
theorem rready_any (hr : Ref w base s hs wv hv) (hk : Thr.Ok N s) :
    Calls Try.prog 67 #[.agg #[.int .i64 s.width, .int .i64 s.now, wv, hv, .int .i64 s.offered, .int .i64 s.lost]] w fun e w' => e = .returned (.bool (Thr.ready s)) ∧ Below w.heap.size w w' := by
  have hbl : Below w.heap.size w (w.alloc (.cells (rcells s wv hv) 81)) := (Below.refl _ _).alloc (Nat.le_refl _) _
  have HBL := Lib.hid hbl
  clear hbl
  rcases hr.wait with ⟨h1, rfl⟩ | ⟨h1, b, h2, rfl, h3⟩
  · have HE : Hid (Thr.ready s = false) := by show _ = _; simp [Thr.ready, h1]
    clear h1 hr hk
    go_enter Try.func67, Try.ntmps67
    go_wp2
    go_ret
    exact ⟨by rw [HE.out]; rfl, HBL.out⟩
  · have HE := Lib.hid (Thr.ready_iff hk h1)
    rcases hr.last_ with ⟨h4, h5, rfl⟩ | ⟨k, g, cap, h4, h5, rfl, h6, h7, h8, h9, h10⟩
    · have HE2 : Hid (Thr.ready s = true) := by show _ = _; rw [HE.out, h4]; rfl
      clear HE h1 h2 h3 h4 h5 hr hk
      go_enter Try.func67, Try.ntmps67
      go_wp2
      go_quiet (fail)
      go_wp2
      go_ret
      exact ⟨by rw [HE2.out]; rfl, below_drewN HBL.out _⟩
    · obtain ⟨q, hq⟩ : ∃ q, decide (s.width ≤ s.now - s.last) = q := ⟨_, rfl⟩
      have HE2 : Hid (Thr.ready s = q) := by show _ = _; rw [HE.out, h4, hq]; rfl
      obtain ⟨i0, i1, i2, i3, i4, i5, -, -, -, -, -, -⟩ := hk
      clear HE h1 h2 h3 h4 h5 hr
      have g1 : IntKind.i64.wrap (s.now - s.last) = s.now - s.last := IntWalk.i64_in _ (by omega)
      have g2 : IntKind.i64.wrap (k : Int) = (k : Int) := IntWalk.i64_in _ (by omega)
      have g3 : (0 : Int) ≤ (k : Int) := by omega
      have g4 : (k : Int) < (k : Int) + 1 := by omega
      go_enter Try.func67, Try.ntmps67
      go_wp2
      go_quiet (fail)
      go_wp2
      go_ret
      exact ⟨by rw [HE2.out]; rfl, below_drewN HBL.out _⟩

set_option maxHeartbeats 1000000 in
theorem rnext_any (hr : Ref w base s hs wv hv) (hk : Thr.Ok N s) :
    Calls Try.prog 66 #[.agg #[.int .i64 s.width, .int .i64 s.now, wv, hv, .int .i64 s.offered, .int .i64 s.lost]] w fun e w' => e = .returned (.tuple #[.int .i64 (Thr.nextAt s), .bool s.waits]) ∧ Below w.heap.size w w' := by
  have hbl : Below w.heap.size w (w.alloc (.cells (rcells s wv hv) 81)) := (Below.refl _ _).alloc (Nat.le_refl _) _
  have hh : Has (w.alloc (.cells (rcells s wv hv) 81)) w.heap.size 81 (rcells s wv hv) := Has.made _ _ _
  rcases hr.wait with ⟨h1, rfl⟩ | ⟨h1, b, h2, rfl, h3⟩
  · have HE : Hid (Thr.nextAt s = 0 ∧ s.waits = false) := by show _ ∧ _; exact ⟨by simp [Thr.nextAt, h1], h1⟩
    have HBL := Lib.hid hbl
    clear h1 hr hk hbl hh
    go_enter Try.func66, Try.ntmps66
    go_wp2
    go_ret2
    exact ⟨by rw [HE.out.1, HE.out.2]; rfl, HBL.out⟩
  · have hon := hr.on_ hbl
    have hl := hon.last_
    have HN : Hid (Thr.nextAt s = if s.handed then max s.now (s.last + s.width) else s.now) := by show _ = _; simp [Thr.nextAt, h1]
    have HW := Lib.hid h1
    have hq := Thr.ready_iff hk h1
    have HR := Lib.hid (rready_any hon hk)
    obtain ⟨i0, i1, i2, i3, i4, i5, -, -, -, -, -, -⟩ := hk
    rcases hq0 : Thr.ready s with _ | _
    · rw [hq0] at hq
      rcases hl with ⟨h4, h5, rfl⟩ | ⟨k, g, cap, h4, h5, rfl, h6, h7, h8, h9, h10⟩
      · simp [h4] at hq
      · have hlt : s.now < s.last + s.width := by rw [h4] at hq; simp at hq; omega
        have HN2 : Hid (Thr.nextAt s = s.last + s.width) := by show _ = _; rw [HN.out, h4]; simp; omega
        rw [hq0] at HR
        have HH := Lib.hid hh
        have HC := Lib.hid h10
        have HBL := Lib.hid hbl
        clear HN hq h1 h2 h3 h4 h5 hr hon hbl hh hq0 h10
        go_enter Try.func66, Try.ntmps66
        go_wp2_with fail
        refine HR.out.mono ?_
        rintro e w2 ⟨rfl, hb2⟩
        have c0 : w2.cell? ⟨w.heap.size, 0, none⟩ = some (.int .i64 s.width) := (HH.out.below hb2 (by simp)).cell 0
        have c3 : w2.cell? ⟨w.heap.size, 3, none⟩ = some (.slice (some ⟨g, 0, none⟩) (k + 1) cap) := (HH.out.below hb2 (by simp)).cell 3
        have c4 : w2.cell? ⟨g, k, none⟩ = some (.int .i64 s.last) := (hb2.cell (p := ⟨g, k, none⟩) (by simpa using h9)).trans HC.out
        have HB2 := Lib.hid (HBL.out.trans (hb2.mono HBL.out.size))
        clear hb2 h9
        have g1 : IntKind.i64.wrap (s.last + s.width) = s.last + s.width := IntWalk.i64_in _ (by omega)
        have g2 : IntKind.i64.wrap (k : Int) = (k : Int) := IntWalk.i64_in _ (by omega)
        have g3 : (0 : Int) ≤ (k : Int) := by omega
        have g4 : (k : Int) < (k : Int) + 1 := by omega
        go_wp2
        go_quiet (fail)
        go_wp2
        go_ret2
        exact ⟨by rw [HN2.out, HW.out]; rfl, below_drewN HB2.out _⟩
    · have HN2 : Hid (Thr.nextAt s = s.now) := by
        show _ = _
        simp [Thr.ready] at hq0
        exact hq0.2
      rw [hq0] at HR
      have HH := Lib.hid hh
      have HBL := Lib.hid hbl
      clear HN hq h1 h2 h3 hr hon hl hbl hh hq0
      go_enter Try.func66, Try.ntmps66
      go_wp2_with fail
      refine HR.out.mono ?_
      rintro e w2 ⟨rfl, hb2⟩
      have c1 : w2.cell? ⟨w.heap.size, 1, none⟩ = some (.int .i64 s.now) := (HH.out.below hb2 (by simp)).cell 1
      have HB2 := Lib.hid (HBL.out.trans (hb2.mono HBL.out.size))
      clear hb2
      go_wp2
      go_ret2
      exact ⟨by rw [HN2.out, HW.out]; rfl, HB2.out⟩

set_option maxHeartbeats 1000000 in
theorem rmove_any (now : Int) (hr : Ref w base s hs wv hv) :
    Calls Try.prog 62 #[.agg #[.int .i64 s.width, .int .i64 s.now, wv, hv, .int .i64 s.offered, .int .i64 s.lost], .int .i64 now] w fun e w' => e = .returned (.tuple #[.agg (rcells (Thr.move s now) wv hv), .int .i64 (Thr.moveErr s now)]) ∧ Ref w' base (Thr.move s now) hs wv hv ∧ Below w.heap.size w w' := by
  have HR : Hid (∀ w', Below w.heap.size w w' → Ref w' base (Thr.move s now) hs wv hv ∧ Below w.heap.size w w') := Lib.hid fun w' k => ⟨(hr.moved now).on_ k, k⟩
  obtain ⟨A1, m1, c1, rfl⟩ := hr.wshape
  obtain ⟨A2, c2, rfl⟩ := hr.hshape
  clear hr
  generalize hs.length = m2 at *
  rcases (show now < s.now ∨ ¬ now < s.now by omega) with h | h
  · have hd : decide (now < s.now) = true := by simpa using h
    have HE : Hid (Thr.move s now = s ∧ Thr.moveErr s now = 310) := by show _ ∧ _; simp [Thr.move, Thr.moveErr, Thr.moveOk, h]
    clear h
    go_enter Try.func62, Try.ntmps62
    go_wp2
    exact bodyPost_ret (v := .tuple #[.agg #[.int .i64 s.width, .int .i64 s.now, .slice A1 m1 c1, .slice A2 m2 c2, .int .i64 s.offered, .int .i64 s.lost], .int .i64 310]) (by simp [results, Try.results62, go_sem]) rfl ⟨by rw [HE.out.1, HE.out.2]; rfl, HR.out _ (by repeat (first | exact Below.refl _ _ | refine Below.drew ?_ | refine below_drewN ?_ _ | refine Below.alloc ?_ (by first | exact Nat.le_refl _ | (simp; done) | (simp; omega)) _ | refine Below.setCell ?_ (by first | exact Nat.le_refl _ | (simp; done) | (simp; omega)) _))⟩
  · have hd : decide (now < s.now) = false := by simpa using h
    rcases hd2 : decide (281474976710656 < now) with _ | _
    · have HE : Hid (Thr.move s now = { s with now := now } ∧ Thr.moveErr s now = 0) := by show _ ∧ _; simp only [Thr.move, Thr.moveErr, Thr.moveOk, hd, hd2]; exact ⟨rfl, rfl⟩
      clear h
      go_enter Try.func62, Try.ntmps62
      go_wp2
      exact bodyPost_ret (v := .tuple #[.agg #[.int .i64 s.width, .int .i64 now, .slice A1 m1 c1, .slice A2 m2 c2, .int .i64 s.offered, .int .i64 s.lost], .int .i64 0]) (by simp [results, Try.results62, go_sem]) rfl ⟨by rw [HE.out.1, HE.out.2]; rfl, HR.out _ (by repeat (first | exact Below.refl _ _ | refine Below.drew ?_ | refine below_drewN ?_ _ | refine Below.alloc ?_ (by first | exact Nat.le_refl _ | (simp; done) | (simp; omega)) _ | refine Below.setCell ?_ (by first | exact Nat.le_refl _ | (simp; done) | (simp; omega)) _))⟩
    · have HE : Hid (Thr.move s now = s ∧ Thr.moveErr s now = 310) := by show _ ∧ _; simp only [Thr.move, Thr.moveErr, Thr.moveOk, hd, hd2]; exact ⟨rfl, rfl⟩
      clear h
      go_enter Try.func62, Try.ntmps62
      go_wp2
      exact bodyPost_ret (v := .tuple #[.agg #[.int .i64 s.width, .int .i64 s.now, .slice A1 m1 c1, .slice A2 m2 c2, .int .i64 s.offered, .int .i64 s.lost], .int .i64 310]) (by simp [results, Try.results62, go_sem]) rfl ⟨by rw [HE.out.1, HE.out.2]; rfl, HR.out _ (by repeat (first | exact Below.refl _ _ | refine Below.drew ?_ | refine below_drewN ?_ _ | refine Below.alloc ?_ (by first | exact Nat.le_refl _ | (simp; done) | (simp; omega)) _ | refine Below.setCell ?_ (by first | exact Nat.le_refl _ | (simp; done) | (simp; omega)) _))⟩

set_option maxHeartbeats 1000000 in
theorem roffer_any (x : Int) (hr : Ref w base s hs wv hv) (hk : Thr.Ok N s) (hN : N ≤ 1000000000) (hb : base ≤ w.heap.size) :
    Calls Try.prog 63 #[.agg #[.int .i64 s.width, .int .i64 s.now, wv, hv, .int .i64 s.offered, .int .i64 s.lost], .int .i64 x] w fun e w' => ∃ A m c, e = .returned (.agg (rcells (Thr.offer s x) (.slice A m c) hv)) ∧ Ref w' base (Thr.offer s x) hs (.slice A m c) hv ∧ Below w.heap.size w w' ∧ Later w wv hv (.slice A m c) hv := by
  have HR : Hid (∀ w' b, Below w.heap.size w w' → w.heap.size ≤ b → Has w' b 3 #[.int .i64 x] → Ref w' base (Thr.offer s x) hs (.slice (some ⟨b, 0, none⟩) 1 1) hv ∧ Below w.heap.size w w' ∧ Later w wv hv (.slice (some ⟨b, 0, none⟩) 1 1) hv) :=
    Lib.hid fun w' b k hb2 h => ⟨⟨Or.inr ⟨rfl, b, by omega, rfl, h⟩, (hr.on_ k).own, hr.nil_, hr.rf.offer_ x⟩, k, fun g hg ha => ⟨by simp [Value.ownBlock]; omega, ha.2⟩⟩
  obtain ⟨A2, c2, rfl⟩ := hr.hshape
  have hw := hr.wait
  clear hr
  generalize hs.length = m2 at *
  obtain ⟨-, -, -, -, -, -, i6, i7, -, -, i10, i11⟩ := hk
  rcases hw with ⟨h1, rfl⟩ | ⟨h1, b, h2, rfl, h3⟩
  · have HE : Hid (Thr.offer s x = { s with waits := true, v := x, lost := s.lost, offered := s.offered + 1 }) := by show _ = _; simp [Thr.offer, h1]
    clear h1
    go_enter Try.func63, Try.ntmps63
    go_wp2
    exact bodyPost_ret (v := .agg #[.int .i64 s.width, .int .i64 s.now, .slice (some ⟨w.heap.size + 1 + 1, 0, none⟩) 1 1, .slice A2 m2 c2, .int .i64 (s.offered + 1), .int .i64 s.lost]) (by simp [results, Try.results63, go_sem]) rfl ⟨_, _, _, by rw [HE.out]; rfl, HR.out _ _ (by repeat (first | exact Below.refl _ _ | refine Below.drew ?_ | refine below_drewN ?_ _ | refine Below.alloc ?_ (by first | exact Nat.le_refl _ | (simp; done) | (simp; omega)) _ | refine Below.setCell ?_ (by first | exact Nat.le_refl _ | (simp; done) | (simp; omega)) _)) (by omega) ((made_at _ _ (by simp)))⟩
  · have HE : Hid (Thr.offer s x = { s with waits := true, v := x, lost := s.lost + 1, offered := s.offered + 1 }) := by show _ = _; simp [Thr.offer, h1]
    clear h1 h3
    go_enter Try.func63, Try.ntmps63
    go_wp2
    exact bodyPost_ret (v := .agg #[.int .i64 s.width, .int .i64 s.now, .slice (some ⟨w.heap.size + 1 + 1, 0, none⟩) 1 1, .slice A2 m2 c2, .int .i64 (s.offered + 1), .int .i64 (s.lost + 1)]) (by simp [results, Try.results63, go_sem]) rfl ⟨_, _, _, by rw [HE.out]; rfl, HR.out _ _ (by repeat (first | exact Below.refl _ _ | refine Below.drew ?_ | refine below_drewN ?_ _ | refine Below.alloc ?_ (by first | exact Nat.le_refl _ | (simp; done) | (simp; omega)) _ | refine Below.setCell ?_ (by first | exact Nat.le_refl _ | (simp; done) | (simp; omega)) _)) (by omega) ((made_at _ _ (by simp)))⟩

set_option maxHeartbeats 1000000 in
theorem rclear_any (hr : Ref w base s hs wv hv) (hk : Thr.Ok N s) (hN : N ≤ 1000000000) :
    Calls Try.prog 65 #[.agg #[.int .i64 s.width, .int .i64 s.now, wv, hv, .int .i64 s.offered, .int .i64 s.lost]] w fun e w' => e = .returned (.tuple #[.agg (rcells (Thr.clear 0 s) (.slice none 0 0) hv), .bool s.waits]) ∧ Ref w' base (Thr.clear 0 s) hs (.slice none 0 0) hv ∧ Below w.heap.size w w' ∧ Later w wv hv (.slice none 0 0) hv := by
  have HR : Hid (∀ w', Below w.heap.size w w' → Ref w' base (Thr.clear 0 s) hs (.slice none 0 0) hv ∧ Below w.heap.size w w' ∧ Later w wv hv (.slice none 0 0) hv) :=
    Lib.hid fun w' k => ⟨⟨Or.inl ⟨rfl, rfl⟩, (hr.on_ k).own, hr.nil_, hr.rf.clear_⟩, k, fun g _ ha => ⟨by simp [Value.ownBlock], ha.2⟩⟩
  obtain ⟨A2, c2, rfl⟩ := hr.hshape
  have hw := hr.wait
  clear hr
  generalize hs.length = m2 at *
  obtain ⟨-, -, -, -, -, -, i6, i7, -, -, i10, i11⟩ := hk
  rcases hw with ⟨h1, rfl⟩ | ⟨h1, b, h2, rfl, h3⟩
  · have HE : Hid (Thr.clear 0 s = { s with waits := false, lost := s.lost } ∧ s.waits = false) := by show _ ∧ _; simp [Thr.clear, h1]
    clear h1
    go_enter Try.func65, Try.ntmps65
    go_wp2
    exact bodyPost_ret (v := .tuple #[.agg #[.int .i64 s.width, .int .i64 s.now, .slice none 0 0, .slice A2 m2 c2, .int .i64 s.offered, .int .i64 s.lost], .bool false]) (by simp [results, Try.results65, go_sem]) rfl ⟨by rw [HE.out.1, HE.out.2]; rfl, HR.out _ (by repeat (first | exact Below.refl _ _ | refine Below.drew ?_ | refine below_drewN ?_ _ | refine Below.alloc ?_ (by first | exact Nat.le_refl _ | (simp; done) | (simp; omega)) _ | refine Below.setCell ?_ (by first | exact Nat.le_refl _ | (simp; done) | (simp; omega)) _))⟩
  · have HE : Hid (Thr.clear 0 s = { s with waits := false, v := 0, lost := s.lost + 1 } ∧ s.waits = true) := by show _ ∧ _; simp [Thr.clear, h1]
    clear h1 h3
    go_enter Try.func65, Try.ntmps65
    go_wp2
    exact bodyPost_ret (v := .tuple #[.agg #[.int .i64 s.width, .int .i64 s.now, .slice none 0 0, .slice A2 m2 c2, .int .i64 s.offered, .int .i64 (s.lost + 1)], .bool true]) (by simp [results, Try.results65, go_sem]) rfl ⟨by rw [HE.out.1, HE.out.2]; rfl, HR.out _ (by repeat (first | exact Below.refl _ _ | refine Below.drew ?_ | refine below_drewN ?_ _ | refine Below.alloc ?_ (by first | exact Nat.le_refl _ | (simp; done) | (simp; omega)) _ | refine Below.setCell ?_ (by first | exact Nat.le_refl _ | (simp; done) | (simp; omega)) _))⟩

end
end Go.Proofs.Ythbefhpgpebkgaa
