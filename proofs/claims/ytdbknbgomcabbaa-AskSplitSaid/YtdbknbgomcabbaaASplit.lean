/- AskSplit, walked. Conditions: a slice of steps that reads as numbers of their types, and numbers of ticks of their types. -/
import Derived.Test.YtdbknbgomcabbaaAHeld
namespace Go.Proofs.Ytdbknbgomcabbaa
open Go.RowKit

namespace Ak
/-- A clock that moves to Y at once, and by way of X. -/
structure Sp (s : St) (X Y : Int) (n m1 m2 : Int) (o t : St) : Prop where
  eo : move s Y = o
  et : move (move s X) Y = t
  n1 : number s Y = n
  k1 : number s X = m1
  k2 : number (move s X) Y = m2
  f1 : moveErr s Y = 0
  f2 : moveErr s X = 0
  f3 : moveErr (move s X) Y = 0

theorem moveOk_of {s : St} {X : Int} (h : s.clock ≤ X) (h1 : X ≤ 281474976710656) : moveOk s X = true := by
  unfold moveOk
  rw [decide_eq_false (by omega), decide_eq_false (by omega)]
  rfl

theorem move_shut {s : St} {X : Int} (h : s.clock ≤ X) (h1 : X ≤ 281474976710656) (hd : due s X = due s s.clock) : move s X = { s with clock := X } ∧ number s X = 0 ∧ moveErr s X = 0 := by
  have mk := moveOk_of h h1
  have op : opens s X = false := by unfold opens steps; rw [hd, decide_eq_true (by omega)]; simp
  refine ⟨?_, ?_, ?_⟩
  · unfold move; rw [mk, op]; rfl
  · unfold number; rw [op]; rfl
  · unfold moveErr; rw [mk]; rfl

theorem move_opens {s : St} {X : Int} (h : s.clock ≤ X) (h1 : X ≤ 281474976710656) (hs : s.stopped = false) (hd : due s X ≠ due s s.clock) : move s X = opened s X ∧ number s X = s.asked + 1 ∧ moveErr s X = 0 := by
  have mk := moveOk_of h h1
  have op : opens s X = true := by unfold opens steps; rw [mk, hs, decide_eq_false (by omega)]; rfl
  refine ⟨?_, ?_, ?_⟩
  · unfold move; rw [mk, op]; rfl
  · unfold number; rw [op]; rfl
  · unfold moveErr; rw [mk]; rfl

theorem steps_after {s : St} {X Y : Int} : (opened { s with clock := X } Y) = opened s Y ∨ due s X ≠ due s s.clock := by
  rcases Decidable.em (due s X = due s s.clock) with h | h
  · refine Or.inl ?_
    unfold opened steps
    rw [show due { s with clock := X } Y = due s Y from rfl, show due { s with clock := X } ({ s with clock := X } : St).clock = due s X from rfl, h]
  · exact Or.inr h

theorem split_of {s : St} {X Y : Int} (h0 : s.clock ≤ X) (h1 : X ≤ Y) (h2 : Y ≤ 281474976710656) (hs : s.stopped = false) (ha : 0 ≤ s.asked) (hm : due s s.clock ≤ due s X) (hm2 : due s X ≤ due s Y) :
    ∃ (n m1 m2 : Int) (o t : St), Sp s X Y n m1 m2 o t ∧
      ((0 < m1 ∧ 0 < m2 ∧ o.asked = s.asked + 1 ∧ o.opn = s.asked + 1 ∧ t.asked = s.asked + 2 ∧ t.opn = s.asked + 2 ∧ t.since = o.since ∧ t.skipped = o.skipped - 1 ∧ t.failed = o.failed + 1 ∧ n = s.asked + 1 ∧ m1 = s.asked + 1 ∧ m2 = s.asked + 2) ∨
       (t = o ∧ (if m2 < m1 then m1 else m2) = n ∧ ((0 < m1 ∧ m2 = 0) ∨ (m1 = 0 ∧ n = m2 ∧ 0 ≤ m2)))) := by
  have dd : ∀ q r, due { s with clock := q } r = due s r := fun _ _ => rfl
  have dd2 : ∀ q r, due (opened s q) r = due s r := fun _ _ => rfl
  rcases Decidable.em (due s X = due s s.clock) with hx | hx
  · obtain ⟨a1, a2, a3⟩ := move_shut h0 (by omega) hx
    rcases Decidable.em (due s Y = due s s.clock) with hy | hy
    · obtain ⟨b1, b2, b3⟩ := move_shut (show s.clock ≤ Y by omega) h2 hy
      obtain ⟨c1, c2, c3⟩ := move_shut (s := { s with clock := X }) (X := Y) h1 h2 (by rw [dd, dd, hy]; exact hx.symm)
      exact ⟨0, 0, 0, _, _, ⟨b1, (congrArg (fun z => move z Y) a1).trans c1, b2, a2, (congrArg (fun z => number z Y) a1).trans c2, b3, a3, (congrArg (fun z => moveErr z Y) a1).trans c3⟩, Or.inr ⟨rfl, rfl, Or.inr ⟨rfl, rfl, Int.le_refl _⟩⟩⟩
    · obtain ⟨b1, b2, b3⟩ := move_opens (show s.clock ≤ Y by omega) h2 hs hy
      obtain ⟨c1, c2, c3⟩ := move_opens (s := { s with clock := X }) (X := Y) h1 h2 hs (by rw [dd, dd]; show due s Y ≠ due s X; rw [hx]; exact hy)
      refine ⟨_, 0, _, _, _, ⟨b1, (congrArg (fun z => move z Y) a1).trans c1, b2, a2, (congrArg (fun z => number z Y) a1).trans c2, b3, a3, (congrArg (fun z => moveErr z Y) a1).trans c3⟩, Or.inr ⟨?_, if_neg (show ¬ s.asked + 1 < 0 by omega), Or.inr ⟨rfl, rfl, show 0 ≤ s.asked + 1 by omega⟩⟩⟩
      rcases steps_after (s := s) (X := X) (Y := Y) with h | h
      · exact h
      · exact absurd hx h
  · obtain ⟨a1, a2, a3⟩ := move_opens h0 (by omega) hs hx
    obtain ⟨b1, b2, b3⟩ := move_opens (show s.clock ≤ Y by omega) h2 hs (show due s Y ≠ due s s.clock by omega)
    rcases Decidable.em (due s Y = due s X) with hy | hy
    · obtain ⟨c1, c2, c3⟩ := move_shut (s := opened s X) (X := Y) h1 h2 (by rw [dd2, dd2, hy]; rfl)
      refine ⟨_, _, 0, _, _, ⟨b1, (congrArg (fun z => move z Y) a1).trans c1, b2, a2, (congrArg (fun z => number z Y) a1).trans c2, b3, a3, (congrArg (fun z => moveErr z Y) a1).trans c3⟩, Or.inr ⟨?_, if_pos (by omega), Or.inl ⟨by omega, rfl⟩⟩⟩
      unfold opened steps
      rw [hy]
    · obtain ⟨c1, c2, c3⟩ := move_opens (s := opened s X) (X := Y) h1 h2 hs (by rw [dd2, dd2]; exact hy)
      refine ⟨_, _, _, _, _, ⟨b1, (congrArg (fun z => move z Y) a1).trans c1, b2, a2, (congrArg (fun z => number z Y) a1).trans c2, b3, a3, (congrArg (fun z => moveErr z Y) a1).trans c3⟩, Or.inl ⟨by omega, ?_, rfl, rfl, ?_, ?_, rfl, ?_, ?_, rfl, rfl, ?_⟩⟩
      · show 0 < s.asked + 1 + 1; omega
      · show s.asked + 1 + 1 = s.asked + 2; omega
      · show s.asked + 1 + 1 = s.asked + 2; omega
      · show s.skipped + (due s X - due s s.clock - 1) + (due s Y - due s X - 1) = s.skipped + (due s Y - due s s.clock - 1) - 1; omega
      · show (if s.asked + 1 = 0 then _ else (if s.opn = 0 then s.failed else s.failed + 1) + 1) = (if s.opn = 0 then s.failed else s.failed + 1) + 1
        rw [if_neg (by omega)]
      · show s.asked + 1 + 1 = s.asked + 2; omega
end Ak

/-- Two Asks, and a kept tally. -/
structure Duo (W0 : World) (a b : Nat) (N M : Int) (s r : Ak.St) (c : Nat) (t : Ak.St) (W : World) : Prop where
  one : Run W0 W a N s
  two : Run W0 W b M r
  tal : Has W c 30 (tcells t)
  ab : a ≠ b
  ac : a ≠ c
  bc : b ≠ c
section
variable {W0 W W' : World} {a b c : Nat} {N M : Int} {s r t : Ak.St}
theorem Duo.swap (h : Duo W0 a b N M s r c t W) : Duo W0 b a M N r s c t W := ⟨h.two, h.one, h.tal, fun e => h.ab e.symm, h.bc, h.ac⟩
theorem Duo.on (h : Duo W0 a b N M s r c t W) (k : Below W.heap.size W W') : Duo W0 a b N M s r c t W' := ⟨h.one.on_ k, h.two.on_ k, h.tal.below k (Has.lt h.tal), h.ab, h.ac, h.bc⟩
theorem counts_duo (h : Duo W0 a b N M s r c t W) :
    Calls Try.prog 19 #[.pointer (some ⟨a, 0, none⟩)] W fun e w' => e = .returned (.agg #[.int .i64 s.asked, .int .i64 s.good, .int .i64 s.bad, .int .i64 s.failed, .int .i64 s.skipped, .int .i64 s.late]) ∧ Duo W0 a b N M s r c t w' :=
  (counts_run h.one).mono fun _ _ ⟨he, _, k⟩ => ⟨he, h.on k⟩
theorem clock_duo (h : Duo W0 a b N M s r c t W) :
    Calls Try.prog 16 #[.pointer (some ⟨a, 0, none⟩)] W fun e w' => e = .returned (.int .i64 s.clock) ∧ Duo W0 a b N M s r c t w' :=
  (clock_run h.one).mono fun _ _ ⟨he, _, k⟩ => ⟨he, h.on k⟩
theorem open_duo (h : Duo W0 a b N M s r c t W) :
    Calls Try.prog 14 #[.pointer (some ⟨a, 0, none⟩)] W fun e w' => e = .returned (.tuple #[.int .i64 s.opn, .int .i64 s.since]) ∧ Duo W0 a b N M s r c t w' ∧ Below W.heap.size W w' :=
  (open_run h.one).mono fun _ _ ⟨he, _, k⟩ => ⟨he, h.on k, k⟩
theorem size_of (w : World) (o : Obj) : (w.alloc o).heap.size = w.heap.size + 1 := Array.size_push _
theorem tallied (h : Duo W0 a b N M s r c t W) (o q : Ak.St) : Duo W0 a b N M s r c t ((W.alloc (.cells (tcells o) 30)).alloc (.cells (tcells q) 30)) :=
  h.on (((Below.refl W.heap.size W).alloc (Nat.le_refl _) _).alloc (by rw [size_of]; omega) _)
theorem move_duo (now n f : Int) (u : Ak.St) (h : Duo W0 a b N M s r c t W) (hN : N ≤ 1000000000) (hn : Ak.number s now = n) (hf : Ak.moveErr s now = f) (hu : Ak.move s now = u) :
    Calls Try.prog 13 #[.pointer (some ⟨a, 0, none⟩), .int .i64 now] W fun e w' => e = .returned (.tuple #[.int .i64 n, .int .i64 f]) ∧ Duo W0 a b (N + 1) M u r c t w' :=
  (move_run now h.one hN).mono fun _ _ ⟨he, k, g⟩ => ⟨by rw [he, hn, hf], ⟨hu ▸ k, ⟨h.two.base, k.below, h.two.at_.grown g (fun e => h.ab (by injection e with e; exact e.symm)), h.two.ok⟩, h.tal.grown g (fun e => h.ac (by injection e with e; exact e.symm)), h.ab, h.ac, h.bc⟩⟩
end

set_option maxRecDepth 100000 in
set_option maxHeartbeats 8000000 in
theorem split_any (start wid : Int) (A : Option Addr) (m c : Nat) (xs : List Ak.Step) (x y : Int) (w : World) (h0 : 0 ≤ start) (h1 : start ≤ 4294967295) (h2 : 0 ≤ wid) (h3 : wid ≤ 4294967295) (hs : Smalls w w.heap.size A m c xs) (hx0 : 0 ≤ x) (hx1 : x ≤ 4294967295) (hy0 : 0 ≤ y) (hy1 : y ≤ 4294967295) :
    Calls Try.prog 7 #[.int .u32 start, .int .u32 wid, .slice A m c, .int .u32 x, .int .u32 y] w fun e w' => e = .returned (.bool true) ∧ Below w.heap.size w w' := by
  have hg := good_of h0 h1 h2 h3 xs hs.fit
  have c0 := awake_any w
  have HS := Lib.hid hs
  clear hs
  go_enter Try.func7, Try.ntmps7
  go_wp2_with fail
  refine c0.mono ?_
  rintro e w1 ⟨rfl, hb1⟩
  clear c0
  have HB1 := Lib.hid hb1
  clear hb1
  go_wp2_with fail
  refine (played_form start wid A m c xs w1 h0 h1 h2 h3 (HS.out.below HB1.out)).mono ?_
  rintro e w2 ⟨A', c', rfl, hr2, -⟩
  have HR2 := Lib.hid hr2
  clear hr2
  go_wp2_with fail
  refine (played_form start wid A m c xs w2 h0 h1 h2 h3 (HS.out.below (HB1.out.trans (HR2.out.below.mono HB1.out.size)))).mono ?_
  rintro e w3 ⟨A2, c2, rfl, hr3, -⟩
  have HR3 := Lib.hid hr3
  clear hr3
  generalize Ak.after start (1 + wid) (xs.take 150) = p at *
  have hsp := Ak.split_of (s := p.st) (X := p.st.clock + x) (Y := p.st.clock + x + y) (by omega) (by omega) (by have := hg.clk; omega) hg.stp hg.ok.a0 (Ak.due_mono hg.ok.w1 (by omega)) (Ak.due_mono hg.ok.w1 (by omega))
  obtain ⟨n, m1, m2, o, t, hsp, hor⟩ := hsp
  have hcl0 := hg.ok.c0
  have hcl1 := hg.clk
  have hcl2 := hg.ok.s0
  have ha0 := hg.ok.a0
  have ha1 := hg.ok.a1
  have HSP := Lib.hid hsp
  have HOR := Lib.hid hor
  have hb3 : Below w2.heap.size w2 w3 := HR3.out.below
  have hab : w1.heap.size ≠ w2.heap.size := by have := Has.lt HR2.out.at_; omega
  have HD3 : Hid (∀ (c : Nat) (W : World), Has W c 30 (tcells p.st) → w1.heap.size ≠ c → w2.heap.size ≠ c → Below w3.heap.size w3 W → Duo w1 w1.heap.size w2.heap.size 1000 1000 p.st p.st c p.st W) :=
    Lib.hid fun c W hc e1 e2 hb => ⟨(HR2.out.on_ hb3).on_ hb, ⟨HR2.out.below.size, (HR2.out.below.trans (hb3.mono HR2.out.below.size)).trans (hb.mono (Nat.le_trans HR2.out.below.size hb3.size)), (HR3.out.on_ hb).at_, HR3.out.ok⟩, hc, hab, e1, e2⟩
  clear hg hsp hor
  have g1 : IntKind.i64.wrap (p.st.clock + x) = p.st.clock + x := IntWalk.i64_in _ (by omega)
  have g2 : IntKind.i64.wrap (p.st.clock + x + y) = p.st.clock + x + y := IntWalk.i64_in _ (by omega)
  go_wp2_with fail
  refine (counts_ex ((HR2.out.on_ hb3))).mono ?_
  rintro e w4 ⟨rfl, -, hb4⟩
  have hlt1 : w1.heap.size < w4.heap.size := by have h1 := Has.lt HR2.out.at_; have h2 := hb3.size; have h3 := hb4.size; omega
  have hlt2 : w2.heap.size < w4.heap.size := by have h1 := Has.lt HR3.out.at_; have h3 := hb4.size; omega
  have HD4 := Lib.hid (HD3.out w4.heap.size (w4.alloc (.cells (tcells p.st) 30)) (Has.made _ _ _) (by omega) (by omega) (hb4.alloc hb4.size _))
  clear hb3 hb4 HR2 HR3 HD3
  go_wp2_with fail
  refine (clock_duo HD4.out).mono ?_
  rintro e w5 ⟨rfl, hd5⟩
  have HD5 := Lib.hid hd5
  clear hd5
  go_wp2_with fail
  refine (move_duo (p.st.clock + x + y) n 0 o HD5.out (by omega) HSP.out.n1 HSP.out.f1 HSP.out.eo).mono ?_
  rintro e w6 ⟨rfl, hd6⟩
  have HD6 := Lib.hid hd6.swap
  clear hd6
  go_wp2_with fail
  refine (move_duo (p.st.clock + x) m1 0 _ HD6.out (by omega) HSP.out.k1 HSP.out.f2 rfl).mono ?_
  rintro e w7 ⟨rfl, hd7⟩
  have HD7 := Lib.hid hd7
  clear hd7
  go_wp2_with fail
  refine (move_duo (p.st.clock + x + y) m2 0 t HD7.out (by omega) HSP.out.k2 HSP.out.f3 HSP.out.et).mono ?_
  rintro e w8 ⟨rfl, hd8⟩
  have HD8 := Lib.hid hd8.swap
  clear hd8
  go_wp2_with fail
  refine (counts_duo HD8.out).mono ?_
  rintro e w9 ⟨rfl, hd9⟩
  have HD9 := Lib.hid hd9.swap
  clear hd9
  go_wp2_with fail
  refine (counts_duo HD9.out).mono ?_
  rintro e wa ⟨rfl, hda⟩
  have hwa := Has.lt hda.tal
  have HDa := Lib.hid hda.swap
  clear hda
  go_wp2_with fail
  refine (open_duo (tallied HDa.out o t)).mono ?_
  rintro e wb ⟨rfl, hdb, hbb⟩
  have HDb := Lib.hid hdb.swap
  clear hdb
  go_wp2_with fail
  refine (open_duo HDb.out).mono ?_
  rintro e wc ⟨rfl, hdc, hbc⟩
  have hbc' : Below ((wa.alloc (.cells (tcells o) 30)).alloc (.cells (tcells t) 30)).heap.size ((wa.alloc (.cells (tcells o) 30)).alloc (.cells (tcells t) 30)) wc := hbb.trans (hbc.mono hbb.size)
  have ht0 := hdc.tal
  have ht1 : Has wc wa.heap.size 30 (tcells o) := ((Has.made wa 30 (tcells o)).alloc _).below hbc' (by have e1 := size_of wa (.cells (tcells o) 30); have e2 := size_of (wa.alloc (.cells (tcells o) 30)) (.cells (tcells t) 30); omega)
  have ht2 : Has wc (wa.heap.size + 1) 30 (tcells t) := (size_of wa (.cells (tcells o) 30)) ▸ (Has.made (wa.alloc (.cells (tcells o) 30)) 30 (tcells t)).below hbc' (by have e1 := size_of wa (.cells (tcells o) 30); have e2 := size_of (wa.alloc (.cells (tcells o) 30)) (.cells (tcells t) 30); omega)
  have a0 : wc.cell? ⟨w4.heap.size, 0, none⟩ = some (.int .i64 p.st.asked) := ht0.cell 0
  have b0 : wc.cell? ⟨wa.heap.size, 0, none⟩ = some (.int .i64 o.asked) := ht1.cell 0
  have b1 : wc.cell? ⟨wa.heap.size, 1, none⟩ = some (.int .i64 o.good) := ht1.cell 1
  have b2 : wc.cell? ⟨wa.heap.size, 2, none⟩ = some (.int .i64 o.bad) := ht1.cell 2
  have b3 : wc.cell? ⟨wa.heap.size, 3, none⟩ = some (.int .i64 o.failed) := ht1.cell 3
  have b4 : wc.cell? ⟨wa.heap.size, 4, none⟩ = some (.int .i64 o.skipped) := ht1.cell 4
  have b5 : wc.cell? ⟨wa.heap.size, 5, none⟩ = some (.int .i64 o.late) := ht1.cell 5
  have d0 : wc.cell? ⟨wa.heap.size + 1, 0, none⟩ = some (.int .i64 t.asked) := ht2.cell 0
  have d1 : wc.cell? ⟨wa.heap.size + 1, 1, none⟩ = some (.int .i64 t.good) := ht2.cell 1
  have d2 : wc.cell? ⟨wa.heap.size + 1, 2, none⟩ = some (.int .i64 t.bad) := ht2.cell 2
  have d3 : wc.cell? ⟨wa.heap.size + 1, 3, none⟩ = some (.int .i64 t.failed) := ht2.cell 3
  have d4 : wc.cell? ⟨wa.heap.size + 1, 4, none⟩ = some (.int .i64 t.skipped) := ht2.cell 4
  have d5 : wc.cell? ⟨wa.heap.size + 1, 5, none⟩ = some (.int .i64 t.late) := ht2.cell 5
  have hBL := Lib.hid (HB1.out.trans (hdc.one.below.mono HB1.out.size))
  have k1 := hdc.one.ok
  have k2 := hdc.two.ok
  clear hdc hbc hbc' ht0 ht1 ht2
  have l0 := k1.a0
  have l1 := k1.a1
  have l2 := k1.k0
  have l3 := k1.k1
  have l4 := k1.due0
  have m0 := k2.a0
  have m01 := k2.a1
  have m02 := k2.k0
  have m3 := k2.k1
  have m4 := k2.due0
  have m5 := k2.f0
  have m6 := k2.f1
  have m7 := k1.f0
  have m8 := k1.f1
  have g3 : IntKind.i64.wrap (o.asked + o.skipped) = o.asked + o.skipped := IntWalk.i64_in _ (by omega)
  have g4 : IntKind.i64.wrap (t.asked + t.skipped) = t.asked + t.skipped := IntWalk.i64_in _ (by omega)
  have hor := HOR.out
  rcases hor with ⟨q1, q2, q3, q4, q5, q6, q7, q8, q9, r1, r2, r3⟩ | ⟨q1, q2, q3⟩
  · have e0 : (o.asked + o.skipped != t.asked + t.skipped) = false := by simp; omega
    have e1 : (o.since != t.since) = false := by simp; omega
    have e2 : decide (0 < o.opn) = true := decide_eq_true (by omega)
    have e3 : decide (0 < t.opn) = true := decide_eq_true (by omega)
    have e4 : decide (0 < m1) = true := decide_eq_true q1
    have e5 : decide (0 < m2) = true := decide_eq_true q2
    have g5 : IntKind.i64.wrap (p.st.asked + 2) = p.st.asked + 2 := IntWalk.i64_in _ (by omega)
    have g6 : IntKind.i64.wrap (p.st.asked + 1) = p.st.asked + 1 := IntWalk.i64_in _ (by omega)
    have g7 : IntKind.i64.wrap (o.skipped - 1) = o.skipped - 1 := IntWalk.i64_in _ (by omega)
    have g8 : IntKind.i64.wrap (o.failed + 1) = o.failed + 1 := IntWalk.i64_in _ (by omega)
    have g9 : IntKind.i64.wrap (m1 + 1) = m1 + 1 := IntWalk.i64_in _ (by omega)
    have e6 : (t.asked == p.st.asked + 2) = true := by simp; omega
    have e7 : (o.asked == p.st.asked + 1) = true := by simp; omega
    have e8 : (t.skipped == o.skipped - 1) = true := by simp; omega
    have e9 : (t.failed == o.failed + 1) = true := by simp; omega
    have ea : (n == m1) = true := by simp; omega
    have eb : (m2 == m1 + 1) = true := by simp; omega
    clear q1 q2 q3 q4 q5 q6 q7 q8 q9 r1 r2 r3 l3 l4 m3 m4 k1 k2
    go_wp2
    go_ret
    exact ⟨rfl, hBL.out⟩
  · subst q1
    have e2 : ∃ q, decide (0 < t.opn) = q := ⟨_, rfl⟩
    obtain ⟨q, e2⟩ := e2
    clear l3 l4 m3 m4 k1 k2
    rcases q3 with ⟨q3, rfl⟩ | ⟨rfl, rfl, q4⟩
    · have e4 : decide (0 < m1) = true := decide_eq_true q3
      rw [if_pos q3] at q2
      subst q2
      go_wp2
      go_ret
      exact ⟨rfl, hBL.out⟩
    · rcases (show 0 = n ∨ 0 < n by omega) with rfl | q5
      · go_wp2
        all_goals first | (go_ret; exact ⟨rfl, hBL.out⟩) | omega
      · go_wp2
        all_goals first | (go_ret; exact ⟨rfl, hBL.out⟩) | omega
end Go.Proofs.Ytdbknbgomcabbaa
