/- 'tells', walked: whatever acts are done with a throttle and with the reference, they tell the same. Conditions: a slice of at most 150 acts that reads as numbers of their types. -/
import Derived.Test.YthbefhpgpebkgaaRefActA
import Derived.Test.YthbefhpgpebkgaaRefActB
import Derived.Test.YthbefhpgpebkgaaRefActC
import Derived.Test.YthbefhpgpebkgaaRefActD
import Derived.Test.YthbefhpgpebkgaaRefActE
import Derived.Test.YthbefhpgpebkgaaRefSame
import Derived.LoopTactic
namespace Go.Proofs.Ythbefhpgpebkgaa
open Go.RowKit

theorem act_any {b : Nat} {s : Thr.St Int} {wv hv : Value} {kind n : Int} {w W0 : World} {N : Int} {hs : List Int} (h : Both W0 w b N s hs wv hv) (hN : N ≤ 1000000) (k0 : 0 ≤ kind) (k1 : kind ≤ 255) :
    Calls Try.prog 49 #[.pointer (some ⟨b, 0, none⟩), .agg #[.int .i64 s.width, .int .i64 s.now, wv, hv, .int .i64 s.offered, .int .i64 s.lost], .agg #[.int .u8 kind, .int .i64 n]] w
      fun e w' => ∃ (s1 : Thr.St Int) (hs1 : List Int) (A : Option Addr) (m c : Nat) (A' : Option Addr) (m' c' : Nat), e = .returned (.tuple #[.agg #[.int .i64 s1.width, .int .i64 s1.now, .slice A m c, .slice A' m' c', .int .i64 s1.offered, .int .i64 s1.lost], .bool true]) ∧
        Both W0 w' b (N + 1) s1 hs1 (.slice A m c) (.slice A' m' c') ∧ w.grownBy w' (some b) ∧ Later w wv hv (.slice A m c) (.slice A' m' c') := by
  rcases (show kind % 7 = 0 ∨ kind % 7 = 1 ∨ (kind % 7 = 2 ∨ kind % 7 = 3) ∨ (kind % 7 = 4 ∨ kind % 7 = 5) ∨ kind % 7 = 6 by omega) with hk | hk | hk | hk | hk
  · exact (act_by (Thr.move s (s.now + n.tmod 4096)) (n.tmod 4096) rfl hk rfl h hN k0 k1).mono fun _ _ ⟨A, m, c, A', m', c', q⟩ => ⟨_, _, A, m, c, A', m', c', q⟩
  · exact (act_to (Thr.move s n) rfl hk h hN k0 k1).mono fun _ _ ⟨A, m, c, A', m', c', q⟩ => ⟨_, _, A, m, c, A', m', c', q⟩
  · exact (act_offer (Thr.offer s n) rfl hk h hN k0 k1).mono fun _ _ ⟨A, m, c, A', m', c', q⟩ => ⟨_, _, A, m, c, A', m', c', q⟩
  · exact (act_take (Thr.take 0 s) rfl hk h hN k0 k1).mono fun _ _ ⟨A, m, c, A', m', c', q⟩ => ⟨_, _, A, m, c, A', m', c', q⟩
  · exact (act_clear (Thr.clear 0 s) rfl hk h hN k0 k1).mono fun _ _ ⟨A, m, c, A', m', c', q⟩ => ⟨_, _, A, m, c, A', m', c', q⟩

/-- A slice value '.slice A m c' that reads as the acts xs (kind, number), in blocks below B. -/
structure Acts (w : World) (B : Nat) (A : Option Addr) (m c : Nat) (xs : List (Int × Int)) : Prop where
  len : xs.length = m
  cap : m ≤ c
  max : c ≤ 9223372036854775807
  fit : ∀ x ∈ xs, 0 ≤ x.1 ∧ x.1 ≤ 255
  at_ : ∀ k, (h : k < xs.length) → ∃ b off, A = some ⟨b, off, none⟩ ∧ b < B ∧ w.cell? ⟨b, off + k * 2, none⟩ = some (.int .u8 xs[k].1) ∧ w.cell? ⟨b, off + k * 2 + 1, none⟩ = some (.int .i64 xs[k].2)

theorem Acts.below {w w' : World} {B : Nat} {A : Option Addr} {m c : Nat} {xs : List (Int × Int)} (h : Acts w B A m c xs) (k : Below B w w') : Acts w' B A m c xs :=
  ⟨h.len, h.cap, h.max, h.fit, fun i hi => by
    obtain ⟨b, off, ha, hb, h1, h2⟩ := h.at_ i hi
    exact ⟨b, off, ha, hb, (k.cell (p := ⟨b, _, none⟩) hb).trans h1, (k.cell (p := ⟨b, _, none⟩) hb).trans h2⟩⟩
theorem Acts.up {w : World} {B B' : Nat} {A : Option Addr} {m c : Nat} {xs : List (Int × Int)} (h : Acts w B A m c xs) (hB : B ≤ B') : Acts w B' A m c xs :=
  ⟨h.len, h.cap, h.max, h.fit, fun i hi => by
    obtain ⟨b, off, ha, hb, h1, h2⟩ := h.at_ i hi
    exact ⟨b, off, ha, by omega, h1, h2⟩⟩

theorem Has.here6 {W : World} {g : Nat} {v0 v1 v2 v3 v4 v5 u0 u1 u2 u3 u4 u5 : Value} (h : Has W g 81 #[v0, v1, v2, v3, v4, v5]) :
    Has ((((((W.setCell ⟨g, 0, none⟩ u0).setCell ⟨g, 1, none⟩ u1).setCell ⟨g, 2, none⟩ u2).setCell ⟨g, 3, none⟩ u3).setCell ⟨g, 4, none⟩ u4).setCell ⟨g, 5, none⟩ u5) g 81 #[u0, u1, u2, u3, u4, u5] :=
  (((((h.here 0 u0).here 1 u1).here 2 u2).here 3 u3).here 4 u4).here 5 u5

theorem tells_no (n : Int) (A : Option Addr) (m c : Nat) (w : World) (hn : n < 0 ∨ 1048576 < n) :
    Calls Try.prog 25 #[.int .i64 n, .slice A m c] w fun e w' => e = .returned (.bool true) ∧ Below w.heap.size w w' := by
  have hr : (decide (0 ≤ n) && decide (n ≤ 1048576)) = false := by simp; omega
  have HR := Lib.hid hr
  clear hr
  go_enter Try.func25, Try.ntmps25
  go_wp2_with fail
  refine (TI.new_no n w hn).mono ?_
  rintro e w1 ⟨rfl, rfl⟩
  go_wp2_with fail
  refine (rright_any n w).mono ?_
  rintro e w1 ⟨rfl, rfl⟩
  rw [HR.out]
  go_wp2
  go_ret
  exact ⟨rfl, Below.refl _ _⟩

/-- What holds at the head of a round of tells, w the world where the call began: k acts are done. -/
structure Told (w : World) (k : Nat) (W : World) : Prop where
  ex : ∃ (s : Thr.St Int) (hs : List Int) (A : Option Addr) (m c : Nat) (A' : Option Addr) (m' c' : Nat), Both w W w.heap.size k s hs (.slice A m c) (.slice A' m' c') ∧
    Has W (w.heap.size + 1) 81 #[.int .i64 s.width, .int .i64 s.now, .slice A m c, .slice A' m' c', .int .i64 s.offered, .int .i64 s.lost] ∧ Apart (.slice A m c) (.slice A' m' c') (w.heap.size + 1)

set_option maxRecDepth 100000 in
set_option maxHeartbeats 4000000 in
theorem tells_yes (n : Int) (A : Option Addr) (m c : Nat) (xs : List (Int × Int)) (w : World) (h0 : 0 ≤ n) (h1 : n ≤ 1048576) (hs : Acts w w.heap.size A m c xs) (hm : m ≤ 150) :
    Calls Try.prog 25 #[.int .i64 n, .slice A m c] w fun e w' => e = .returned (.bool true) ∧ Below w.heap.size w w' := by
  have hr : (decide (0 ≤ n) && decide (n ≤ 1048576)) = true := by simp; omega
  have HR := Lib.hid hr
  have HS := Lib.hid hs
  have hcap := hs.cap
  have hmax := hs.max
  clear hr hs
  go_enter Try.func25, Try.ntmps25
  go_wp2_with fail
  refine (TI.new_yes n w h0 h1).mono ?_
  rintro e w1 ⟨rfl, hw1⟩
  have HT1 : Hid (∀ W, W = w1.alloc (.cells #[.int .i64 n, .int .i64 0, .slice none 0 0, .slice none 0 0, .int .i64 0, .int .i64 0] 81) → Told w 0 W) := by
    show ∀ W, _
    intro W hW
    have hb0 : Below w.heap.size w w1 := hw1 ▸ (Below.refl _ _).alloc (Nat.le_refl _) _
    have hb1 : Below w.heap.size w W := hW ▸ hb0.alloc hb0.size _
    have hz1 : w1.heap.size = w.heap.size + 1 := by rw [← hw1]; simp
    have ha : TI.At W w.heap.size (Thr.fresh 0 n) := by
      rw [hW]; refine Has.alloc ?_ _; rw [← hw1]; exact Has.made w _ _
    refine ⟨Thr.fresh 0 n, [], none, 0, 0, none, 0, 0, ⟨⟨Nat.le_refl _, hb1, ha, Thr.Ok.fresh h0 h1 (by simp)⟩, ⟨Or.inl ⟨rfl, rfl⟩, World.ownsRow_nil _ _ _ _, fun _ => rfl, Thr.Rf.fresh_ n⟩⟩, ?_, ?_⟩
    · rw [hW]; exact made_at _ _ hz1
    · exact ⟨by simp [Value.ownBlock], by simp [Value.ownBlock]⟩
  have hz1 : w1.heap.size = w.heap.size + 1 := by rw [← hw1]; simp
  have HZ := Lib.hid hz1
  clear hw1 hz1
  go_wp2_with fail
  refine (rright_any n w1).mono ?_
  rintro e w2 ⟨rfl, rfl⟩
  rw [HR.out]
  go_wp2
  have HT := Lib.hid (HT1.out _ rfl)
  clear HT1
  rw [HZ.out]
  go_loopw [36] (fun i wr => ∃ k : Nat, k ≤ m ∧ i = .int .i64 k ∧ Told w k wr) (fun i _ => m - (intOf i).toNat)
  case atStart => exact ⟨0, Nat.zero_le _, rfl, HT.out⟩
  case round =>
    obtain ⟨k, hk, rfl, ⟨s, hs, A1, m1, c1, A2, m2, c2, hboth, hbox, hap⟩⟩ := hrel
    have HB := Lib.hid hboth
    have HX := Lib.hid hbox
    have HA := Lib.hid hap
    have hc := hbox.cell
    have hlt : w.heap.size + 1 < wr.heap.size := Has.lt hbox
    by_cases hlk : k < m
    · have hkl : k < xs.length := by have := HS.out.len; omega
      have hfit := HS.out.fit _ (List.getElem_mem hkl)
      obtain ⟨ab, off, rfl, hab, hcell1, hcell2⟩ := HS.out.at_ k hkl
      generalize xs[k] = x at hfit hcell1 hcell2
      obtain ⟨kd, nn⟩ := x
      dsimp only at hfit hcell1 hcell2
      obtain ⟨k0, k1⟩ := hfit
      have hc1 := (hboth.run.below.cell (p := ⟨ab, off + k * 2, none⟩) hab).trans hcell1
      have hc2 := (hboth.run.below.cell (p := ⟨ab, off + k * 2 + 1, none⟩) hab).trans hcell2
      clear hboth hbox hap hcell1 hcell2
      go_wp2_with fail
      refine (act_any (HB.out.on_ ((Below.refl _ _).alloc (Nat.le_refl _) _)) (by omega) k0 k1).mono ?_
      rintro e w3 ⟨s1, hs1, A3, m3, c3, A4, m4, c4, rfl, hb3, hg3, hl3⟩
      have hx3 := (HX.out.alloc (.cells #[.int .u8 kd, .int .i64 nn] 58)).grown hg3 (by simp)
      have hc3 := hx3.cell
      have hf3 := hx3.free
      have hlt3 : w.heap.size + 1 < w3.heap.size := Has.lt hx3
      have HB3 := Lib.hid hb3
      have HX3 := Lib.hid (hx3.here6 (u0 := .int .i64 s1.width) (u1 := .int .i64 s1.now) (u2 := .slice A3 m3 c3) (u3 := .slice A4 m4 c4) (u4 := .int .i64 s1.offered) (u5 := .int .i64 s1.lost))
      have HA3 := Lib.hid (hl3 (w.heap.size + 1) (by simp; omega) HA.out)
      clear hb3 hg3 hl3 hx3 hc hc1 hc2
      go_wp2_with fail
      refine (same_any ((HB3.out.set6_ HA3.out (Nat.lt_succ_self _) _ _ _ _ _ _).on_ ((Below.refl _ _).alloc (Nat.le_refl _) _))).mono ?_
      rintro e w4 ⟨rfl, hb4, hw4⟩
      have HX4 := Lib.hid ((HX3.out.alloc _).below hw4 (Has.lt (HX3.out.alloc _)))
      have HB4 := Lib.hid hb4
      clear hb4 hw4 hc3 hf3
      go_wp2
      go_roundw
      case rel => exact ⟨k + 1, by omega, by go_num, ⟨s1, hs1, A3, m3, c3, A4, m4, c4, HB4.out.more_ (by omega), HX4.out, HA3.out⟩⟩
      case measure => simp [intOf]; omega
    · have hkm : k = m := by omega
      clear hboth hbox hap
      go_wp2_with fail
      refine (same_any HB.out).mono ?_
      rintro e w4 ⟨rfl, hb4, hw4⟩
      have HB4 := Lib.hid hb4
      clear hb4 hw4
      go_wp2
      go_ret
      exact ⟨rfl, HB4.out.run.below⟩
end Go.Proofs.Ythbefhpgpebkgaa
