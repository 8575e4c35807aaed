/- 'tells', walked: whatever acts are done with an Ask and with the reference, they tell the same. Conditions: a slice of at most 150 acts that reads as numbers of their types. -/
import Derived.Test.YtdbknbgomcabbaaBActA
import Derived.Test.YtdbknbgomcabbaaBActB
import Derived.Test.YtdbknbgomcabbaaBActC
import Derived.Test.YtdbknbgomcabbaaBActD
import Derived.Test.YtdbknbgomcabbaaBActE
import Derived.Test.YtdbknbgomcabbaaBActF
import Derived.LoopTactic
namespace Go.Proofs.Ytdbknbgomcabbaa
open Go.RowKit

section
variable {W0 w : World} {b : Nat} {N : Int} {s : Ak.St} {rs : List Ak.Req} {A : Option Addr} {c : Nat} {kind n : Int} {good : Bool}
theorem act_any (h : Both W0 w b N s rs (.slice A rs.length c)) (hN : N ≤ 1000000) (k0 : 0 ≤ kind) (k1 : kind ≤ 255) :
    Calls Try.prog 24 #[.pointer (some ⟨b, 0, none⟩), .agg #[.int .i64 s.start, .int .i64 s.width, .int .i64 s.clock, .bool s.stopped, .slice A rs.length c, .int .i64 s.skipped, .int .i64 s.late], .agg #[.int .u8 kind, .int .i64 n, .bool good]] w
      fun e w' => ∃ (s1 : Ak.St) (rs1 : List Ak.Req) (A1 : Option Addr) (c1 : Nat), e = .returned (.tuple #[.agg #[.int .i64 s1.start, .int .i64 s1.width, .int .i64 s1.clock, .bool s1.stopped, .slice A1 rs1.length c1, .int .i64 s1.skipped, .int .i64 s1.late], .bool true]) ∧
        Both W0 w' b (N + 1) s1 rs1 (.slice A1 rs1.length c1) ∧ w.grownBy w' (some b) ∧ Later w (.slice A rs.length c) (.slice A1 rs1.length c1) := by
  rcases (show kind % 6 = 0 ∨ kind % 6 = 1 ∨ (kind % 6 = 2 ∨ kind % 6 = 3) ∨ kind % 6 = 4 ∨ (kind % 6 = 5 ∧ n % 2 = 0) ∨ (kind % 6 = 5 ∧ n % 2 ≠ 0) by omega) with hk | hk | hk | hk | hk | hk
  · exact (act_by _ _ (n.tmod 4096) rfl hk rfl rfl h hN k0 k1).mono fun _ _ ⟨A1, c1, q⟩ => ⟨_, _, A1, c1, q⟩
  · exact (act_to _ _ hk rfl rfl h hN k0 k1).mono fun _ _ ⟨A1, c1, q⟩ => ⟨_, _, A1, c1, q⟩
  · exact (act_open _ _ hk rfl rfl h hN k0 k1).mono fun _ _ ⟨A1, c1, q⟩ => ⟨_, _, A1, c1, q⟩
  · exact (act_answer _ _ hk rfl rfl h hN k0 k1).mono fun _ _ ⟨A1, c1, q⟩ => ⟨_, _, A1, c1, q⟩
  · exact (act_none _ _ hk.1 hk.2 rfl rfl h hN k0 k1).mono fun _ _ ⟨A1, c1, q⟩ => ⟨_, _, A1, c1, q⟩
  · exact (act_stop _ _ hk.1 hk.2 rfl rfl h hN k0 k1).mono fun _ _ ⟨A1, c1, q⟩ => ⟨_, _, A1, c1, q⟩
end

set_option maxHeartbeats 2000000 in
theorem rnew_yes (start width : Int) (w : World) (h0 : 0 ≤ start) (h1 : start ≤ 281474976710656) (h2 : 1 ≤ width) (h3 : width ≤ 1099511627776) :
    Calls Try.prog 22 #[.int .i64 start, .int .i64 width] w fun e w' => ∃ g, e = .returned (.tuple #[.agg #[.int .i64 start, .int .i64 width, .int .i64 start, .bool false, .slice (some ⟨g, 0, none⟩) 1 1, .int .i64 0, .int .i64 0], .int .i64 0]) ∧
      Row w' w.heap.size [(start, 0)] (.slice (some ⟨g, 0, none⟩) 1 1) ∧ Below w.heap.size w w' := by
  have d1 : decide (start < 0) = false := decide_eq_false (by omega)
  have d2 : decide (281474976710656 < start) = false := decide_eq_false (by omega)
  have d3 : decide (width < 1) = false := decide_eq_false (by omega)
  have d4 : decide (1099511627776 < width) = false := decide_eq_false (by omega)
  have HR : Hid (∀ (W : World) (g : Nat), W.heap.size = g → Below w.heap.size w W → Row (W.alloc (.cells #[.int .i64 start, .int .i64 0] 70)) w.heap.size [(start, 0)] (.slice (some ⟨g, 0, none⟩) 1 1)) := Lib.hid fun W g hg hW =>
    ⟨hg ▸ World.ownsRow_lit W #[.int .i64 start, .int .i64 0] 1 hW.size (by decide) rfl, by simp⟩
  clear h0 h1 h2 h3
  go_enter Try.func22, Try.ntmps22
  go_wp2
  exact bodyPost_ret (v := .tuple #[.agg #[.int .i64 start, .int .i64 width, .int .i64 start, .bool false, .slice (some ⟨w.heap.size + 1, 0, none⟩) 1 1, .int .i64 0, .int .i64 0], .int .i64 0]) (by simp [results, Try.results22, go_sem]) rfl
    ⟨w.heap.size + 1, rfl, HR.out _ _ (by simp) ((Below.refl _ _).alloc (Nat.le_refl _) _), ((Below.refl _ _).alloc (Nat.le_refl _) _).alloc (by simp) _⟩

theorem rnew_no (start width : Int) (w : World) (h : start < 0 ∨ 281474976710656 < start ∨ width < 1 ∨ 1099511627776 < width) :
    Calls Try.prog 22 #[.int .i64 start, .int .i64 width] w fun e w' => e = .returned (.tuple #[.agg #[.int .i64 0, .int .i64 0, .int .i64 0, .bool false, .slice none 0 0, .int .i64 0, .int .i64 0], .int .i64 2]) ∧ Below w.heap.size w w' := by
  have hc : decide (start < 0) = true ∨ (decide (start < 0) = false ∧ decide (281474976710656 < start) = true) ∨ (decide (start < 0) = false ∧ decide (281474976710656 < start) = false ∧ decide (width < 1) = true) ∨ (decide (start < 0) = false ∧ decide (281474976710656 < start) = false ∧ decide (width < 1) = false ∧ decide (1099511627776 < width) = true) := by
    simp only [decide_eq_true_eq, decide_eq_false_iff_not]; omega
  clear h
  rcases hc with d1 | ⟨d1, d2⟩ | ⟨d1, d2, d3⟩ | ⟨d1, d2, d3, d4⟩
  all_goals
    go_enter Try.func22, Try.ntmps22
    go_wp2
    exact bodyPost_ret (v := .tuple #[.agg #[.int .i64 0, .int .i64 0, .int .i64 0, .bool false, .slice none 0 0, .int .i64 0, .int .i64 0], .int .i64 2]) (by simp [results, Try.results22, go_sem]) rfl ⟨rfl, (Below.refl _ _).alloc (Nat.le_refl _) _⟩

/-- A slice value '.slice A m c' that reads as the acts xs (kind, number, good), in blocks below B. -/
structure Acts (w : World) (B : Nat) (A : Option Addr) (m c : Nat) (xs : List (Int × Int × Bool)) : Prop where
  len : xs.length = m
  cap : m ≤ c
  max : c ≤ 9223372036854775807
  fit : ∀ x ∈ xs, 0 ≤ x.1 ∧ x.1 ≤ 255
  at_ : ∀ k, (h : k < xs.length) → ∃ b off, A = some ⟨b, off, none⟩ ∧ b < B ∧ w.cell? ⟨b, off + k * 3, none⟩ = some (.int .u8 xs[k].1) ∧ w.cell? ⟨b, off + k * 3 + 1, none⟩ = some (.int .i64 xs[k].2.1) ∧ w.cell? ⟨b, off + k * 3 + 2, none⟩ = some (.bool xs[k].2.2)
theorem Acts.below {w w' : World} {B : Nat} {A : Option Addr} {m c : Nat} {xs : List (Int × Int × Bool)} (h : Acts w B A m c xs) (k : Below B w w') : Acts w' B A m c xs :=
  ⟨h.len, h.cap, h.max, h.fit, fun i hi => by
    obtain ⟨b, off, ha, hb, h1, h2, h3⟩ := h.at_ i hi
    exact ⟨b, off, ha, hb, (k.cell (p := ⟨b, _, none⟩) hb).trans h1, (k.cell (p := ⟨b, _, none⟩) hb).trans h2, (k.cell (p := ⟨b, _, none⟩) hb).trans h3⟩⟩
theorem Acts.up {w : World} {B B' : Nat} {A : Option Addr} {m c : Nat} {xs : List (Int × Int × Bool)} (h : Acts w B A m c xs) (hB : B ≤ B') : Acts w B' A m c xs :=
  ⟨h.len, h.cap, h.max, h.fit, fun i hi => by
    obtain ⟨b, off, ha, hb, h1, h2, h3⟩ := h.at_ i hi
    exact ⟨b, off, ha, by omega, h1, h2, h3⟩⟩

theorem tells_no (start width : Int) (A : Option Addr) (m c : Nat) (w : World) (hn : start < 0 ∨ 281474976710656 < start ∨ width < 1 ∨ 1099511627776 < width) :
    Calls Try.prog 11 #[.int .i64 start, .int .i64 width, .slice A m c] w fun e w' => e = .returned (.bool true) ∧ Below w.heap.size w w' := by
  have HN := Lib.hid hn
  clear hn
  go_enter Try.func11, Try.ntmps11
  go_wp2_with fail
  refine (new_no start width w HN.out).mono ?_
  rintro e w1 ⟨rfl, rfl⟩
  go_wp2_with fail
  refine (rnew_no start width w HN.out).mono ?_
  rintro e w1 ⟨rfl, hb1⟩
  have HB1 := Lib.hid hb1
  clear hb1
  go_wp2
  go_ret
  exact ⟨rfl, HB1.out.alloc HB1.out.size _⟩

/-- What holds at the head of a round of tells, w the world where the call began, z the box of the reference's state: k acts are done. -/
structure Told (w : World) (z k : Nat) (W : World) : Prop where
  ex : ∃ (s : Ak.St) (rs : List Ak.Req) (A : Option Addr) (c : Nat), Both w W w.heap.size (1 + k) s rs (.slice A rs.length c) ∧
    Has W z 61 #[.int .i64 s.start, .int .i64 s.width, .int .i64 s.clock, .bool s.stopped, .slice A rs.length c, .int .i64 s.skipped, .int .i64 s.late] ∧ (Value.slice A rs.length c).ownBlock ≠ some z

set_option maxRecDepth 100000 in
set_option maxHeartbeats 8000000 in
theorem tells_yes (start width : Int) (A : Option Addr) (m c : Nat) (xs : List (Int × Int × Bool)) (w : World) (h0 : 0 ≤ start) (h1 : start ≤ 281474976710656) (h2 : 1 ≤ width) (h3 : width ≤ 1099511627776) (hs : Acts w w.heap.size A m c xs) (hm : m ≤ 150) :
    Calls Try.prog 11 #[.int .i64 start, .int .i64 width, .slice A m c] w fun e w' => e = .returned (.bool true) ∧ Below w.heap.size w w' := by
  have HS := Lib.hid hs
  have hcap := hs.cap
  have hmax := hs.max
  clear hs
  go_enter Try.func11, Try.ntmps11
  go_wp2_with fail
  refine (new_run (W := w) start width w h0 h1 h2 h3 (Below.refl _ _)).mono ?_
  rintro e w1 ⟨rfl, hr1, -⟩
  have HR1 := Lib.hid hr1
  have hz1 : w.heap.size < w1.heap.size := Has.lt hr1.at_
  clear hr1
  go_wp2_with fail
  refine (rnew_yes start width w1 h0 h1 h2 h3).mono ?_
  rintro e w2 ⟨g, rfl, hrow, hb2⟩
  have hg := hrow.own.lt g (by simp [Value.ownBlock])
  have HT1 : Hid (Told w w2.heap.size 0 (w2.alloc (.cells #[.int .i64 start, .int .i64 width, .int .i64 start, .bool false, .slice (some ⟨g, 0, none⟩) 1 1, .int .i64 0, .int .i64 0] 61)) ∧
      Both w (w2.alloc (.cells #[.int .i64 start, .int .i64 width, .int .i64 start, .bool false, .slice (some ⟨g, 0, none⟩) 1 1, .int .i64 0, .int .i64 0] 61)) w.heap.size 1 (Ak.fresh start width) [(start, 0)] (.slice (some ⟨g, 0, none⟩) 1 1)) := by
    have hb : Both w (w2.alloc (.cells #[.int .i64 start, .int .i64 width, .int .i64 start, .bool false, .slice (some ⟨g, 0, none⟩) 1 1, .int .i64 0, .int .i64 0] 61)) w.heap.size 1 (Ak.fresh start width) [(start, 0)] (.slice (some ⟨g, 0, none⟩) 1 1) :=
      ⟨(HR1.out.on_ hb2).alloc_ _, (hrow.less (by omega)).on_ ((Below.refl _ _).alloc (Nat.le_refl _) _), Ak.Rf.fresh_ start width⟩
    exact Lib.hid ⟨⟨Ak.fresh start width, [(start, 0)], some ⟨g, 0, none⟩, 1, hb, Has.made _ _ _, by simp [Value.ownBlock]; omega⟩, hb⟩
  have hz2 := hb2.size
  clear hrow hb2 hg
  obtain ⟨x3, hx3⟩ : ∃ x3, x3 = w2.alloc (.cells #[.int .i64 start, .int .i64 width, .int .i64 start, .bool false, .slice (some ⟨g, 0, none⟩) 1 1, .int .i64 0, .int .i64 0] 61) := ⟨_, rfl⟩
  have hcx : ∀ i : Nat, x3.cell? ⟨w2.heap.size, i, none⟩ = #[.int .i64 start, .int .i64 width, .int .i64 start, .bool false, .slice (some ⟨g, 0, none⟩) 1 1, .int .i64 0, .int .i64 0][i]? := hx3 ▸ (Has.made w2 61 _).cell
  rw [← hx3] at HT1
  go_upto_region 3 with fail
  rw [← hx3]
  clear hx3
  go_wp2_with fail
  have HS0 : Hid (Calls Try.prog 23 #[.pointer (some ⟨w.heap.size, 0, none⟩), .agg #[.int .i64 start, .int .i64 width, .int .i64 start, .bool false, .slice (some ⟨g, 0, none⟩) 1 1, .int .i64 0, .int .i64 0]] x3 fun e w' => e = .returned (.bool true) ∧ Both w w' w.heap.size 1 (Ak.fresh start width) [(start, 0)] (.slice (some ⟨g, 0, none⟩) 1 1) ∧ Below x3.heap.size x3 w') := Lib.hid (same_any (s := Ak.fresh start width) (rs := [(start, 0)]) HT1.out.2 (by omega))
  refine HS0.out.mono ?_
  rintro e w4 ⟨rfl, hb4, hw4⟩
  have HT : Hid (Told w w2.heap.size 0 w4) := by
    obtain ⟨s, rs, A', c', k1, k2, k3⟩ := HT1.out.1.ex
    exact Lib.hid ⟨s, rs, A', c', k1.on_ hw4, k2.below hw4 (Has.lt k2), k3⟩
  clear hb4 hw4 HS0 HT1 hcx HR1
  go_wp2
  go_loopw [44] (fun i wr => ∃ k : Nat, k ≤ m ∧ i = .int .i64 k ∧ Told w w2.heap.size k wr) (fun i _ => m - (intOf i).toNat)
  case atStart => exact ⟨0, Nat.zero_le _, rfl, HT.out⟩
  case round =>
    obtain ⟨k, hk, rfl, ⟨s, rs, A1, c1, hboth, hbox, hap⟩⟩ := hrel
    have HB := Lib.hid hboth
    have HX := Lib.hid hbox
    have HA := Lib.hid hap
    have hc := hbox.cell
    have hlt : w2.heap.size < wr.heap.size := Has.lt hbox
    by_cases hlk : k < m
    · have hkl : k < xs.length := by have := HS.out.len; omega
      have hfit := HS.out.fit _ (List.getElem_mem hkl)
      obtain ⟨ab, off, rfl, hab, hcell1, hcell2, hcell3⟩ := HS.out.at_ k hkl
      generalize xs[k] = x at hfit hcell1 hcell2 hcell3
      obtain ⟨kd, nn, gg⟩ := x
      dsimp only at hfit hcell1 hcell2 hcell3
      obtain ⟨k0, k1⟩ := hfit
      have hc1 := (hboth.run.below.cell (p := ⟨ab, off + k * 3, none⟩) hab).trans hcell1
      have hc2 := (hboth.run.below.cell (p := ⟨ab, off + k * 3 + 1, none⟩) hab).trans hcell2
      have hc3 := (hboth.run.below.cell (p := ⟨ab, off + k * 3 + 2, none⟩) hab).trans hcell3
      clear hboth hbox hap hcell1 hcell2 hcell3
      go_wp2_with fail
      refine (act_any (HB.out.on_ ((Below.refl _ _).alloc (Nat.le_refl _) _)) (by omega) k0 k1).mono ?_
      rintro e w5 ⟨s1, rs1, A3, c3, rfl, hb5, hg5, hl5⟩
      have hx5 := (HX.out.alloc (.cells #[.int .u8 kd, .int .i64 nn, .bool gg] 26)).grown hg5 (by simp; omega)
      have hc5 := hx5.cell
      have hf5 := hx5.free
      have hlt5 : w2.heap.size < w5.heap.size := Has.lt hx5
      have HB5 := Lib.hid hb5
      have HX5 : Hid (Has (set7 w5 w2.heap.size (.int .i64 s1.start) (.int .i64 s1.width) (.int .i64 s1.clock) (.bool s1.stopped) (.slice A3 rs1.length c3) (.int .i64 s1.skipped) (.int .i64 s1.late)) w2.heap.size 61 _) := Lib.hid (Has.here7 _ _ _ _ _ _ _ hx5)
      have HA5 := Lib.hid (hl5 w2.heap.size (by simp; omega) HA.out)
      clear hb5 hg5 hl5 hx5 hc hc1 hc2 hc3
      go_wp2_with fail
      refine (same_any ((HB5.out.set7_ HA5.out (by omega) _ _ _ _ _ _ _).on_ ((Below.refl _ _).alloc (Nat.le_refl _) _)) (by omega)).mono ?_
      rintro e w6 ⟨rfl, hb6, hw6⟩
      have HX6 := Lib.hid ((HX5.out.alloc _).below hw6 (Has.lt (HX5.out.alloc _)))
      have HB6 := Lib.hid hb6
      clear hb6 hw6 hc5 hf5
      go_wp2
      go_roundw
      case rel => exact ⟨k + 1, by omega, by go_num, ⟨s1, rs1, A3, c3, HB6.out.more_ (by omega), HX6.out, HA5.out⟩⟩
      case measure => simp [intOf]; omega
    · have hkm : k = m := by omega
      clear hboth hbox hap hc
      go_wp2
      go_ret
      exact ⟨rfl, HB.out.run.below⟩
end Go.Proofs.Ytdbknbgomcabbaa
