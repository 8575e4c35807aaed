/- 'played', walked: it plays the steps as the plain functions say. Conditions: a start and a width below 2^32, and a slice of steps that reads as numbers of their types. -/
import Derived.Test.YtdbknbgomcabbaaAPlay
import Derived.Test.YtdbknbgomcabbaaA6
import Derived.LoopTactic
import Derived.Deep.AppendLies
import Derived.Maps.AppendAt
namespace Go.Proofs.Ytdbknbgomcabbaa
open Go.RowKit

/-- A slice value '.slice A m c' that reads as the steps xs, in blocks below B. -/
structure Smalls (w : World) (B : Nat) (A : Option Addr) (m c : Nat) (xs : List Ak.Step) : Prop where
  len : xs.length = m
  cap : m ≤ c
  max : c ≤ 9223372036854775807
  fit : ∀ x ∈ xs, Ak.Fit x
  at_ : ∀ k, (h : k < xs.length) → ∃ b off, A = some ⟨b, off, none⟩ ∧ b < B ∧ w.cell? ⟨b, off + k * 3, none⟩ = some (.int .u32 xs[k].1) ∧ w.cell? ⟨b, off + k * 3 + 1, none⟩ = some (.int .u8 xs[k].2.1) ∧ w.cell? ⟨b, off + k * 3 + 2, none⟩ = some (.bool xs[k].2.2)

theorem Smalls.below {w w' : World} {A : Option Addr} {m c : Nat} {xs : List Ak.Step} (h : Smalls w w.heap.size A m c xs) (k : Below w.heap.size w w') : Smalls w' w'.heap.size A m c xs :=
  ⟨h.len, h.cap, h.max, h.fit, fun i hi => by
    obtain ⟨b, off, ha, hb, h1, h2, h3⟩ := h.at_ i hi
    exact ⟨b, off, ha, Nat.lt_of_lt_of_le hb k.size, (k.cell (p := ⟨b, _, none⟩) hb).trans h1, (k.cell (p := ⟨b, _, none⟩) hb).trans h2, (k.cell (p := ⟨b, _, none⟩) hb).trans h3⟩⟩

def outCells (l : List (Int × Int × Bool)) : List Value := l.flatMap fun x => [.int .i64 x.1, .int .i64 x.2.1, .bool x.2.2]
theorem out_more {W : World} {base : Nat} {v : Value} {l : List (Int × Int × Bool)} {a b : Int} {c : Bool} (h : W.ownsRow base 50 3 v (l.length + 1) (outCells l ++ [.int .i64 a, .int .i64 b, .bool c])) :
    W.ownsRow base 50 3 v (l ++ [(a, b, c)]).length (outCells (l ++ [(a, b, c)])) := by
  simpa [outCells] using h
theorem own_ne {W : World} {base b size n : Nat} {e : TypeId} {v : Value} {xs : List Value} (h : W.ownsRow base e size v n xs) (hb : b < base) : some b ≠ v.ownBlock := by
  intro e
  have := (h.lt b e.symm).1
  omega

theorem row_ge {W : World} {base k size n : Nat} {e : TypeId} {v : Value} {xs : List Value} (h : W.ownsRow base e size v n xs) (hk : W.heap.size ≤ k) : some k ≠ v.ownBlock := by
  intro e
  have := (h.lt k e.symm).2
  omega

theorem Try.info50 : (Try.prog.info? 50).map (fun i => (i.zero, i.size, i.bytes)) = some (some (.agg #[.int .i64 0, .int .i64 0, .bool false]), 3, 24) := by kernel_rfl

/-- The walk's word for the largest of the words that the play keeps. -/
def Playing (w wr : World) (b : Nat) (N : Int) (v : Value) (p : Ak.Pl) : Prop := Run w wr b N p.st ∧ wr.ownsRow (b + 1) 50 3 v p.out.length (outCells p.out)

set_option maxRecDepth 100000 in
set_option maxHeartbeats 8000000 in
theorem played_any (start wid : Int) (A : Option Addr) (m c : Nat) (xs : List Ak.Step) (w : World) (h0 : 0 ≤ start) (h1 : start ≤ 4294967295) (h2 : 0 ≤ wid) (h3 : wid ≤ 4294967295) (hs : Smalls w w.heap.size A m c xs) :
    Calls Try.prog 20 #[.int .u32 start, .int .u32 wid, .slice A m c] w fun e w' => ∃ v, e = .returned (.tuple #[.pointer (some ⟨w.heap.size, 0, none⟩), v, .bool true]) ∧ Playing w w' w.heap.size 1000 v (Ak.after start (1 + wid) (xs.take 150)) := by
  have c0 := new_run (W := w) start (1 + wid) w h0 (by omega) (by omega) (by omega) (Below.refl _ _)
  obtain ⟨i0, hi, hz0, hz1, hz2⟩ := info_parts Try.info50
  have hcap := hs.cap
  have hmax := hs.max
  have HSM := Lib.hid hs
  clear hs
  obtain ⟨M, hM, hMc, hM2⟩ : ∃ M : Nat, (if (150 : Int) < (m : Int) then (150 : Int) else (m : Int)) = (M : Int) ∧ M ≤ c ∧ M = min 150 m := by
    refine ⟨min 150 m, ?_, by omega, rfl⟩
    split <;> omega
  have HM := Lib.hid hM2
  clear hM2
  go_enter Try.func20, Try.ntmps20
  go_wp2_with fail
  refine c0.mono ?_
  rintro e w1 ⟨rfl, hr1, -⟩
  have HR1 := Lib.hid hr1
  clear hr1 c0
  go_wp2_with fail
  refine (open_run HR1.out).mono ?_
  rintro e w2 ⟨rfl, hr2, -⟩
  have HR2 := Lib.hid hr2
  have hbw2 : w.heap.size < w2.heap.size := Has.lt hr2.at_
  clear hr2
  go_wp2
  go_loopw [13, 14, 55] (fun v t i wr => ∃ k : Nat, k ≤ M ∧ i = .int .i64 k ∧ t = .int .i64 (Ak.after start (1 + wid) (xs.take k)).st.clock ∧ Playing w wr w.heap.size (1 + 2 * k) v (Ak.after start (1 + wid) (xs.take k)))
    (fun _ _ i _ => M - (intOf i).toNat)
  case atStart => exact ⟨0, by omega, rfl, rfl, HR2.out.alloc_ _, World.ownsRow_lit (base := w.heap.size + 1) (e := 50) (size := 3) w2 #[.int .i64 1, .int .i64 start, .bool false] 1 (by omega) (by unfold maxLen; omega) rfl⟩
  case round =>
    obtain ⟨k, hk, rfl, rfl, hrun, hown⟩ := hrel
    have hMl : M ≤ xs.length := by have := HM.out; have := HSM.out.len; omega
    have hM150 : M ≤ 150 := by have := HM.out; omega
    have hgood := Ak.good_after start (1 + wid) h0 h1 (by omega) (by omega) xs HSM.out.fit k (by omega) (by omega)
    by_cases hlt : k < M
    · have hkl : k < xs.length := by omega
      have hstep := Ak.after_take_succ start (1 + wid) xs k hkl
      have hfit := HSM.out.fit _ (List.getElem_mem hkl)
      obtain ⟨ab, off, rfl, hab, hcell1, hcell2, hcell3⟩ := HSM.out.at_ k hkl
      generalize xs[k] = x at hstep hfit hcell1 hcell2 hcell3
      generalize Ak.after start (1 + wid) (xs.take k) = p at *
      have hmd := Ak.good_moved hgood (by omega) hfit
      have H1 := Lib.hid hstep
      have H2 := Lib.hid hgood
      have H3 := Lib.hid hmd
      have HFIT := Lib.hid hfit
      clear hstep hgood hmd
      obtain ⟨tk, kd, gd⟩ := x
      obtain ⟨hx0, hx1, hx2, hx3⟩ := hfit
      dsimp only at hx0 hx1 hx2 hx3 hcell1 hcell2 hcell3
      have hc1 := (hrun.below.cell (p := ⟨ab, off + k * 3, none⟩) hab).trans hcell1
      have hc2 := (hrun.below.cell (p := ⟨ab, off + k * 3 + 1, none⟩) hab).trans hcell2
      have hc3 := (hrun.below.cell (p := ⟨ab, off + k * 3 + 2, none⟩) hab).trans hcell3
      have hn0 := H2.out.ok.c0
      have hn1 := H2.out.clk
      have hn2 := H2.out.ok.s0
      have ha0 := H2.out.ok.a0
      have ha1 := H2.out.ok.a1
      have hbw : w.heap.size < wr.heap.size := Has.lt hrun.at_
      have HR := Lib.hid hrun
      have HO := Lib.hid hown
      clear hrun hown hcell1 hcell2 hcell3
      have hmk := Ak.move_fit H2.out (by omega) (x := (tk, kd, gd)) HFIT.out
      have em : Ak.moveErr p.st (p.st.clock + tk) = 0 := by
        unfold Ak.moveErr
        rw [if_pos hmk]
      have ecl : (Ak.move p.st (p.st.clock + tk)).clock = p.st.clock + tk := by
        unfold Ak.move
        rw [if_pos hmk]
        split <;> rfl
      have o0 := H3.out.ok.o0
      have o1 := H3.out.ok.o1
      have o2 := H3.out.ok.a1
      have HE : Hid (Ak.pstep p (tk, kd, gd) = Ak.answered (Ak.moved p (tk, kd, gd)) (tk, kd, gd)) := by show _ = _; rfl
      have HP1 : Hid ((Ak.moved p (tk, kd, gd)).st = Ak.move p.st (p.st.clock + tk)) := by show _ = _; rfl
      replace o0 : 0 ≤ (Ak.move p.st (p.st.clock + tk)).opn := o0
      replace o1 : (Ak.move p.st (p.st.clock + tk)).opn ≤ (Ak.move p.st (p.st.clock + tk)).asked := o1
      replace o2 : (Ak.move p.st (p.st.clock + tk)).asked ≤ 1 + 2 * (k : Int) + 1 := o2
      have HKM := Lib.hid hmk
      clear hmk
      rcases hop : Ak.opens p.st (p.st.clock + tk) with _ | _
      · have enum : Ak.number p.st (p.st.clock + tk) = 0 := by unfold Ak.number; rw [hop]; rfl
        have HOUT : Hid ((Ak.moved p (tk, kd, gd)).out = p.out) := by show _ = _; unfold Ak.moved; dsimp only; rw [hop]; rfl
        clear hop
        go_wp2_with fail
        refine (move_run (p.st.clock + tk) (HR.out.alloc_ _) (by omega)).mono ?_
        rintro e w3 ⟨rfl, hr3, hg3⟩
        have hx3k : w3.cell? ⟨wr.heap.size, 1, none⟩ = some (.int .u8 kd) := far_cell hg3 (by omega) (by simp)
        have hx3g : w3.cell? ⟨wr.heap.size, 2, none⟩ = some (.bool gd) := far_cell hg3 (by omega) (by simp)
        have hws3 := hg3.size
        simp only [World.size_alloc] at hws3
        have HR3 := Lib.hid hr3
        have HO3 := Lib.hid (own_kept (HO.out.alloc _) hg3 (by omega))
        clear hr3 hg3
        generalize Ak.move p.st (p.st.clock + tk) = s1 at *
        go_wp2_with fail
        refine (clock_run HR3.out).mono ?_
        rintro e w4 ⟨rfl, hr4, hg4⟩
        have hx4k : w4.cell? ⟨wr.heap.size, 1, none⟩ = some (.int .u8 kd) := (hg4.cell (p := ⟨wr.heap.size, 1, none⟩) (by simp; omega)).trans hx3k
        have hx4g : w4.cell? ⟨wr.heap.size, 2, none⟩ = some (.bool gd) := (hg4.cell (p := ⟨wr.heap.size, 2, none⟩) (by simp; omega)).trans hx3g
        have hws4 := hg4.size
        have HR4 := Lib.hid hr4
        have HO4 := Lib.hid (own_kept_below HO3.out hg4)
        clear hr4 hg4 hx3k hx3g
        have HO4p := HO4.out
        rw [← HOUT.out] at HO4p
        have HO6 := Lib.hid HO4p
        clear HO4p enum
        have HNE := Lib.hid (row_ge HO.out (Nat.le_refl wr.heap.size))
        go_wp2_with fail
        refine (open_run HR4.out).mono ?_
        rintro e w7 ⟨rfl, hr7, hg7⟩
        have hx7k : w7.cell? ⟨wr.heap.size, 1, none⟩ = some (.int .u8 kd) := (hg7.cell (p := ⟨wr.heap.size, 1, none⟩) (by simp; omega)).trans hx4k
        have hx7g : w7.cell? ⟨wr.heap.size, 2, none⟩ = some (.bool gd) := (hg7.cell (p := ⟨wr.heap.size, 2, none⟩) (by simp; omega)).trans hx4g
        have hws7 := hg7.size
        have HR7 := Lib.hid hr7
        have HO7 := Lib.hid (own_kept_below HO6.out hg7)
        clear hr7 hg7
        rcases (show kd % 6 = 0 ∨ kd % 6 = 1 ∨ kd % 6 = 2 ∨ kd % 6 = 3 ∨ 3 < kd % 6 by omega) with hq | hq | hq | hq | hq
        · have HQ6 := Lib.hid hq
          rcases (show s1.opn = 0 ∨ 0 < s1.opn by omega) with hopn | hopn
          · have htk : Ak.takes s1 s1.opn = false := by unfold Ak.takes; rw [decide_eq_false (show ¬ 0 < s1.opn by omega), Bool.and_false]
            have HA : Hid (Ak.pstep p (tk, kd, gd) = ⟨Ak.answer s1 s1.opn gd, (Ak.moved p (tk, kd, gd)).out⟩) := by show _ = _; rw [HE.out, Ak.ans_none (by have := HQ6.out; omega) (by rw [HP1.out]; omega), HP1.out]
            have hnp : ¬ 0 < s1.opn := by omega
            have hdp : decide (0 < s1.opn) = false := decide_eq_false hnp
            clear hopn
            go_wp2_with fail
            refine (answer_run (s1.opn) gd HR7.out (by omega)).mono ?_
            rintro e w9 ⟨rfl, hr9, hg9⟩
            have HR9 := Lib.hid hr9
            have HO9 := Lib.hid (own_kept HO7.out hg9 (by omega))
            clear hr9 hg9
            go_wp2
            go_roundw
            case rel => exact ⟨k + 1, by omega, by go_num, by rw [H1.out, HA.out]; exact congrArg (Value.int .i64) ((Ak.answer_clock _ _ _).trans ecl).symm, by rw [H1.out, HA.out]; exact ⟨HR9.out.more_ (by omega), HO9.out⟩⟩
            case measure => simp [intOf]; omega
          · have htk : Ak.takes s1 s1.opn = true := by unfold Ak.takes; rw [decide_eq_true rfl, decide_eq_true hopn]; rfl
            have HA : Hid (Ak.pstep p (tk, kd, gd) = ⟨Ak.answer s1 s1.opn gd, (Ak.moved p (tk, kd, gd)).out ++ [(s1.opn, p.st.clock + tk, true)]⟩) := by show _ = _; rw [HE.out, Ak.ans_open (by have := HQ6.out; omega) (by rw [HP1.out]; omega), HP1.out, ecl]
            have hdp : decide (0 < s1.opn) = true := decide_eq_true hopn
            go_wp2_with (at_builtin; refine wpList_append_own _ rfl _ _ 46 rfl (w.heap.size + 1) 50 i0 _ 3 24 Try.underlying46 hi hz0 hz1 hz2 rfl (by decide) _ _ _ rfl (HO7.out.alloc _) ⟨w7.heap.size, 0, none⟩ 1 1 [.int .i64 s1.opn, .int .i64 (p.st.clock + tk), .bool true] rfl rfl ?c1Z40 ?c2Z40 ?c3Z40 ?c4Z40 ?c5Z40 ?_)
            case c1Z40 =>
              intro j u hj
              match j, hj with
              | 0, hj => simp at hj; subst hj; simp [Addr.add]
              | 1, hj => simp at hj; subst hj; simp [Addr.add]
              | 2, hj => simp at hj; subst hj; simp [Addr.add]
            case c2Z40 => intro u hu; simp at hu; rcases hu with rfl | rfl | rfl <;> rfl
            case c3Z40 => have := H2.out.len; have := H3.out.len; unfold maxLen; omega
            case c4Z40 => have := H2.out.len; have := H3.out.len; omega
            case c5Z40 => simp; omega
            intro v8 w8 hown8 hg8 _
            have hsz7 : wr.heap.size < w7.heap.size := by omega
            have hx8g : w8.cell? ⟨wr.heap.size, 2, none⟩ = some (.bool gd) := (World.cell?_of_block (hg8.block wr.heap.size (by simp; omega) (HNE.out))).trans ((World.cell?_alloc_past _ _ _ hsz7).trans hx7g)
            have HR8 := Lib.hid ((HR7.out.alloc_ _).other_ hg8 (own_ne HO7.out (by omega)) (fun g hg => by have := (HO7.out.lt g hg).1; omega))
            have HO8 := Lib.hid (out_more hown8)
            clear hown8 hg8
            go_wp2_with fail
            refine (answer_run (s1.opn) gd HR8.out (by omega)).mono ?_
            rintro e w9 ⟨rfl, hr9, hg9⟩
            have HR9 := Lib.hid hr9
            have HO9 := Lib.hid (own_kept HO8.out hg9 (by omega))
            clear hr9 hg9
            go_wp2
            go_roundw
            case rel => exact ⟨k + 1, by omega, by go_num, by rw [H1.out, HA.out]; exact congrArg (Value.int .i64) ((Ak.answer_clock _ _ _).trans ecl).symm, by rw [H1.out, HA.out]; exact ⟨HR9.out.more_ (by omega), HO9.out⟩⟩
            case measure => simp [intOf]; omega
        · have HQ6 := Lib.hid hq
          rcases (show s1.opn = 0 ∨ 0 < s1.opn by omega) with hopn | hopn
          · have htk : Ak.takes s1 s1.opn = false := by unfold Ak.takes; rw [decide_eq_false (show ¬ 0 < s1.opn by omega), Bool.and_false]
            have HA : Hid (Ak.pstep p (tk, kd, gd) = ⟨Ak.answer s1 s1.opn gd, (Ak.moved p (tk, kd, gd)).out⟩) := by show _ = _; rw [HE.out, Ak.ans_none (by have := HQ6.out; omega) (by rw [HP1.out]; omega), HP1.out]
            have hnp : ¬ 0 < s1.opn := by omega
            have hdp : decide (0 < s1.opn) = false := decide_eq_false hnp
            clear hopn
            go_wp2_with fail
            refine (answer_run (s1.opn) gd HR7.out (by omega)).mono ?_
            rintro e w9 ⟨rfl, hr9, hg9⟩
            have HR9 := Lib.hid hr9
            have HO9 := Lib.hid (own_kept HO7.out hg9 (by omega))
            clear hr9 hg9
            go_wp2
            go_roundw
            case rel => exact ⟨k + 1, by omega, by go_num, by rw [H1.out, HA.out]; exact congrArg (Value.int .i64) ((Ak.answer_clock _ _ _).trans ecl).symm, by rw [H1.out, HA.out]; exact ⟨HR9.out.more_ (by omega), HO9.out⟩⟩
            case measure => simp [intOf]; omega
          · have htk : Ak.takes s1 s1.opn = true := by unfold Ak.takes; rw [decide_eq_true rfl, decide_eq_true hopn]; rfl
            have HA : Hid (Ak.pstep p (tk, kd, gd) = ⟨Ak.answer s1 s1.opn gd, (Ak.moved p (tk, kd, gd)).out ++ [(s1.opn, p.st.clock + tk, true)]⟩) := by show _ = _; rw [HE.out, Ak.ans_open (by have := HQ6.out; omega) (by rw [HP1.out]; omega), HP1.out, ecl]
            have hdp : decide (0 < s1.opn) = true := decide_eq_true hopn
            go_wp2_with (at_builtin; refine wpList_append_own _ rfl _ _ 46 rfl (w.heap.size + 1) 50 i0 _ 3 24 Try.underlying46 hi hz0 hz1 hz2 rfl (by decide) _ _ _ rfl (HO7.out.alloc _) ⟨w7.heap.size, 0, none⟩ 1 1 [.int .i64 s1.opn, .int .i64 (p.st.clock + tk), .bool true] rfl rfl ?c1Z41 ?c2Z41 ?c3Z41 ?c4Z41 ?c5Z41 ?_)
            case c1Z41 =>
              intro j u hj
              match j, hj with
              | 0, hj => simp at hj; subst hj; simp [Addr.add]
              | 1, hj => simp at hj; subst hj; simp [Addr.add]
              | 2, hj => simp at hj; subst hj; simp [Addr.add]
            case c2Z41 => intro u hu; simp at hu; rcases hu with rfl | rfl | rfl <;> rfl
            case c3Z41 => have := H2.out.len; have := H3.out.len; unfold maxLen; omega
            case c4Z41 => have := H2.out.len; have := H3.out.len; omega
            case c5Z41 => simp; omega
            intro v8 w8 hown8 hg8 _
            have hsz7 : wr.heap.size < w7.heap.size := by omega
            have hx8g : w8.cell? ⟨wr.heap.size, 2, none⟩ = some (.bool gd) := (World.cell?_of_block (hg8.block wr.heap.size (by simp; omega) (HNE.out))).trans ((World.cell?_alloc_past _ _ _ hsz7).trans hx7g)
            have HR8 := Lib.hid ((HR7.out.alloc_ _).other_ hg8 (own_ne HO7.out (by omega)) (fun g hg => by have := (HO7.out.lt g hg).1; omega))
            have HO8 := Lib.hid (out_more hown8)
            clear hown8 hg8
            go_wp2_with fail
            refine (answer_run (s1.opn) gd HR8.out (by omega)).mono ?_
            rintro e w9 ⟨rfl, hr9, hg9⟩
            have HR9 := Lib.hid hr9
            have HO9 := Lib.hid (own_kept HO8.out hg9 (by omega))
            clear hr9 hg9
            go_wp2
            go_roundw
            case rel => exact ⟨k + 1, by omega, by go_num, by rw [H1.out, HA.out]; exact congrArg (Value.int .i64) ((Ak.answer_clock _ _ _).trans ecl).symm, by rw [H1.out, HA.out]; exact ⟨HR9.out.more_ (by omega), HO9.out⟩⟩
            case measure => simp [intOf]; omega
        · have HQ6 := Lib.hid hq
          have htk : Ak.takes s1 (s1.opn - 1) = false := by unfold Ak.takes; rw [decide_eq_false (by omega)]; rfl
          have HA : Hid (Ak.pstep p (tk, kd, gd) = ⟨Ak.answer s1 (s1.opn - 1) gd, (Ak.moved p (tk, kd, gd)).out⟩) := by show _ = _; rw [HE.out, Ak.ans_two (by have := HQ6.out; omega), HP1.out]
          go_wp2_with fail
          refine (answer_run (s1.opn - 1) gd HR7.out (by omega)).mono ?_
          rintro e w9 ⟨rfl, hr9, hg9⟩
          have HR9 := Lib.hid hr9
          have HO9 := Lib.hid (own_kept HO7.out hg9 (by omega))
          clear hr9 hg9
          go_wp2
          go_roundw
          case rel => exact ⟨k + 1, by omega, by go_num, by rw [H1.out, HA.out]; exact congrArg (Value.int .i64) ((Ak.answer_clock _ _ _).trans ecl).symm, by rw [H1.out, HA.out]; exact ⟨HR9.out.more_ (by omega), HO9.out⟩⟩
          case measure => simp [intOf]; omega
        · have HQ6 := Lib.hid hq
          have htk : Ak.takes s1 (s1.opn + 1) = false := by unfold Ak.takes; rw [decide_eq_false (by omega)]; rfl
          have HA : Hid (Ak.pstep p (tk, kd, gd) = ⟨Ak.answer s1 (s1.opn + 1) gd, (Ak.moved p (tk, kd, gd)).out⟩) := by show _ = _; rw [HE.out, Ak.ans_three (by have := HQ6.out; omega), HP1.out]
          go_wp2_with fail
          refine (answer_run (s1.opn + 1) gd HR7.out (by omega)).mono ?_
          rintro e w9 ⟨rfl, hr9, hg9⟩
          have HR9 := Lib.hid hr9
          have HO9 := Lib.hid (own_kept HO7.out hg9 (by omega))
          clear hr9 hg9
          go_wp2
          go_roundw
          case rel => exact ⟨k + 1, by omega, by go_num, by rw [H1.out, HA.out]; exact congrArg (Value.int .i64) ((Ak.answer_clock _ _ _).trans ecl).symm, by rw [H1.out, HA.out]; exact ⟨HR9.out.more_ (by omega), HO9.out⟩⟩
          case measure => simp [intOf]; omega
        · have HA : Hid (Ak.pstep p (tk, kd, gd) = ⟨s1, (Ak.moved p (tk, kd, gd)).out⟩) := by show _ = _; rw [HE.out, Ak.ans_else (by omega), ← HP1.out]
          have hq0 : (kd % 6 == 0) = false := by simp; omega
          have hq1 : (kd % 6 == 1) = false := by simp; omega
          have hq2 : (kd % 6 == 2) = false := by simp; omega
          have hq3 : (kd % 6 == 3) = false := by simp; omega
          go_wp2
          go_roundw
          case rel => exact ⟨k + 1, by omega, by go_num, by rw [H1.out, HA.out]; exact congrArg (Value.int .i64) (ecl).symm, by rw [H1.out, HA.out]; exact ⟨HR7.out.more_ (by omega), HO7.out⟩⟩
          case measure => simp [intOf]; omega
      · have enum : Ak.number p.st (p.st.clock + tk) = p.st.asked + 1 := by unfold Ak.number; rw [hop]; rfl
        have hso : (Ak.move p.st (p.st.clock + tk)).opn = p.st.asked + 1 := by unfold Ak.move; rw [if_pos HKM.out, hop]; rfl
        have HOUT : Hid ((Ak.moved p (tk, kd, gd)).out = p.out ++ [(p.st.asked + 1, (Ak.move p.st (p.st.clock + tk)).since, false)]) := by show _ = _; unfold Ak.moved; dsimp only; rw [hop, if_pos rfl, hso]
        have hne : ((Ak.move p.st (p.st.clock + tk)).opn != p.st.asked + 1) = false := by simp [hso]
        have HSO := Lib.hid hso
        clear hso hop
        go_wp2_with fail
        refine (move_run (p.st.clock + tk) (HR.out.alloc_ _) (by omega)).mono ?_
        rintro e w3 ⟨rfl, hr3, hg3⟩
        have hx3k : w3.cell? ⟨wr.heap.size, 1, none⟩ = some (.int .u8 kd) := far_cell hg3 (by omega) (by simp)
        have hx3g : w3.cell? ⟨wr.heap.size, 2, none⟩ = some (.bool gd) := far_cell hg3 (by omega) (by simp)
        have hws3 := hg3.size
        simp only [World.size_alloc] at hws3
        have HR3 := Lib.hid hr3
        have HO3 := Lib.hid (own_kept (HO.out.alloc _) hg3 (by omega))
        clear hr3 hg3
        generalize Ak.move p.st (p.st.clock + tk) = s1 at *
        go_wp2_with fail
        refine (clock_run HR3.out).mono ?_
        rintro e w4 ⟨rfl, hr4, hg4⟩
        have hx4k : w4.cell? ⟨wr.heap.size, 1, none⟩ = some (.int .u8 kd) := (hg4.cell (p := ⟨wr.heap.size, 1, none⟩) (by simp; omega)).trans hx3k
        have hx4g : w4.cell? ⟨wr.heap.size, 2, none⟩ = some (.bool gd) := (hg4.cell (p := ⟨wr.heap.size, 2, none⟩) (by simp; omega)).trans hx3g
        have hws4 := hg4.size
        have HR4 := Lib.hid hr4
        have HO4 := Lib.hid (own_kept_below HO3.out hg4)
        clear hr4 hg4 hx3k hx3g
        go_wp2_with fail
        refine (open_run HR4.out).mono ?_
        rintro e w5 ⟨rfl, hr5, hg5⟩
        have hx5k : w5.cell? ⟨wr.heap.size, 1, none⟩ = some (.int .u8 kd) := (hg5.cell (p := ⟨wr.heap.size, 1, none⟩) (by simp; omega)).trans hx4k
        have hx5g : w5.cell? ⟨wr.heap.size, 2, none⟩ = some (.bool gd) := (hg5.cell (p := ⟨wr.heap.size, 2, none⟩) (by simp; omega)).trans hx4g
        have hws5 := hg5.size
        have HR5 := Lib.hid hr5
        have HO5 := Lib.hid (own_kept_below HO4.out hg5)
        clear hr5 hg5 hx4k hx4g
        go_wp2_with (at_builtin; refine wpList_append_own_at _ rfl _ _ 46 rfl (w.heap.size + 1) 50 i0 _ 3 24 Try.underlying46 hi hz0 hz1 hz2 rfl (by decide) _ _ _ rfl (HO5.out.alloc _) ⟨w5.heap.size, 0, none⟩ 1 1 [.int .i64 (p.st.asked + 1), .int .i64 s1.since, .bool false] rfl rfl ?c1Y ?c2Y ?c3Y ?c4Y ?c5Y ?_)
        case c1Y =>
          intro j u hj
          match j, hj with
          | 0, hj => simp at hj; subst hj; simp [Addr.add]
          | 1, hj => simp at hj; subst hj; simp [Addr.add]
          | 2, hj => simp at hj; subst hj; simp [Addr.add]
        case c2Y => intro u hu; simp at hu; rcases hu with rfl | rfl | rfl <;> rfl
        case c3Y => have := H2.out.len; have := H3.out.len; unfold maxLen; omega
        case c4Y => have := H2.out.len; have := H3.out.len; omega
        case c5Y => simp; omega
        intro v6 w6 hown6 hg6 _ hat6
        have hsz5 : wr.heap.size < w5.heap.size := by omega
        have hx6k : w6.cell? ⟨wr.heap.size, 1, none⟩ = some (.int .u8 kd) := (World.cell?_of_block (hg6.block wr.heap.size (by simp; omega) (row_ge HO.out (Nat.le_refl _)))).trans ((World.cell?_alloc_past _ _ _ hsz5).trans hx5k)
        have hx6g : w6.cell? ⟨wr.heap.size, 2, none⟩ = some (.bool gd) := (World.cell?_of_block (hg6.block wr.heap.size (by simp; omega) (row_ge HO.out (Nat.le_refl _)))).trans ((World.cell?_alloc_past _ _ _ hsz5).trans hx5g)
        have hws6 := hg6.size
        simp only [World.size_alloc] at hws6
        have HR6 := Lib.hid ((HR5.out.alloc_ _).other_ hg6 (own_ne HO5.out (by omega)) (fun g hg => by have := (HO5.out.lt g hg).1; omega))
        have hown7 := out_more hown6
        rw [← HOUT.out] at hown7
        have HO6 := Lib.hid hown7
        have HAT := Lib.hid hat6
        clear hown6 hown7 hg6 hx5k hx5g hne enum hat6
        have HNE := Lib.hid (show some wr.heap.size ≠ v6.ownBlock from by
          rcases HAT.out with e | e
          · rw [e]; exact row_ge HO.out (Nat.le_refl _)
          · rw [e]; intro e2; injection e2 with e2; omega)
        go_wp2_with fail
        refine (open_run HR6.out).mono ?_
        rintro e w7 ⟨rfl, hr7, hg7⟩
        have hx7k : w7.cell? ⟨wr.heap.size, 1, none⟩ = some (.int .u8 kd) := (hg7.cell (p := ⟨wr.heap.size, 1, none⟩) (by simp; omega)).trans hx6k
        have hx7g : w7.cell? ⟨wr.heap.size, 2, none⟩ = some (.bool gd) := (hg7.cell (p := ⟨wr.heap.size, 2, none⟩) (by simp; omega)).trans hx6g
        have hws7 := hg7.size
        have HR7 := Lib.hid hr7
        have HO7 := Lib.hid (own_kept_below HO6.out hg7)
        clear hr7 hg7
        rcases (show kd % 6 = 0 ∨ kd % 6 = 1 ∨ kd % 6 = 2 ∨ kd % 6 = 3 ∨ 3 < kd % 6 by omega) with hq | hq | hq | hq | hq
        · have HQ6 := Lib.hid hq
          rcases (show s1.opn = 0 ∨ 0 < s1.opn by omega) with hopn | hopn
          · have htk : Ak.takes s1 s1.opn = false := by unfold Ak.takes; rw [decide_eq_false (show ¬ 0 < s1.opn by omega), Bool.and_false]
            have HA : Hid (Ak.pstep p (tk, kd, gd) = ⟨Ak.answer s1 s1.opn gd, (Ak.moved p (tk, kd, gd)).out⟩) := by show _ = _; rw [HE.out, Ak.ans_none (by have := HQ6.out; omega) (by rw [HP1.out]; omega), HP1.out]
            have hnp : ¬ 0 < s1.opn := by omega
            have hdp : decide (0 < s1.opn) = false := decide_eq_false hnp
            clear hopn
            go_wp2_with fail
            refine (answer_run (s1.opn) gd HR7.out (by omega)).mono ?_
            rintro e w9 ⟨rfl, hr9, hg9⟩
            have HR9 := Lib.hid hr9
            have HO9 := Lib.hid (own_kept HO7.out hg9 (by omega))
            clear hr9 hg9
            go_wp2
            go_roundw
            case rel => exact ⟨k + 1, by omega, by go_num, by rw [H1.out, HA.out]; exact congrArg (Value.int .i64) ((Ak.answer_clock _ _ _).trans ecl).symm, by rw [H1.out, HA.out]; exact ⟨HR9.out.more_ (by omega), HO9.out⟩⟩
            case measure => simp [intOf]; omega
          · have htk : Ak.takes s1 s1.opn = true := by unfold Ak.takes; rw [decide_eq_true rfl, decide_eq_true hopn]; rfl
            have HA : Hid (Ak.pstep p (tk, kd, gd) = ⟨Ak.answer s1 s1.opn gd, (Ak.moved p (tk, kd, gd)).out ++ [(s1.opn, p.st.clock + tk, true)]⟩) := by show _ = _; rw [HE.out, Ak.ans_open (by have := HQ6.out; omega) (by rw [HP1.out]; omega), HP1.out, ecl]
            have hdp : decide (0 < s1.opn) = true := decide_eq_true hopn
            go_wp2_with (at_builtin; refine wpList_append_own _ rfl _ _ 46 rfl (w.heap.size + 1) 50 i0 _ 3 24 Try.underlying46 hi hz0 hz1 hz2 rfl (by decide) _ _ _ rfl (HO7.out.alloc _) ⟨w7.heap.size, 0, none⟩ 1 1 [.int .i64 s1.opn, .int .i64 (p.st.clock + tk), .bool true] rfl rfl ?c1Z60 ?c2Z60 ?c3Z60 ?c4Z60 ?c5Z60 ?_)
            case c1Z60 =>
              intro j u hj
              match j, hj with
              | 0, hj => simp at hj; subst hj; simp [Addr.add]
              | 1, hj => simp at hj; subst hj; simp [Addr.add]
              | 2, hj => simp at hj; subst hj; simp [Addr.add]
            case c2Z60 => intro u hu; simp at hu; rcases hu with rfl | rfl | rfl <;> rfl
            case c3Z60 => have := H2.out.len; have := H3.out.len; unfold maxLen; omega
            case c4Z60 => have := H2.out.len; have := H3.out.len; omega
            case c5Z60 => simp; omega
            intro v8 w8 hown8 hg8 _
            have hsz7 : wr.heap.size < w7.heap.size := by omega
            have hx8g : w8.cell? ⟨wr.heap.size, 2, none⟩ = some (.bool gd) := (World.cell?_of_block (hg8.block wr.heap.size (by simp; omega) (HNE.out))).trans ((World.cell?_alloc_past _ _ _ hsz7).trans hx7g)
            have HR8 := Lib.hid ((HR7.out.alloc_ _).other_ hg8 (own_ne HO7.out (by omega)) (fun g hg => by have := (HO7.out.lt g hg).1; omega))
            have HO8 := Lib.hid (out_more hown8)
            clear hown8 hg8
            go_wp2_with fail
            refine (answer_run (s1.opn) gd HR8.out (by omega)).mono ?_
            rintro e w9 ⟨rfl, hr9, hg9⟩
            have HR9 := Lib.hid hr9
            have HO9 := Lib.hid (own_kept HO8.out hg9 (by omega))
            clear hr9 hg9
            go_wp2
            go_roundw
            case rel => exact ⟨k + 1, by omega, by go_num, by rw [H1.out, HA.out]; exact congrArg (Value.int .i64) ((Ak.answer_clock _ _ _).trans ecl).symm, by rw [H1.out, HA.out]; exact ⟨HR9.out.more_ (by omega), HO9.out⟩⟩
            case measure => simp [intOf]; omega
        · have HQ6 := Lib.hid hq
          rcases (show s1.opn = 0 ∨ 0 < s1.opn by omega) with hopn | hopn
          · have htk : Ak.takes s1 s1.opn = false := by unfold Ak.takes; rw [decide_eq_false (show ¬ 0 < s1.opn by omega), Bool.and_false]
            have HA : Hid (Ak.pstep p (tk, kd, gd) = ⟨Ak.answer s1 s1.opn gd, (Ak.moved p (tk, kd, gd)).out⟩) := by show _ = _; rw [HE.out, Ak.ans_none (by have := HQ6.out; omega) (by rw [HP1.out]; omega), HP1.out]
            have hnp : ¬ 0 < s1.opn := by omega
            have hdp : decide (0 < s1.opn) = false := decide_eq_false hnp
            clear hopn
            go_wp2_with fail
            refine (answer_run (s1.opn) gd HR7.out (by omega)).mono ?_
            rintro e w9 ⟨rfl, hr9, hg9⟩
            have HR9 := Lib.hid hr9
            have HO9 := Lib.hid (own_kept HO7.out hg9 (by omega))
            clear hr9 hg9
            go_wp2
            go_roundw
            case rel => exact ⟨k + 1, by omega, by go_num, by rw [H1.out, HA.out]; exact congrArg (Value.int .i64) ((Ak.answer_clock _ _ _).trans ecl).symm, by rw [H1.out, HA.out]; exact ⟨HR9.out.more_ (by omega), HO9.out⟩⟩
            case measure => simp [intOf]; omega
          · have htk : Ak.takes s1 s1.opn = true := by unfold Ak.takes; rw [decide_eq_true rfl, decide_eq_true hopn]; rfl
            have HA : Hid (Ak.pstep p (tk, kd, gd) = ⟨Ak.answer s1 s1.opn gd, (Ak.moved p (tk, kd, gd)).out ++ [(s1.opn, p.st.clock + tk, true)]⟩) := by show _ = _; rw [HE.out, Ak.ans_open (by have := HQ6.out; omega) (by rw [HP1.out]; omega), HP1.out, ecl]
            have hdp : decide (0 < s1.opn) = true := decide_eq_true hopn
            go_wp2_with (at_builtin; refine wpList_append_own _ rfl _ _ 46 rfl (w.heap.size + 1) 50 i0 _ 3 24 Try.underlying46 hi hz0 hz1 hz2 rfl (by decide) _ _ _ rfl (HO7.out.alloc _) ⟨w7.heap.size, 0, none⟩ 1 1 [.int .i64 s1.opn, .int .i64 (p.st.clock + tk), .bool true] rfl rfl ?c1Z61 ?c2Z61 ?c3Z61 ?c4Z61 ?c5Z61 ?_)
            case c1Z61 =>
              intro j u hj
              match j, hj with
              | 0, hj => simp at hj; subst hj; simp [Addr.add]
              | 1, hj => simp at hj; subst hj; simp [Addr.add]
              | 2, hj => simp at hj; subst hj; simp [Addr.add]
            case c2Z61 => intro u hu; simp at hu; rcases hu with rfl | rfl | rfl <;> rfl
            case c3Z61 => have := H2.out.len; have := H3.out.len; unfold maxLen; omega
            case c4Z61 => have := H2.out.len; have := H3.out.len; omega
            case c5Z61 => simp; omega
            intro v8 w8 hown8 hg8 _
            have hsz7 : wr.heap.size < w7.heap.size := by omega
            have hx8g : w8.cell? ⟨wr.heap.size, 2, none⟩ = some (.bool gd) := (World.cell?_of_block (hg8.block wr.heap.size (by simp; omega) (HNE.out))).trans ((World.cell?_alloc_past _ _ _ hsz7).trans hx7g)
            have HR8 := Lib.hid ((HR7.out.alloc_ _).other_ hg8 (own_ne HO7.out (by omega)) (fun g hg => by have := (HO7.out.lt g hg).1; omega))
            have HO8 := Lib.hid (out_more hown8)
            clear hown8 hg8
            go_wp2_with fail
            refine (answer_run (s1.opn) gd HR8.out (by omega)).mono ?_
            rintro e w9 ⟨rfl, hr9, hg9⟩
            have HR9 := Lib.hid hr9
            have HO9 := Lib.hid (own_kept HO8.out hg9 (by omega))
            clear hr9 hg9
            go_wp2
            go_roundw
            case rel => exact ⟨k + 1, by omega, by go_num, by rw [H1.out, HA.out]; exact congrArg (Value.int .i64) ((Ak.answer_clock _ _ _).trans ecl).symm, by rw [H1.out, HA.out]; exact ⟨HR9.out.more_ (by omega), HO9.out⟩⟩
            case measure => simp [intOf]; omega
        · have HQ6 := Lib.hid hq
          have htk : Ak.takes s1 (s1.opn - 1) = false := by unfold Ak.takes; rw [decide_eq_false (by omega)]; rfl
          have HA : Hid (Ak.pstep p (tk, kd, gd) = ⟨Ak.answer s1 (s1.opn - 1) gd, (Ak.moved p (tk, kd, gd)).out⟩) := by show _ = _; rw [HE.out, Ak.ans_two (by have := HQ6.out; omega), HP1.out]
          go_wp2_with fail
          refine (answer_run (s1.opn - 1) gd HR7.out (by omega)).mono ?_
          rintro e w9 ⟨rfl, hr9, hg9⟩
          have HR9 := Lib.hid hr9
          have HO9 := Lib.hid (own_kept HO7.out hg9 (by omega))
          clear hr9 hg9
          go_wp2
          go_roundw
          case rel => exact ⟨k + 1, by omega, by go_num, by rw [H1.out, HA.out]; exact congrArg (Value.int .i64) ((Ak.answer_clock _ _ _).trans ecl).symm, by rw [H1.out, HA.out]; exact ⟨HR9.out.more_ (by omega), HO9.out⟩⟩
          case measure => simp [intOf]; omega
        · have HQ6 := Lib.hid hq
          have htk : Ak.takes s1 (s1.opn + 1) = false := by unfold Ak.takes; rw [decide_eq_false (by omega)]; rfl
          have HA : Hid (Ak.pstep p (tk, kd, gd) = ⟨Ak.answer s1 (s1.opn + 1) gd, (Ak.moved p (tk, kd, gd)).out⟩) := by show _ = _; rw [HE.out, Ak.ans_three (by have := HQ6.out; omega), HP1.out]
          go_wp2_with fail
          refine (answer_run (s1.opn + 1) gd HR7.out (by omega)).mono ?_
          rintro e w9 ⟨rfl, hr9, hg9⟩
          have HR9 := Lib.hid hr9
          have HO9 := Lib.hid (own_kept HO7.out hg9 (by omega))
          clear hr9 hg9
          go_wp2
          go_roundw
          case rel => exact ⟨k + 1, by omega, by go_num, by rw [H1.out, HA.out]; exact congrArg (Value.int .i64) ((Ak.answer_clock _ _ _).trans ecl).symm, by rw [H1.out, HA.out]; exact ⟨HR9.out.more_ (by omega), HO9.out⟩⟩
          case measure => simp [intOf]; omega
        · have HA : Hid (Ak.pstep p (tk, kd, gd) = ⟨s1, (Ak.moved p (tk, kd, gd)).out⟩) := by show _ = _; rw [HE.out, Ak.ans_else (by omega), ← HP1.out]
          have hq0 : (kd % 6 == 0) = false := by simp; omega
          have hq1 : (kd % 6 == 1) = false := by simp; omega
          have hq2 : (kd % 6 == 2) = false := by simp; omega
          have hq3 : (kd % 6 == 3) = false := by simp; omega
          go_wp2
          go_roundw
          case rel => exact ⟨k + 1, by omega, by go_num, by rw [H1.out, HA.out]; exact congrArg (Value.int .i64) (ecl).symm, by rw [H1.out, HA.out]; exact ⟨HR7.out.more_ (by omega), HO7.out⟩⟩
          case measure => simp [intOf]; omega
    · have hkM : k = M := by omega
      have hend : xs.take k = xs.take 150 := by
        have h2 := HM.out
        have h3 := HSM.out.len
        rcases Nat.le_total m 150 with h4 | h4
        · rw [List.take_of_length_le (by omega), List.take_of_length_le (by omega)]
        · rw [hkM, show M = 150 by omega]
      have HR := Lib.hid hrun
      have HO := Lib.hid hown
      have HE := Lib.hid hend
      clear hrun hown hend hgood
      clear hkM
      go_wp2
      go_ret3
      rw [← HE.out]
      exact ⟨_, rfl, HR.out.more_ (by omega), HO.out⟩
end Go.Proofs.Ytdbknbgomcabbaa
