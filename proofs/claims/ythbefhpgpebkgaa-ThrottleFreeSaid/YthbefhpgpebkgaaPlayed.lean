/- 'played', walked: it plays the steps as the plain functions say. Conditions: a width from 0 to 2^20, and a slice of steps that reads as numbers of their types. -/
import Derived.Test.YthbefhpgpebkgaaPlay
import Derived.Test.YthbefhpgpebkgaaTIE
import Derived.Outline
import Derived.LoopTactic
namespace Go.Proofs.Ythbefhpgpebkgaa
open Go.RowKit

/-- A slice value '.slice A n c' that reads as the steps xs, in blocks below B. -/
structure Smalls (w : World) (B : Nat) (A : Option Addr) (n c : Nat) (xs : List (Int × Int)) : Prop where
  len : xs.length = n
  cap : n ≤ c
  max : c ≤ 9223372036854775807
  fit : ∀ x ∈ xs, Thr.Fit x
  at_ : ∀ k, (h : k < xs.length) → ∃ b off, A = some ⟨b, off, none⟩ ∧ b < B ∧ w.cell? ⟨b, off + k * 2, none⟩ = some (.int .u16 xs[k].1) ∧ w.cell? ⟨b, off + k * 2 + 1, none⟩ = some (.int .u8 xs[k].2)

def outCells (l : List (Int × Int × Int)) : List Value := l.flatMap fun x => [.int .i64 x.1, .int .i64 x.2.1, .int .i64 x.2.2]

theorem out_more {W : World} {base : Nat} {v : Value} {l : List (Int × Int × Int)} {a b c : Int} (h : W.ownsRow base 30 3 v (l.length + 1) (outCells l ++ [.int .i64 a, .int .i64 b, .int .i64 c])) :
    W.ownsRow base 30 3 v (l ++ [(a, b, c)]).length (outCells (l ++ [(a, b, c)])) := by
  simpa [outCells] using h
theorem own_ne {W : World} {base b size n : Nat} {e : TypeId} {v : Value} {xs : List Value} (h : W.ownsRow base e size v n xs) (hb : b < base) : some b ≠ v.ownBlock := by
  intro e
  have := (h.lt b e.symm).1
  omega

theorem results_four {fn : Func} {t u v x : Tmp} (h : fn.results = #[.tmp t, .tmp u, .tmp v, .tmp x]) (tmps : Array Value) (P : Program) (w : World) :
    (results fn tmps).run P w = .ok (.tuple #[tmps.getD t undef, tmps.getD u undef, tmps.getD v undef, tmps.getD x undef]) w := by simp [results, h]

theorem Try.info30 : (Try.prog.info? 30).map (fun i => (i.zero, i.size, i.bytes)) = some (some (.agg #[.int .i64 0, .int .i64 0, .int .i64 0]), 3, 24) := by kernel_rfl

set_option maxRecDepth 100000 in
set_option maxHeartbeats 1000000 in
theorem played_any (n : Int) (A : Option Addr) (m c : Nat) (xs : List (Int × Int)) (w : World) (h0 : 0 ≤ n) (h1 : n ≤ 1048576) (hs : Smalls w w.heap.size A m c xs) :
    Calls Try.prog 12 #[.int .i64 n, .slice A m c] w fun e w' => ∃ v, e = .returned (.tuple #[.pointer (some ⟨w.heap.size, 0, none⟩), v, .int .i64 (Thr.after n (xs.take 200)).st.now, .bool true]) ∧
      TI.Run w w' w.heap.size 1000 (Thr.after n (xs.take 200)).st ∧ w'.ownsRow (w.heap.size + 1) 30 3 v (Thr.after n (xs.take 200)).out.length (outCells (Thr.after n (xs.take 200)).out) := by
  have c0 := TI.new_run (W := w) n w h0 h1 (Below.refl _ _)
  obtain ⟨i0, hi, hz0, hz1, hz2⟩ := info_parts Try.info30
  have hcap := hs.cap
  have hmax := hs.max
  obtain ⟨M, hM, hMc, hM2⟩ : ∃ M : Nat, (if (200 : Int) < (m : Int) then (200 : Int) else (m : Int)) = (M : Int) ∧ M ≤ c ∧ M = min 200 m := by
    refine ⟨min 200 m, ?_, by omega, rfl⟩
    split <;> omega
  have HM := Lib.hid hM2
  clear hM2
  go_enter Try.func12, Try.ntmps12
  go_wp2_with fail
  refine c0.mono ?_
  rintro e w1 ⟨rfl, hr1, hb1⟩
  have HR1 := Lib.hid hr1
  clear hr1 c0
  go_wp2
  go_loopw [10, 11, 12, 35] (fun t o v i wr => ∃ k : Nat, k ≤ M ∧ i = .int .i64 k ∧ t = .int .i64 (Thr.after n (xs.take k)).st.now ∧ o = .int .i64 (Thr.after n (xs.take k)).st.offered ∧
      TI.Run w wr w.heap.size (2 * k) (Thr.after n (xs.take k)).st ∧ wr.ownsRow (w.heap.size + 1) 30 3 v (Thr.after n (xs.take k)).out.length (outCells (Thr.after n (xs.take k)).out))
    (fun _ _ _ i _ => M - (intOf i).toNat)
  case atStart =>
    exact ⟨0, by omega, rfl, rfl, rfl, HR1.out, World.ownsRow_nil _ _ _ _⟩
  case round =>
    obtain ⟨k, hk, rfl, rfl, rfl, hrun, hown⟩ := hrel
    have hMl : M ≤ xs.length := by have := HM.out; have := hs.len; omega
    have hM200 : M ≤ 200 := by have := HM.out; omega
    have hgood := Thr.good_after n h0 h1 xs hs.fit k (by omega) (by omega)
    by_cases hlt : k < M
    · have hkl : k < xs.length := by omega
      have hstep := Thr.after_take_succ n xs k hkl
      have hfit := hs.fit _ (List.getElem_mem hkl)
      obtain ⟨ab, off, rfl, hab, hcell1, hcell2⟩ := hs.at_ k hkl
      generalize xs[k] = x at hstep hfit hcell1 hcell2
      generalize Thr.after n (xs.take k) = p at *
      have H1 := Lib.hid hstep
      have H2 := Lib.hid hgood
      clear hstep hgood
      obtain ⟨tk, kd⟩ := x
      obtain ⟨hx0, hx1, hx2, hx3⟩ := hfit
      dsimp only at hx0 hx1 hx2 hx3 hcell1 hcell2
      have hc1 := (hrun.below.cell (p := ⟨ab, off + k * 2, none⟩) hab).trans hcell1
      have hc2 := (hrun.below.cell (p := ⟨ab, off + k * 2 + 1, none⟩) hab).trans hcell2
      have hn0 := H2.out.ok.n0
      have hn1 := H2.out.now
      have ho0 := H2.out.ok.o0
      have ho1 := H2.out.ok.o1
      have HR := Lib.hid hrun
      have HO := Lib.hid hown
      clear hrun hown hcell1 hcell2
      have em : Thr.moveErr p.st (p.st.now + tk) = 0 := by
        unfold Thr.moveErr
        rw [if_pos (Thr.move_fit H2.out (by omega) (x := (tk, kd)) ⟨hx0, hx1, hx2, hx3⟩)]
      have hbw : w.heap.size < wr.heap.size := Has.lt HR.out.at_
      have HN : Hid ((Thr.move p.st (p.st.now + tk)).now = p.st.now + tk) := Thr.moved_now H2.out (by omega) (kd := kd) ⟨hx0, hx1, hx2, hx3⟩
      rcases (show kd % 8 < 2 ∨ 4 < kd % 8 ∨ (2 ≤ kd % 8 ∧ kd % 8 < 4) ∨ kd % 8 = 4 by omega) with hq | hq | hq | hq
      · have ho : Thr.offers kd = true := by simp [Thr.offers]; omega
        have ht : Thr.takes kd = false := by simp [Thr.takes]; omega
        have HE := Lib.hid (Thr.p_offer (p := p) (tk := tk) ho ht)
        clear ho ht
        go_wp2_with fail
        refine (TI.move_run (p.st.now + tk) (HR.out.alloc_ _)).mono ?_
        rintro e w2 ⟨rfl, hr2, hg2⟩
        have hx2c : w2.cell? ⟨wr.heap.size, 1, none⟩ = some (.int .u8 kd) := far_cell hg2 (by omega) (by simp)
        have HR2 := Lib.hid hr2
        have HO2 := Lib.hid (own_kept (HO.out.alloc _) hg2 (by omega))
        clear hr2 hg2
        go_wp2_with fail
        refine (TI.offer_run p.st.offered HR2.out (by omega)).mono ?_
        rintro e w3 ⟨rfl, hr3, hg3⟩
        have hx3c : w3.cell? ⟨wr.heap.size, 1, none⟩ = some (.int .u8 kd) := far_cell hg3 (by omega) hx2c
        have HR3 := Lib.hid hr3
        have HO3 := Lib.hid (own_kept HO2.out hg3 (by omega))
        clear hr3 hg3
        go_wp2
        go_roundw
        case rel => exact ⟨k + 1, by omega, by go_num, by rw [H1.out, HE.out]; simp only [Thr.offer_now, HN.out], by rw [H1.out, HE.out]; simp only [Thr.offer_off, Thr.moved_off], by rw [H1.out, HE.out]; exact HR3.out.more_ (by omega), by rw [H1.out, HE.out]; exact HO3.out⟩
        case measure => simp [intOf]; omega
      · have ho : Thr.offers kd = false := by simp [Thr.offers]; omega
        have ht : Thr.takes kd = false := by simp [Thr.takes]; omega
        have HE := Lib.hid (Thr.p_no (p := p) (tk := tk) ho ht)
        clear ho ht
        have hq4 : (kd % 8 == 4) = false := by simp; omega
        go_wp2_with fail
        refine (TI.move_run (p.st.now + tk) (HR.out.alloc_ _)).mono ?_
        rintro e w2 ⟨rfl, hr2, hg2⟩
        have hx2c : w2.cell? ⟨wr.heap.size, 1, none⟩ = some (.int .u8 kd) := far_cell hg2 (by omega) (by simp)
        have HR2 := Lib.hid hr2
        have HO2 := Lib.hid (own_kept (HO.out.alloc _) hg2 (by omega))
        clear hr2 hg2
        go_wp2
        go_roundw
        case rel => exact ⟨k + 1, by omega, by go_num, by rw [H1.out, HE.out]; simp only [HN.out], by rw [H1.out, HE.out]; simp only [Thr.moved_off], by rw [H1.out, HE.out]; exact HR2.out.more_ (by omega), by rw [H1.out, HE.out]; exact HO2.out⟩
        case measure => simp [intOf]; omega
      · have ho : Thr.offers kd = false := by simp [Thr.offers]; omega
        have ht : Thr.takes kd = true := by simp [Thr.takes]; omega
        have HE := Lib.hid (Thr.p_take (p := p) (tk := tk) ho ht)
        clear ho ht
        have hq4 : (kd % 8 == 4) = false := by simp; omega
        go_wp2_with fail
        refine (TI.move_run (p.st.now + tk) (HR.out.alloc_ _)).mono ?_
        rintro e w2 ⟨rfl, hr2, hg2⟩
        have hx2c : w2.cell? ⟨wr.heap.size, 1, none⟩ = some (.int .u8 kd) := far_cell hg2 (by omega) (by simp)
        have HR2 := Lib.hid hr2
        have HO2 := Lib.hid (own_kept (HO.out.alloc _) hg2 (by omega))
        clear hr2 hg2
        rcases hr : Thr.ready (Thr.move p.st (p.st.now + tk)) with _ | _
        · have hv : Thr.taken 0 (Thr.move p.st (p.st.now + tk)) = 0 := by simp only [Thr.taken, hr, Bool.false_eq_true, if_false]
          have HF : Hid (Thr.pstep p (tk, kd) = ⟨Thr.take 0 (Thr.move p.st (p.st.now + tk)), p.out⟩) := by show _ = _; rw [HE.out, hr]; rfl
          clear HE
          have HE := HF
          clear HF
          go_wp2_with fail
          refine (TI.take_run HR2.out (by omega)).mono ?_
          rintro e w4 ⟨rfl, hr4, hg4⟩
          have HR4 := Lib.hid hr4
          have HO4 := Lib.hid (own_kept HO2.out hg4 (by omega))
          have hs4 : w.heap.size < w4.heap.size := Has.lt hr4.at_
          clear hr4 hg4
          go_wp2
          go_roundw
          case rel => exact ⟨k + 1, by omega, by go_num, by rw [H1.out, HE.out]; simp only [Thr.take_now, HN.out], by rw [H1.out, HE.out]; simp only [Thr.take_off, Thr.moved_off], by rw [H1.out, HE.out]; exact HR4.out.more_ (by omega), by rw [H1.out, HE.out]; exact HO4.out⟩
          case measure => simp [intOf]; omega
        · have hv : Thr.taken 0 (Thr.move p.st (p.st.now + tk)) = (Thr.move p.st (p.st.now + tk)).v := by simp only [Thr.taken, hr, if_true]
          have HF : Hid (Thr.pstep p (tk, kd) = ⟨Thr.take 0 (Thr.move p.st (p.st.now + tk)), p.out ++ [((Thr.move p.st (p.st.now + tk)).v, p.st.now + tk, p.st.offered)]⟩) := by show _ = _; rw [HE.out, hr, HN.out]; rfl
          clear HE
          have HE := HF
          clear HF
          go_wp2_with fail
          refine (TI.take_run HR2.out (by omega)).mono ?_
          rintro e w4 ⟨rfl, hr4, hg4⟩
          have HR4 := Lib.hid hr4
          have HO4 := Lib.hid (own_kept HO2.out hg4 (by omega))
          have hs4 : w.heap.size < w4.heap.size := Has.lt hr4.at_
          clear hr4 hg4
          go_wp2_with (at_builtin; refine wpList_append_own _ rfl _ _ 26 rfl (w.heap.size + 1) 30 i0 _ 3 24 Try.underlying26 hi hz0 hz1 hz2 rfl (by decide) _ _ _ rfl (HO4.out.alloc _) ⟨w4.heap.size, 0, none⟩ 1 1 [.int .i64 ((Thr.move p.st (p.st.now + tk)).v), .int .i64 (p.st.now + tk), .int .i64 (p.st.offered)] rfl rfl ?c1T ?c2T ?c3T ?c4T ?c5T ?_)
          case c1T =>
            intro j u hj
            match j, hj with
            | 0, hj => simp at hj; subst hj; simp [Addr.add]
            | 1, hj => simp at hj; subst hj; simp [Addr.add]
            | 2, hj => simp at hj; subst hj; simp [Addr.add]
          case c2T => intro u hu; simp at hu; rcases hu with rfl | rfl | rfl <;> rfl
          case c3T => have := H2.out.len; have := H2.out.ok.t1; unfold maxLen; omega
          case c4T => have := H2.out.len; have := H2.out.ok.t1; omega
          case c5T => simp; omega
          intro v' w5 hown5 hg5 _
          have HR5 := Lib.hid ((HR4.out.alloc_ _).other_ hg5 (own_ne (HO4.out) (by omega)) (fun g hg => by have := (HO4.out.lt g hg).1; omega))
          have HO5 := Lib.hid hown5
          clear hown5 hg5
          go_wp2
          go_roundw
          case rel => exact ⟨k + 1, by omega, by go_num, by rw [H1.out, HE.out]; simp only [Thr.take_now, HN.out], by rw [H1.out, HE.out]; simp only [Thr.take_off, Thr.moved_off], by rw [H1.out, HE.out]; exact HR5.out.more_ (by omega), by rw [H1.out, HE.out]; exact (out_more HO5.out)⟩
          case measure => simp [intOf]; omega
      · have ho : Thr.offers kd = true := by simp [Thr.offers]; omega
        have ht : Thr.takes kd = true := by simp [Thr.takes]; omega
        have HE := Lib.hid (Thr.p_both (p := p) (tk := tk) ho ht)
        clear ho ht
        go_wp2_with fail
        refine (TI.move_run (p.st.now + tk) (HR.out.alloc_ _)).mono ?_
        rintro e w2 ⟨rfl, hr2, hg2⟩
        have hx2c : w2.cell? ⟨wr.heap.size, 1, none⟩ = some (.int .u8 kd) := far_cell hg2 (by omega) (by simp)
        have HR2 := Lib.hid hr2
        have HO2 := Lib.hid (own_kept (HO.out.alloc _) hg2 (by omega))
        clear hr2 hg2
        go_wp2_with fail
        refine (TI.offer_run p.st.offered HR2.out (by omega)).mono ?_
        rintro e w3 ⟨rfl, hr3, hg3⟩
        have hx3c : w3.cell? ⟨wr.heap.size, 1, none⟩ = some (.int .u8 kd) := far_cell hg3 (by omega) hx2c
        have HR3 := Lib.hid hr3
        have HO3 := Lib.hid (own_kept HO2.out hg3 (by omega))
        clear hr3 hg3
        rcases hr : Thr.ready (Thr.offer (Thr.move p.st (p.st.now + tk)) p.st.offered) with _ | _
        · have hv : Thr.taken 0 (Thr.offer (Thr.move p.st (p.st.now + tk)) p.st.offered) = 0 := by simp only [Thr.taken, hr, Bool.false_eq_true, if_false]
          have HF : Hid (Thr.pstep p (tk, kd) = ⟨Thr.take 0 (Thr.offer (Thr.move p.st (p.st.now + tk)) p.st.offered), p.out⟩) := by show _ = _; rw [HE.out, hr]; rfl
          clear HE
          have HE := HF
          clear HF
          go_wp2_with fail
          refine (TI.take_run HR3.out (by omega)).mono ?_
          rintro e w4 ⟨rfl, hr4, hg4⟩
          have HR4 := Lib.hid hr4
          have HO4 := Lib.hid (own_kept HO3.out hg4 (by omega))
          have hs4 : w.heap.size < w4.heap.size := Has.lt hr4.at_
          clear hr4 hg4
          go_wp2
          go_roundw
          case rel => exact ⟨k + 1, by omega, by go_num, by rw [H1.out, HE.out]; simp only [Thr.take_now, Thr.offer_now, HN.out], by rw [H1.out, HE.out]; simp only [Thr.take_off, Thr.offer_off, Thr.moved_off], by rw [H1.out, HE.out]; exact HR4.out.more_ (by omega), by rw [H1.out, HE.out]; exact HO4.out⟩
          case measure => simp [intOf]; omega
        · have hv : Thr.taken 0 (Thr.offer (Thr.move p.st (p.st.now + tk)) p.st.offered) = p.st.offered := by simp only [Thr.taken, hr, if_true]; rfl
          have HF : Hid (Thr.pstep p (tk, kd) = ⟨Thr.take 0 (Thr.offer (Thr.move p.st (p.st.now + tk)) p.st.offered), p.out ++ [(p.st.offered, p.st.now + tk, p.st.offered + 1)]⟩) := by show _ = _; rw [HE.out, hr, HN.out]; rfl
          clear HE
          have HE := HF
          clear HF
          go_wp2_with fail
          refine (TI.take_run HR3.out (by omega)).mono ?_
          rintro e w4 ⟨rfl, hr4, hg4⟩
          have HR4 := Lib.hid hr4
          have HO4 := Lib.hid (own_kept HO3.out hg4 (by omega))
          have hs4 : w.heap.size < w4.heap.size := Has.lt hr4.at_
          clear hr4 hg4
          go_wp2_with (at_builtin; refine wpList_append_own _ rfl _ _ 26 rfl (w.heap.size + 1) 30 i0 _ 3 24 Try.underlying26 hi hz0 hz1 hz2 rfl (by decide) _ _ _ rfl (HO4.out.alloc _) ⟨w4.heap.size, 0, none⟩ 1 1 [.int .i64 (p.st.offered), .int .i64 (p.st.now + tk), .int .i64 (p.st.offered + 1)] rfl rfl ?c1B ?c2B ?c3B ?c4B ?c5B ?_)
          case c1B =>
            intro j u hj
            match j, hj with
            | 0, hj => simp at hj; subst hj; simp [Addr.add]
            | 1, hj => simp at hj; subst hj; simp [Addr.add]
            | 2, hj => simp at hj; subst hj; simp [Addr.add]
          case c2B => intro u hu; simp at hu; rcases hu with rfl | rfl | rfl <;> rfl
          case c3B => have := H2.out.len; have := H2.out.ok.t1; unfold maxLen; omega
          case c4B => have := H2.out.len; have := H2.out.ok.t1; omega
          case c5B => simp; omega
          intro v' w5 hown5 hg5 _
          have HR5 := Lib.hid ((HR4.out.alloc_ _).other_ hg5 (own_ne (HO4.out) (by omega)) (fun g hg => by have := (HO4.out.lt g hg).1; omega))
          have HO5 := Lib.hid hown5
          clear hown5 hg5
          go_wp2
          go_roundw
          case rel => exact ⟨k + 1, by omega, by go_num, by rw [H1.out, HE.out]; simp only [Thr.take_now, Thr.offer_now, HN.out], by rw [H1.out, HE.out]; simp only [Thr.take_off, Thr.offer_off, Thr.moved_off], by rw [H1.out, HE.out]; exact HR5.out.more_ (by omega), by rw [H1.out, HE.out]; exact (out_more HO5.out)⟩
          case measure => simp [intOf]; omega
    · have hkM : k = M := by omega
      have hend : xs.take k = xs.take 200 := by
        have h2 := HM.out
        have h3 := hs.len
        rcases Nat.le_total m 200 with h4 | h4
        · rw [List.take_of_length_le (by omega), List.take_of_length_le (by omega)]
        · rw [hkM, show M = 200 by omega]
      have HR := Lib.hid hrun
      have HO := Lib.hid hown
      have HE := Lib.hid hend
      clear hrun hown hend hgood
      clear hkM
      go_wp2
      refine bodyPost_ret (results_four rfl _ _ _) rfl ?_
      rw [← HE.out]
      exact ⟨_, rfl, HR.out.more_ (by omega), HO.out⟩
end Go.Proofs.Ythbefhpgpebkgaa
