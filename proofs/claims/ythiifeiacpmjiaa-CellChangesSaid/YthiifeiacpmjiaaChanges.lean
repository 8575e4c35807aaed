/- CellChanges, walked. Conditions: a slice that reads as bytes. -/
import Derived.Test.YthiifeiacpmjiaaOpen
namespace Go.Proofs.Ythiifeiacpmjiaa
open Go.RowKit

/-- What six who look saw: a value and its version, none above s, and whether they have looked. -/
def Six (s : Int) (vs ns ls : Array Value) : Prop := ∀ j, j < 6 → ∃ (v n : Int) (l : Bool), vs[j]? = some (.int .i64 v) ∧ ns[j]? = some (.int .i64 n) ∧ ls[j]? = some (.bool l) ∧ 0 ≤ v ∧ v ≤ s ∧ 0 ≤ n ∧ n ≤ s + 1 ∧ (l = true → n = v + 1)
theorem Six.more {s t : Int} {vs ns ls : Array Value} (h : Six s vs ns ls) (hst : s ≤ t) : Six t vs ns ls := fun j hj => by
  obtain ⟨v, n, l, h1, h2, h3, h4, h5, h6, h7, h8⟩ := h j hj
  exact ⟨v, n, l, h1, h2, h3, h4, by omega, h6, by omega, h8⟩
theorem Six.looks {s : Int} {vs ns ls : Array Value} (h : Six s vs ns ls) (h0 : 0 ≤ s) (j : Nat) : Six s (vs.setIfInBounds j (.int .i64 s)) (ns.setIfInBounds j (.int .i64 (s + 1))) (ls.setIfInBounds j (.bool true)) := fun i hi => by
  obtain ⟨v, n, l, h1, h2, h3, h4, h5, h6, h7, h8⟩ := h i hi
  have z1 := (Array.getElem?_eq_some_iff.1 h1).1
  have z2 := (Array.getElem?_eq_some_iff.1 h2).1
  have z3 := (Array.getElem?_eq_some_iff.1 h3).1
  by_cases e : j = i
  · subst e
    exact ⟨s, s + 1, true, by simp [z1], by simp [z2], by simp [z3], h0, Int.le_refl _, by omega, Int.le_refl _, fun _ => rfl⟩
  · exact ⟨v, n, l, by rw [Array.getElem?_setIfInBounds_ne e]; exact h1, by rw [Array.getElem?_setIfInBounds_ne e]; exact h2, by rw [Array.getElem?_setIfInBounds_ne e]; exact h3, h4, h5, h6, h7, h8⟩
theorem Six.leaves {s : Int} {vs ns ls : Array Value} (h : Six s vs ns ls) (j : Nat) : Six s vs ns (ls.setIfInBounds j (.bool false)) := fun i hi => by
  obtain ⟨v, n, l, h1, h2, h3, h4, h5, h6, h7, h8⟩ := h i hi
  have z3 := (Array.getElem?_eq_some_iff.1 h3).1
  by_cases e : j = i
  · subst e
    exact ⟨v, n, false, h1, h2, by simp [z3], h4, h5, h6, h7, fun q => by cases q⟩
  · exact ⟨v, n, l, h1, h2, by rw [Array.getElem?_setIfInBounds_ne e]; exact h3, h4, h5, h6, h7, h8⟩

set_option maxRecDepth 100000 in
set_option maxHeartbeats 16000000 in
theorem changes_any (A : Option Addr) (m cp : Nat) (zs : List Int) (w : World) (hs : Octs w w.heap.size A m cp zs) :
    Calls Try.prog 6 #[.slice A m cp] w fun e w' => e = .returned (.bool true) ∧ Below w.heap.size w w' := by
  have c0 := awake_any w
  have HS := Lib.hid hs
  have hcap := hs.cap
  have hmax := hs.max
  clear hs
  obtain ⟨M, hM, hMc, hM2⟩ : ∃ M : Nat, (if (200 : Int) < (m : Int) then (200 : Int) else (m : Int)) = (M : Int) ∧ M ≤ cp ∧ M = min 200 m := by
    refine ⟨min 200 m, ?_, by omega, rfl⟩
    split <;> omega
  have HM := Lib.hid hM2
  clear hM2
  go_enter Try.func6, Try.ntmps6
  go_wp2_with fail
  refine c0.mono ?_
  rintro e w1 ⟨rfl, hb1⟩
  have HB1 := Lib.hid hb1
  have hz1 := hb1.size
  clear c0 hb1
  go_wp2_with fail
  refine (new_run (W := w) w1 HB1.out).mono ?_
  rintro e w2 ⟨rfl, hr2, -⟩
  have HR2 := Lib.hid hr2
  clear hr2
  go_wp2_with fail
  refine (put_run 0 (c' := ⟨0, true, false, 1, 0⟩) (n := 1) (er := 0) rfl HR2.out (by omega)).mono ?_
  rintro e w3 ⟨rfl, hr3, -⟩
  have hz3 : w1.heap.size < w3.heap.size := Has.lt hr3.at_
  have HR3 := Lib.hid (((hr3.alloc_ (.cells #[.int .i64 0, .int .i64 0, .int .i64 0, .int .i64 0, .int .i64 0, .int .i64 0] 38)).alloc_ (.cells #[.int .i64 0, .int .i64 0, .int .i64 0, .int .i64 0, .int .i64 0, .int .i64 0] 38)).alloc_ (.cells #[.bool false, .bool false, .bool false, .bool false, .bool false, .bool false] 39))
  clear hr3 HR2
  have HE0 : Hid (Six 0 #[.int .i64 0, .int .i64 0, .int .i64 0, .int .i64 0, .int .i64 0, .int .i64 0] #[.int .i64 0, .int .i64 0, .int .i64 0, .int .i64 0, .int .i64 0, .int .i64 0] #[.bool false, .bool false, .bool false, .bool false, .bool false, .bool false]) := Lib.hid fun j hj => by
    match j, hj with
    | 0, _ | 1, _ | 2, _ | 3, _ | 4, _ | 5, _ => exact ⟨0, 0, false, rfl, rfl, rfl, Int.le_refl _, Int.le_refl _, Int.le_refl _, by omega, fun q => by cases q⟩
  have HV0 := Lib.hid (((Has.made w3 38 #[.int .i64 0, .int .i64 0, .int .i64 0, .int .i64 0, .int .i64 0, .int .i64 0]).alloc (.cells #[.int .i64 0, .int .i64 0, .int .i64 0, .int .i64 0, .int .i64 0, .int .i64 0] 38)).alloc (.cells #[.bool false, .bool false, .bool false, .bool false, .bool false, .bool false] 39))
  have HN0 := Lib.hid ((made_at (g := w3.heap.size + 1) (w := w3.alloc (.cells #[.int .i64 0, .int .i64 0, .int .i64 0, .int .i64 0, .int .i64 0, .int .i64 0] 38)) 38 #[.int .i64 0, .int .i64 0, .int .i64 0, .int .i64 0, .int .i64 0, .int .i64 0] (by simp)).alloc (.cells #[.bool false, .bool false, .bool false, .bool false, .bool false, .bool false] 39))
  have HL0 := Lib.hid (made_at (g := w3.heap.size + 1 + 1) (w := (w3.alloc (.cells #[.int .i64 0, .int .i64 0, .int .i64 0, .int .i64 0, .int .i64 0, .int .i64 0] 38)).alloc (.cells #[.int .i64 0, .int .i64 0, .int .i64 0, .int .i64 0, .int .i64 0, .int .i64 0] 38)) 39 #[.bool false, .bool false, .bool false, .bool false, .bool false, .bool false] (by simp))
  go_wp2
  go_loopw [9, 38] (fun sm i wr => ∃ (k : Nat) (s : Int) (vs ns ls : Array Value), k ≤ M ∧ i = .int .i64 k ∧ sm = .int .i64 s ∧ 0 ≤ s ∧ s ≤ k ∧ Run w wr w1.heap.size (1 + k) ⟨s, true, false, s + 1, s⟩ ∧ Has wr w3.heap.size 38 vs ∧ Has wr (w3.heap.size + 1) 38 ns ∧ Has wr (w3.heap.size + 1 + 1) 39 ls ∧ Six s vs ns ls) (fun _ i _ => M - (intOf i).toNat)
  case atStart => exact ⟨0, 0, _, _, _, by omega, rfl, rfl, by omega, by omega, HR3.out, HV0.out, HN0.out, HL0.out, HE0.out⟩
  case round =>
    obtain ⟨k, s, vs, ns, ls, hk, rfl, rfl, hs0, hs1, hrun, hv, hn, hl, hx⟩ := hrel
    have hM200 : M ≤ 200 := by have := HM.out; omega
    have HR := Lib.hid hrun
    have HV := Lib.hid hv
    have HN := Lib.hid hn
    have HL := Lib.hid hl
    have HX := Lib.hid hx
    have hbw := hrun.base
    have ds : decide (0 < s + 1) = true := decide_eq_true (by omega)
    by_cases hlt : k < M
    · have hkl : k < zs.length := by have := HS.out.len; have := HM.out; omega
      have hfit := HS.out.fit _ (List.getElem_mem hkl)
      obtain ⟨ab, off, rfl, hab, hcell⟩ := HS.out.at_ k hkl
      generalize zs[k] = x at hcell hfit
      obtain ⟨x0, x1⟩ := hfit
      have hc1 := (hrun.below.cell (p := ⟨ab, off + k, none⟩) hab).trans hcell
      obtain ⟨j, hj, hj6⟩ : ∃ j : Nat, x % 6 = (j : Int) ∧ j < 6 := ⟨(x % 6).toNat, by omega, by omega⟩
      have j0 : (0 : Int) ≤ (j : Int) := by omega
      have j1 : (j : Int) < 6 := by omega
      obtain ⟨v, n, l, e1, e2, e3, v0, v1, n0, n1, hln⟩ := hx j hj6
      have kl : wr.cell? ⟨w3.heap.size + 1 + 1, j, none⟩ = some (.bool l) := (hl.cell j).trans e3
      have fl := hl.free j
      have E1 := Lib.hid e1
      have E2 := Lib.hid e2
      have E3 := Lib.hid e3
      clear hrun hv hn hl hx hcell e1 e2 e3
      rcases l with _ | _
      · go_wp2_with fail
        refine (look_run HR.out).mono ?_
        rintro e w4 ⟨rfl, hr, hg⟩
        have HR4 := Lib.hid hr
        have HV4 := Lib.hid (HV.out.grown hg (by simp; omega))
        have HN4 := Lib.hid (HN.out.grown hg (by simp; omega))
        have HL4 := Lib.hid (HL.out.grown hg (by simp; omega))
        clear hr hg
        rw [ds]
        go_wp2_with fail
        refine (version_run HR4.out).mono ?_
        rintro e w5 ⟨rfl, hr, hg⟩
        have HR5 := Lib.hid hr
        have HV5 := Lib.hid (HV4.out.grown hg (by simp; omega))
        have HN5 := Lib.hid (HN4.out.grown hg (by simp; omega))
        have HL5 := Lib.hid (HL4.out.grown hg (by simp; omega))
        clear hr hg
        have fv := HV5.out.free j
        have fn := HN5.out.free j
        have fl := HL5.out.free j
        have kv : w5.cell? ⟨w3.heap.size, j, none⟩ = some (.int .i64 v) := (HV5.out.cell j).trans E1.out
        have kn : w5.cell? ⟨w3.heap.size + 1, j, none⟩ = some (.int .i64 n) := (HN5.out.cell j).trans E2.out
        have km : w5.cell? ⟨w3.heap.size + 1 + 1, j, none⟩ = some (.bool false) := (HL5.out.cell j).trans E3.out
        clear hc1 kl
        go_wp2
        go_roundw
        case rel => exact ⟨k + 1, s, _, _, _, by omega, by go_num, rfl, hs0, by omega, (((HR5.out.set_ _ _ _ (by omega) (by omega)).set_ _ _ _ (by omega) (by omega)).set_ _ _ _ (by omega) (by omega)).more_ (by omega), ((HV5.out.here j _).there (by simp) _).there (by simp; omega) _, ((HN5.out.there (by simp) _).here j _).there (by simp) _, ((HL5.out.there (by simp; omega) _).there (by simp) _).here j _, HX.out.looks hs0 j⟩
        case measure => simp [intOf]; omega
      · have hnv := hln rfl
        have HR1 := Lib.hid (HR.out.set_ (w3.heap.size + 1 + 1) j (.bool false) (by omega) (by omega))
        have HV1 := Lib.hid (Has.there (p := ⟨w3.heap.size + 1 + 1, j, none⟩) HV.out (by simp; omega) (.bool false))
        have HN1 := Lib.hid (Has.there (p := ⟨w3.heap.size + 1 + 1, j, none⟩) HN.out (by simp) (.bool false))
        have HL1 := Lib.hid (HL.out.here j (.bool false))
        have HX1 := Lib.hid (HX.out.leaves j)
        clear hln
        go_wp2_with fail
        refine (version_run HR1.out).mono ?_
        rintro e w4 ⟨rfl, hr, hg⟩
        have HR4 := Lib.hid hr
        have HV4 := Lib.hid (HV1.out.grown hg (by simp; omega))
        have HN4 := Lib.hid (HN1.out.grown hg (by simp; omega))
        have HL4 := Lib.hid (HL1.out.grown hg (by simp; omega))
        clear hr hg
        have kv : w4.cell? ⟨w3.heap.size, j, none⟩ = some (.int .i64 v) := (HV4.out.cell j).trans E1.out
        have kn : w4.cell? ⟨w3.heap.size + 1, j, none⟩ = some (.int .i64 n) := (HN4.out.cell j).trans E2.out
        clear kl hc1 fl hj
        subst hnv
        have g1 : IntKind.i64.wrap (v + 1) = v + 1 := IntWalk.i64_in _ (by omega)
        have gi : IntKind.i64.wrap (j : Int) = (j : Int) := IntWalk.i64_in _ (by omega)
        rcases (show v = s ∨ v < s by omega) with hq | hq
        · obtain rfl : s = v := by omega
          have HP : Hid ((⟨s, true, false, s + 1, s⟩ : Cel).puts (s + 1) ((⟨s, true, false, s + 1, s⟩ : Cel).stale (s + 1)) = (⟨s + 1, true, false, s + 1 + 1, s + 1⟩, s + 1 + 1, 0)) := by
            show _ = _
            simp [Cel.puts, Cel.stale, Cel.put]
          have d1 : (s + 1 != s + 1) = false := by simp
          go_wp2_with fail
          go_region_held3 (fun W => W.cell? ⟨w3.heap.size, j, none⟩ = some (.int .i64 s) ∧ W.cell? ⟨w3.heap.size + 1, j, none⟩ = some (.int .i64 (s + 1))) (go_keep)
            (first | (go_at_call 17; refine (change_run (s + 1) (s + 1) HP.out HR4.out.drew_ (by omega)).mono ?_; rintro e w5 ⟨rfl, hr, hg⟩; have HR5 := Lib.hid hr; have HV5 := Lib.hid (HV4.out.drew.grown hg (by simp; omega)); have HN5 := Lib.hid (HN4.out.drew.grown hg (by simp; omega)); have HL5 := Lib.hid (HL4.out.drew.grown hg (by simp; omega)); have kv : w5.cell? ⟨w3.heap.size, j, none⟩ = some (.int .i64 s) := (HV5.out.cell j).trans E1.out; have kn : w5.cell? ⟨w3.heap.size + 1, j, none⟩ = some (.int .i64 (s + 1)) := (HN5.out.cell j).trans E2.out; clear hr hg))
          go_wp2
          go_roundw
          case rel => exact ⟨k + 1, s + 1, _, _, _, by omega, by go_num, rfl, by omega, by omega, HR5.out.more_ (by omega), HV5.out, HN5.out, HL5.out, HX1.out.more (by omega)⟩
          case measure => simp [intOf]; omega
        · have HP : Hid ((⟨s, true, false, s + 1, s⟩ : Cel).puts (v + 1) ((⟨s, true, false, s + 1, s⟩ : Cel).stale (v + 1)) = (⟨s, true, false, s + 1, s⟩, 0, 391)) := by
            show _ = _
            have hne : ¬ s = v := by omega
            simp [Cel.puts, Cel.stale, hne]
          have d1 : (v + 1 != s + 1) = true := by simp; omega
          go_wp2_with fail
          go_region_held3 (fun W => W.cell? ⟨w3.heap.size, j, none⟩ = some (.int .i64 v) ∧ W.cell? ⟨w3.heap.size + 1, j, none⟩ = some (.int .i64 (v + 1))) (go_keep)
            (first | (go_at_call 17; refine (change_run (v + 1) (v + 1) HP.out HR4.out.drew_ (by omega)).mono ?_; rintro e w5 ⟨rfl, hr, hg⟩; have HR5 := Lib.hid hr; have HV5 := Lib.hid (HV4.out.drew.grown hg (by simp; omega)); have HN5 := Lib.hid (HN4.out.drew.grown hg (by simp; omega)); have HL5 := Lib.hid (HL4.out.drew.grown hg (by simp; omega)); have kv : w5.cell? ⟨w3.heap.size, j, none⟩ = some (.int .i64 v) := (HV5.out.cell j).trans E1.out; have kn : w5.cell? ⟨w3.heap.size + 1, j, none⟩ = some (.int .i64 (v + 1)) := (HN5.out.cell j).trans E2.out; clear hr hg))
          go_wp2
          go_roundw
          case rel => exact ⟨k + 1, s, _, _, _, by omega, by go_num, rfl, by omega, by omega, HR5.out.more_ (by omega), HV5.out, HN5.out, HL5.out, HX1.out⟩
          case measure => simp [intOf]; omega
    · clear hrun hv hn hl hx
      go_wp2_with fail
      refine (look_run HR.out).mono ?_
      rintro e w4 ⟨rfl, hr, -⟩
      rw [ds]
      have HR4 := Lib.hid hr
      clear hr
      go_wp2
      go_ret
      exact ⟨rfl, HR4.out.below⟩
end Go.Proofs.Ythiifeiacpmjiaa
