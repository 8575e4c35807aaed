/- The reference's functions, walked (1): after, Open, Ended, end. Conditions: the reference's state in memory, numbers in bounds. -/
import Derived.Test.YtdbknbgomcabbaaAHeld
import Derived.Test.YtdbknbgomcabbaaBMem
import Derived.Outline
namespace Go.Proofs.Ytdbknbgomcabbaa
open Go.RowKit

theorem bmade_at {w : World} {g : Nat} (t : TypeId) (cs : Array Value) (h : w.heap.size = g) : Has (w.alloc (.cells cs t)) g t cs := h ▸ Has.made w t cs
theorem below_set {B : Nat} {w w1 : World} (h : Below B w w1) (g i : Nat) (u : Value) (hg : B ≤ g) : Below B w (w1.setCell ⟨g, i, none⟩ u) := h.setCell (p := ⟨g, i, none⟩) hg u
theorem bdrewN {B : Nat} {w w1 : World} (h : Below B w w1) (n : Nat) : Below B w (w1.drewN n) := ⟨h.os, h.tape, h.output, h.size, h.block⟩
theorem Try.info70 : (Try.prog.info? 70).map (fun i => (i.zero, i.size, i.bytes)) = some (some (.agg #[.int .i64 0, .int .i64 0]), 2, 16) := by kernel_rfl

section
variable {base : Nat} {s : Ak.St} {rs : List Ak.Req} {w : World} {A : Option Addr} {c : Nat}

set_option maxHeartbeats 2000000 in
theorem rafter_any (start width clock sk lt now : Int) (stp : Bool) (A : Option Addr) (m c : Nat) (w : World) (s0 : 0 ≤ start) (w1 : 1 ≤ width) (w2 : width ≤ 1099511627776) (n0 : start ≤ now) (n1 : now ≤ 281474976710656) :
    Calls Try.prog 38 #[.agg #[.int .i64 start, .int .i64 width, .int .i64 clock, .bool stp, .slice A m c, .int .i64 sk, .int .i64 lt], .int .i64 now] w
      fun e w' => e = .returned (.int .i64 (start + width + Ak.dueOf start width now * width)) ∧ Below w.heap.size w w' := by
  have hbl : Below w.heap.size w (w.alloc (.cells #[.int .i64 start, .int .i64 width, .int .i64 clock, .bool stp, .slice A m c, .int .i64 sk, .int .i64 lt] 61)) := (Below.refl _ _).alloc (Nat.le_refl _) _
  have HBL := Lib.hid hbl
  clear hbl
  obtain ⟨d0, d1, d2, d3, d4⟩ := Ak.due_spec w1 n0
  have hd : (now - start).tdiv width = Ak.dueOf start width now := by unfold Ak.dueOf; exact Int.tdiv_eq_ediv_of_nonneg (by omega)
  have hz : ¬ width = 0 := by omega
  generalize Ak.dueOf start width now = D at *
  generalize hp : D * width = P at *
  have g1 : IntKind.i64.wrap (start + width) = start + width := IntWalk.i64_in _ (by omega)
  have g2 : IntKind.i64.wrap (now - start) = now - start := IntWalk.i64_in _ (by omega)
  have g3 : IntKind.i64.wrap D = D := IntWalk.i64_in _ (by omega)
  have g4 : IntKind.i64.wrap P = P := IntWalk.i64_in _ (by omega)
  have g5 : IntKind.i64.wrap (start + width + P) = start + width + P := IntWalk.i64_in _ (by omega)
  clear s0 w1 w2 n0 n1 d0 d1 d2 d3 d4
  go_enter Try.func38, Try.ntmps38
  go_wp2
  go_quiet (fail)
  go_wp2
  go_ret
  exact ⟨rfl, bdrewN HBL.out _⟩

set_option maxHeartbeats 2000000 in
theorem ropen_any (hr : Row w base rs (.slice A rs.length c)) (hf : Ak.Rf s rs) (hl : rs.length ≤ 1000000) :
    Calls Try.prog 32 #[.agg #[.int .i64 s.start, .int .i64 s.width, .int .i64 s.clock, .bool s.stopped, .slice A rs.length c, .int .i64 s.skipped, .int .i64 s.late]] w
      fun e w' => e = .returned (.int .i64 s.opn) ∧ Below w.heap.size w w' := by
  obtain ⟨g, cap, he, hg0, hg1, hg2, hg3⟩ := hr.shape
  injection he with he1 he2 he3
  subst he1
  have hbl : Below w.heap.size w (w.alloc (.cells (rcells s (.slice (some ⟨g, 0, none⟩) rs.length c)) 61)) := (Below.refl _ _).alloc (Nat.le_refl _) _
  have HR := Lib.hid (hr.on_ hbl)
  have HBL := Lib.hid hbl
  have hcap : rs.length ≤ c := by omega
  have hmax : c ≤ 9223372036854775807 := by omega
  clear hr hbl hg0 hg1 hg2 hg3 he3 he2
  obtain ⟨m, hm⟩ : ∃ m, rs.length = m := ⟨_, rfl⟩
  have HF := Lib.hid hf
  have HM := Lib.hid hm
  have HR2 := Lib.hid fun k r hk => (HR.out.at_ k r hk).2
  rw [hm] at HBL HR2 hl hcap ⊢
  clear hf hm HR
  unfold rcells at HBL HR2
  go_enter Try.func32, Try.ntmps32
  go_wp2
  go_loop [3] (fun i => ∃ k : Nat, k ≤ m ∧ i = .int .i64 k ∧ ∀ j, (hj : j < rs.length) → j < k → (rs[j]).2 ≠ 0) (fun i => m - (intOf i).toNat)
  case atStart => exact ⟨0, Nat.zero_le _, rfl, fun j _ h => by omega⟩
  case round =>
    obtain ⟨k, hk, rfl, hn⟩ := hrel
    have HN := Lib.hid hn
    clear hn
    by_cases hlt : k < m
    · have hkl : k < rs.length := by have := HM.out; omega
      have hc := HR2.out k _ (List.getElem?_eq_getElem hkl)
      have hh := HF.out.here k hkl
      have hnx : (rs[k]).2 ≠ 0 → ∀ j, (hj : j < rs.length) → j < k + 1 → (rs[j]).2 ≠ 0 := fun h j hj hjk => by
        rcases (show j < k ∨ j = k by omega) with q | rfl
        · exact HN.out j hj q
        · exact h
      have HNX := Lib.hid hnx
      clear hnx
      generalize (rs[k]).2 = z at *
      by_cases h0 : z = 0
      · have ho := Lib.hid (hh h0)
        subst h0
        clear hh HNX hkl
        go_wp2
        go_ret
        exact ⟨by rw [ho.out] <;> rfl, HBL.out⟩
      · have d : (z == 0) = false := by simpa using h0
        have HZ := Lib.hid (HNX.out h0)
        clear hh HNX hkl h0
        go_wp2
        go_round
        case rel => exact ⟨k + 1, by omega, by go_num, HZ.out⟩
        case measure => simp [intOf]; omega
    · have ho := Lib.hid (HF.out.none_ fun i hi => HN.out i hi (by have := HM.out; omega))
      go_wp2
      go_ret
      exact ⟨by rw [ho.out] <;> rfl, HBL.out⟩

set_option maxHeartbeats 2000000 in
theorem rended_any (how : Int) (hr : Row w base rs (.slice A rs.length c)) (hl : rs.length ≤ 1000000) :
    Calls Try.prog 34 #[.agg #[.int .i64 s.start, .int .i64 s.width, .int .i64 s.clock, .bool s.stopped, .slice A rs.length c, .int .i64 s.skipped, .int .i64 s.late], .int .i64 how] w
      fun e w' => e = .returned (.int .i64 (Ak.cnt how rs)) ∧ Below w.heap.size w w' := by
  obtain ⟨g, cap, he, hg0, hg1, hg2, hg3⟩ := hr.shape
  injection he with he1 he2 he3
  subst he1
  have hbl : Below w.heap.size w (w.alloc (.cells (rcells s (.slice (some ⟨g, 0, none⟩) rs.length c)) 61)) := (Below.refl _ _).alloc (Nat.le_refl _) _
  have HR := Lib.hid (hr.on_ hbl)
  have HBL := Lib.hid hbl
  have hcap : rs.length ≤ c := by omega
  have hmax : c ≤ 9223372036854775807 := by omega
  clear hr hbl hg0 hg1 hg2 hg3 he3 he2
  obtain ⟨m, hm⟩ : ∃ m, rs.length = m := ⟨_, rfl⟩
  have HM := Lib.hid hm
  have HR2 := Lib.hid fun k r hk => (HR.out.at_ k r hk).2
  rw [hm] at HBL HR2 hl hcap ⊢
  clear hm HR
  unfold rcells at HBL HR2
  go_enter Try.func34, Try.ntmps34
  go_wp2
  go_loop [5, 6] (fun n i => ∃ (k : Nat) (x : Int), k ≤ m ∧ i = .int .i64 k ∧ n = .int .i64 x ∧ x = Ak.cnt how (rs.take k) ∧ 0 ≤ x ∧ x ≤ k) (fun _ i => m - (intOf i).toNat)
  case atStart => exact ⟨0, 0, Nat.zero_le _, rfl, rfl, rfl, Int.le_refl _, Int.le_refl _⟩
  case round =>
    obtain ⟨k, x, hk, rfl, rfl, hx, x0, x1⟩ := hrel
    have HX := Lib.hid hx
    clear hx
    by_cases hlt : k < m
    · have hkl : k < rs.length := by have := HM.out; omega
      have hc := HR2.out k _ (List.getElem?_eq_getElem hkl)
      have ht := Lib.hid (Ak.cnt_take how rs k hkl)
      generalize (rs[k]).2 = z at *
      by_cases h0 : z = how
      · have HZ : Hid (x + 1 = Ak.cnt how (rs.take (k + 1))) := by show _ = _; rw [ht.out, if_pos h0, HX.out]
        have d : (z == how) = true := by simpa using h0
        clear ht hkl h0
        go_wp2
        go_round
        case rel => exact ⟨k + 1, x + 1, by omega, by go_num, rfl, HZ.out, by omega, by omega⟩
        case measure => simp [intOf]; omega
      · have HZ : Hid (x = Ak.cnt how (rs.take (k + 1))) := by show _ = _; rw [ht.out, if_neg h0, HX.out]; omega
        have d : (z == how) = false := by simpa using h0
        clear ht hkl h0
        go_wp2
        go_round
        case rel => exact ⟨k + 1, x, by omega, by go_num, rfl, HZ.out, by omega, by omega⟩
        case measure => simp [intOf]; omega
    · have HZ : Hid (x = Ak.cnt how rs) := by show _ = _; rw [HX.out, List.take_of_length_le (by have := HM.out; omega)]
      go_wp2
      go_ret
      exact ⟨by rw [HZ.out] <;> rfl, HBL.out⟩

set_option maxHeartbeats 4000000 in
theorem rend_any (how : Int) (hr : Row w base rs (.slice A rs.length c)) (hf : Ak.Rf s rs) (hl : rs.length ≤ 1000000) :
    Calls Try.prog 39 #[.agg #[.int .i64 s.start, .int .i64 s.width, .int .i64 s.clock, .bool s.stopped, .slice A rs.length c, .int .i64 s.skipped, .int .i64 s.late], .int .i64 how] w
      fun e w' => ∃ g' c', e = .returned (.agg #[.int .i64 s.start, .int .i64 s.width, .int .i64 s.clock, .bool s.stopped, .slice (some ⟨g', 0, none⟩) rs.length c', .int .i64 s.skipped, .int .i64 s.late]) ∧
        Row w' w.heap.size (Ak.rend s rs how) (.slice (some ⟨g', 0, none⟩) rs.length c') ∧ Below w.heap.size w w' := by
  obtain ⟨g, cap, he, hg0, hg1, hg2, hg3⟩ := hr.shape
  injection he with he1 he2 he3
  subst he1
  clear hg0 hg2 hg3 he2 he3
  obtain ⟨i0, hi, hz0, hz1, hz2⟩ := info_parts Try.info70
  have hbl : Below w.heap.size w ((w.alloc (.cells #[.int .i64 s.start, .int .i64 s.width, .int .i64 s.clock, .bool s.stopped, .slice (some ⟨g, 0, none⟩) rs.length c, .int .i64 s.skipped, .int .i64 s.late] 61)).alloc (.cells #[.int .i64 0, .int .i64 0, .int .i64 0, .bool false, .slice none 0 0, .int .i64 0, .int .i64 0] 61)) := ((Below.refl _ _).alloc (Nat.le_refl _) _).alloc (by simp) _
  have HR := Lib.hid (hr.on_ hbl)
  have HBL := Lib.hid hbl
  have HF := Lib.hid hf
  have hpos := hr.pos
  have H0 : Hid (Has ((w.alloc (.cells #[.int .i64 s.start, .int .i64 s.width, .int .i64 s.clock, .bool s.stopped, .slice (some ⟨g, 0, none⟩) rs.length c, .int .i64 s.skipped, .int .i64 s.late] 61)).alloc (.cells #[.int .i64 0, .int .i64 0, .int .i64 0, .bool false, .slice none 0 0, .int .i64 0, .int .i64 0] 61)) w.heap.size 61 #[.int .i64 s.start, .int .i64 s.width, .int .i64 s.clock, .bool s.stopped, .slice (some ⟨g, 0, none⟩) rs.length c, .int .i64 s.skipped, .int .i64 s.late]) := Lib.hid ((Has.made _ _ _).alloc _)
  have H1 : Hid (Has ((w.alloc (.cells #[.int .i64 s.start, .int .i64 s.width, .int .i64 s.clock, .bool s.stopped, .slice (some ⟨g, 0, none⟩) rs.length c, .int .i64 s.skipped, .int .i64 s.late] 61)).alloc (.cells #[.int .i64 0, .int .i64 0, .int .i64 0, .bool false, .slice none 0 0, .int .i64 0, .int .i64 0] 61)) (w.heap.size + 1) 61 #[.int .i64 0, .int .i64 0, .int .i64 0, .bool false, .slice none 0 0, .int .i64 0, .int .i64 0]) := Lib.hid (bmade_at _ _ (by simp))
  clear hr hbl hf
  go_enter Try.func39, Try.ntmps39
  go_wp2_with (at_builtin; refine wpList_app (by rfl) (.tmp 6) (.tmp 8) 59 (by rfl) (w.heap.size + 1 + 1) 70 i0 _ 2 16 Try.underlying59 hi hz0 hz1 hz2 rfl (by decide) (.slice (some ⟨w.heap.size + 1 + 1, 0, none⟩) 0 0) 0 [] (by rfl) (Has.empty_row (t := 70) 2 (bmade_at _ _ (by simp)) (Nat.le_refl _)) (.slice (some ⟨g, 0, none⟩) rs.length c) rs.length (flat rs) (by rfl) (Src.row (HR.out.own.alloc _) (flat_one rs)) (by unfold maxLen; omega) (by omega) (by simp) ?_; intro A6 c6 w6 hown6 hg6; rw [Nat.zero_add, List.nil_append] at hown6; rw [Nat.zero_add]; have hp6 := (H0.out.alloc (.cells #[] 70)).grown hg6 (by simp [Value.ownBlock]; omega); have hq6 := (H1.out.alloc (.cells #[] 70)).grown hg6 (by simp [Value.ownBlock]); have HB6 := Lib.hid ((HBL.out.alloc HBL.out.size (.cells #[] 70)).trans (only_below hg6 (by simp; omega) (by simp; omega))); have HO6 := Lib.hid hown6; have HP6 := Lib.hid hp6; have HQ6 := Lib.hid hq6; have hc6 := hp6.cell; have hf6 := hp6.free; clear hown6 hg6 hp6 hq6)
  go_wp2_with fail
  have hw7 : Row (w6.setCell ⟨w.heap.size, 4, none⟩ (.slice A6 rs.length c6)) (w.heap.size + 1 + 1) rs (.slice A6 rs.length c6) := ⟨own_set HO6.out _ _ _ (by omega), hpos⟩
  have HW7 := Lib.hid hw7
  clear hw7 hc6 hf6
  refine (ropen_any HW7.out HF.out hl).mono ?_
  rintro e w8 ⟨rfl, hb8⟩
  have hr8 := HW7.out.on_ hb8
  have hp8 := (HP6.out.here 4 (.slice A6 rs.length c6)).below hb8 (Has.lt (HP6.out.here 4 _))
  have hq8 := (Has.there (p := ⟨w.heap.size, 4, none⟩) HQ6.out (by simp) (.slice A6 rs.length c6)).below hb8 (Has.lt (Has.there (p := ⟨w.heap.size, 4, none⟩) HQ6.out (by simp) _))
  have hbb := (below_set HB6.out w.heap.size 4 (.slice A6 rs.length c6) (Nat.le_refl _)).trans (hb8.mono (below_set HB6.out w.heap.size 4 (.slice A6 rs.length c6) (Nat.le_refl _)).size)
  obtain ⟨g6, cap6, e6, k0, k1, k2, k3⟩ := hr8.shape
  injection e6 with e6 _ e7
  subst e6 e7
  have HB8 := Lib.hid hbb
  have HR8 := Lib.hid hr8
  have HP8 := Lib.hid hp8
  have HQ8 := Lib.hid hq8
  have cp : ∀ i : Nat, w8.cell? ⟨w.heap.size, i, none⟩ = #[.int .i64 s.start, .int .i64 s.width, .int .i64 s.clock, .bool s.stopped, .slice (some ⟨g6, 0, none⟩) rs.length c6, .int .i64 s.skipped, .int .i64 s.late][i]? := hp8.cell
  have fp := hp8.free
  have cq := hq8.cell
  have fq := hq8.free
  clear hb8 hr8 hp8 hq8 hbb HW7 HP6 HQ6 HO6 HB6 H0 H1 HR HBL
  by_cases ho : s.opn = 0
  · rw [ho]
    have HE : Hid (Ak.rend s rs how = rs) := Lib.hid (Ak.rend_zero ho how)
    clear ho
    go_wp2
    exact bodyPost_ret (v := .agg #[.int .i64 s.start, .int .i64 s.width, .int .i64 s.clock, .bool s.stopped, .slice (some ⟨g6, 0, none⟩) rs.length c6, .int .i64 s.skipped, .int .i64 s.late]) (by simp [results, Try.results39, go_sem, cq]) rfl
      ⟨g6, c6, rfl, by rw [HE.out]; repeat (first | refine Row.set_ ?_ (by simp [Value.ownBlock]; omega) _ _ | exact HR8.out.less (by omega)), by repeat (first | refine below_set ?_ _ _ _ (Nat.le_succ _) | exact HB8.out)⟩
  · obtain ⟨k, l1, l2, l3, l4⟩ := HF.out.last_ ho
    have HE : Hid (Ak.rend s rs how = rs.set k (s.since, how)) := Lib.hid (l4 how)
    have hc9 := (HR8.out.at_ k _ l3).2
    have hf9 := HR8.out.own.frozenAt (k * 2 + 1)
    have hkl : k < rs.length := by omega
    have d1 : decide (0 < (k : Int) + 1) = true := decide_eq_true (by omega)
    have hst := (HR8.out.own.stored (k * 2 + 1) (.int .i64 how)).1
    rw [flat_set rs k _ _ how l3] at hst
    have HS : Hid (Row (w8.setCell ⟨g6, k * 2 + 1, none⟩ (.int .i64 how)) (w.heap.size + 1 + 1) (rs.set k (s.since, how)) (.slice (some ⟨g6, 0, none⟩) rs.length c6)) := Lib.hid ⟨by rw [List.length_set]; exact hst, by rw [List.length_set]; exact hpos⟩
    rw [l2]
    clear ho l1 l2 l3 l4 hst
    go_wp2
    exact bodyPost_ret (v := .agg #[.int .i64 s.start, .int .i64 s.width, .int .i64 s.clock, .bool s.stopped, .slice (some ⟨g6, 0, none⟩) rs.length c6, .int .i64 s.skipped, .int .i64 s.late]) (by simp [results, Try.results39, go_sem, cq]) rfl
      ⟨g6, c6, rfl, by rw [HE.out]; refine Row.set_ ?_ (by simp [Value.ownBlock]; omega) _ _; refine Row.set_ ?_ (by simp [Value.ownBlock]; omega) _ _; refine Row.set_ ?_ (by simp [Value.ownBlock]; omega) _ _; refine Row.set_ ?_ (by simp [Value.ownBlock]; omega) _ _; refine Row.set_ ?_ (by simp [Value.ownBlock]; omega) _ _; refine Row.set_ ?_ (by simp [Value.ownBlock]; omega) _ _; refine Row.set_ ?_ (by simp [Value.ownBlock]; omega) _ _; exact HS.out.less (by omega), by repeat (first | refine below_set ?_ _ _ _ (by omega) | exact HB8.out)⟩
end
end Go.Proofs.Ytdbknbgomcabbaa
