/- The reference's Take, walked. Conditions: the reference's state in memory, numbers in bounds. -/
import Derived.Test.YthbefhpgpebkgaaRefFn
import Derived.Test.YthbefhpgpebkgaaApp
import Derived.Deep.RegionLaw
namespace Go.Proofs.Ythbefhpgpebkgaa
open Go.RowKit

theorem Try.info3r : (Try.prog.info? 3).map (fun i => (i.zero, i.size, i.bytes)) = some (some (.int .i64 0), 1, 8) := by kernel_rfl
theorem ints_one (l : List Int) : ∀ u ∈ l.map (Value.int .i64), u.oneCell' = true := by
  intro u hu
  obtain ⟨z, _, rfl⟩ := List.mem_map.1 hu
  rfl

section
variable {base : Nat} {N : Int} {s : Thr.St Int} {hs : List Int} {wv hv : Value} {w : World}

set_option maxHeartbeats 16000000 in
theorem rtake_any (hr : Ref w base s hs wv hv) (hk : Thr.Ok N s) (hb : base ≤ w.heap.size) (hl : hs.length ≤ 1000000) :
    Calls Try.prog 64 #[.agg #[.int .i64 s.width, .int .i64 s.now, wv, hv, .int .i64 s.offered, .int .i64 s.lost]] w fun e w' => ∃ A m c A' m' c', e = .returned (.tuple #[.agg (rcells (Thr.take 0 s) (.slice A m c) (.slice A' m' c')), .int .i64 (Thr.taken 0 s), .bool (Thr.ready s)]) ∧ Ref w' base (Thr.take 0 s) (Thr.rtake s hs) (.slice A m c) (.slice A' m' c') ∧ Below w.heap.size w w' ∧ Later w wv hv (.slice A m c) (.slice A' m' c') := by
  obtain ⟨i0, hi, hz0, hz1, hz2⟩ := info_parts Try.info3r
  have HR := Lib.hid hr
  obtain ⟨A1, m1, c1, rfl⟩ := hr.wshape
  obtain ⟨A2, c2, rfl⟩ := hr.hshape
  have hbl : Below w.heap.size w ((w.alloc (.cells (rcells s (.slice A1 m1 c1) (.slice A2 hs.length c2)) 81)).alloc (.cells #[.int .i64 0, .int .i64 0, .slice none 0 0, .slice none 0 0, .int .i64 0, .int .i64 0] 81)) := ((Below.refl _ _).alloc (Nat.le_refl _) _).alloc (by simp) _
  have hcall := rready_any (hr.on_ hbl) hk
  have h0 : Has ((w.alloc (.cells (rcells s (.slice A1 m1 c1) (.slice A2 hs.length c2)) 81)).alloc (.cells #[.int .i64 0, .int .i64 0, .slice none 0 0, .slice none 0 0, .int .i64 0, .int .i64 0] 81)) w.heap.size 81 (rcells s (.slice A1 m1 c1) (.slice A2 hs.length c2)) := (Has.made _ _ _).alloc _
  have h1 : Has ((w.alloc (.cells (rcells s (.slice A1 m1 c1) (.slice A2 hs.length c2)) 81)).alloc (.cells #[.int .i64 0, .int .i64 0, .slice none 0 0, .slice none 0 0, .int .i64 0, .int .i64 0] 81)) (w.heap.size + 1) 81 #[.int .i64 0, .int .i64 0, .slice none 0 0, .slice none 0 0, .int .i64 0, .int .i64 0] := made_at _ _ (by simp)
  have HB := Lib.hid hbl
  have H0 := Lib.hid h0
  have H1 := Lib.hid h1
  clear hr hbl h0 h1
  have HC := Lib.hid hcall
  clear hcall
  rcases hq : Thr.ready s with _ | _
  · have HE : Hid (Thr.take 0 s = s ∧ Thr.taken 0 s = 0 ∧ Thr.rtake s hs = hs) := by show _ ∧ _; simp [Thr.take, Thr.taken, Thr.rtake, hq]
    obtain ⟨m2, hm2⟩ : ∃ m2, hs.length = m2 := ⟨_, rfl⟩
    have HX : Hid (∀ w', Below w.heap.size w w' → Ref w' base s hs (.slice A1 m1 c1) (.slice A2 m2 c2) ∧ Below w.heap.size w w' ∧ Later w (.slice A1 m1 c1) (.slice A2 m2 c2) (.slice A1 m1 c1) (.slice A2 m2 c2)) := Lib.hid fun w' k => ⟨hm2 ▸ HR.out.on_ k, k, fun _ _ h => h⟩
    rw [hm2, hq] at HC
    rw [hm2] at H0 H1 HB
    rw [hm2]
    clear hm2 HR hl
    go_enter Try.func64, Try.ntmps64
    go_wp2_with fail
    refine HC.out.mono ?_
    rintro e w1 ⟨rfl, hb1⟩
    have hc := (H0.out.below hb1 (by simp; omega)).cell
    have hd := (H1.out.below hb1 (by simp)).cell
    have hf := (H1.out.below hb1 (by simp)).free
    unfold rcells at hc
    have hz : w.heap.size + 1 + 1 ≤ w1.heap.size := by have := hb1.size; simp at this; omega
    have HB2 := Lib.hid (HB.out.trans (hb1.mono HB.out.size))
    clear hb1
    go_wp2
    exact bodyPost_ret (v := .tuple #[.agg #[.int .i64 s.width, .int .i64 s.now, .slice A1 m1 c1, .slice A2 m2 c2, .int .i64 s.offered, .int .i64 s.lost], .int .i64 0, .bool false]) (by simp [results, Try.results64, go_sem, hd]) rfl
      ⟨A1, m1, c1, A2, m2, c2, by rw [HE.out.1, HE.out.2.1]; rfl, by
        rw [HE.out.1, HE.out.2.2]
        exact HX.out _ (below_set (below_set (below_set (below_set (below_set (below_set HB2.out _ _ _ (Nat.le_succ _)) _ _ _ (Nat.le_succ _)) _ _ _ (Nat.le_succ _)) _ _ _ (Nat.le_succ _)) _ _ _ (Nat.le_succ _)) _ _ _ (Nat.le_succ _))⟩
  · have hw : s.waits = true := by simp [Thr.ready] at hq; exact hq.1
    obtain ⟨b, hb0, hb1⟩ : ∃ b, (A1 = some ⟨b, 0, none⟩ ∧ m1 = 1 ∧ c1 = 1) ∧ base ≤ b ∧ Has w b 3 #[.int .i64 s.v] := by
      rcases HR.out.wait with ⟨h, -⟩ | ⟨-, b, h2, h3, h4⟩
      · rw [hw] at h; cases h
      · injection h3 with h3 h5 h6
        exact ⟨b, ⟨h3, h5, h6⟩, h2, h4⟩
    obtain ⟨rfl, rfl, rfl⟩ := hb0
    obtain ⟨-, hb2⟩ := hb1
    have HW := Lib.hid hb2
    rw [hq] at HC
    have HE : Hid (Thr.take 0 s = { s with waits := false, v := 0, handed := true, last := s.now, taken := s.taken + 1 } ∧ Thr.taken 0 s = s.v) := by show _ ∧ _; unfold Thr.take Thr.taken; rw [if_pos hq, if_pos hq]; exact ⟨rfl, rfl⟩
    have HE2 := Lib.hid hq
    clear hw hb2
    go_enter Try.func64, Try.ntmps64
    go_wp2_with fail
    refine HC.out.mono ?_
    rintro e w1 ⟨rfl, hb1⟩
    have hc := (H0.out.below hb1 (by simp; omega)).cell
    have hcf := (H0.out.below hb1 (by simp; omega)).free
    have hd := (H1.out.below hb1 (by simp)).cell
    have hf := (H1.out.below hb1 (by simp)).free
    unfold rcells at hc
    have hz : w.heap.size + 1 + 1 ≤ w1.heap.size := by have := hb1.size; simp at this; omega
    have HB2 := Lib.hid (HB.out.trans (hb1.mono HB.out.size))
    have HP := Lib.hid (H0.out.below hb1 (by simp; omega))
    have HQ := Lib.hid (H1.out.below hb1 (by simp))
    have hcw : w1.cell? ⟨b, 0, none⟩ = some (.int .i64 s.v) := (HW.out.below HB2.out (Has.lt HW.out)).cell 0
    clear hb1
    go_wp2
    obtain ⟨W5, hW5⟩ : ∃ W5, W5 = w1.setCell ⟨w.heap.size, 2, none⟩ (.slice none 0 0) := ⟨_, rfl⟩
    have hp5 : Has W5 w.heap.size 81 #[.int .i64 s.width, .int .i64 s.now, .slice none 0 0, .slice A2 hs.length c2, .int .i64 s.offered, .int .i64 s.lost] := by
      rw [hW5]
      exact Has.here (t := 81) (cs := #[.int .i64 s.width, .int .i64 s.now, .slice (some ⟨b, 0, none⟩) 1 1, .slice A2 hs.length c2, .int .i64 s.offered, .int .i64 s.lost]) HP.out 2 _
    have hq5 : Has W5 (w.heap.size + 1) 81 #[.int .i64 0, .int .i64 0, .slice none 0 0, .slice none 0 0, .int .i64 0, .int .i64 0] := by
      rw [hW5]
      exact HQ.out.there (by simp) _
    have hb5 : Below w.heap.size w W5 := by rw [hW5]; exact below_set HB2.out _ _ _ (Nat.le_refl _)
    have hz5 : w.heap.size + 1 + 1 ≤ W5.heap.size := by rw [hW5]; simpa [World.setCell] using hz
    rw [← hW5]
    have hr5 := HR.out.own.kept (below_grown (row := none) hb5) (by cases hv : Value.ownBlock (.slice A2 hs.length c2) <;> simp)
    have HP5 := Lib.hid hp5
    have HQ5 := Lib.hid hq5
    have HB5 := Lib.hid hb5
    have HR5 := Lib.hid hr5
    have k1 : W5.cell? ⟨w.heap.size, 1, none⟩ = some (.int .i64 s.now) := HP5.out.cell 1
    have k3 : W5.cell? ⟨w.heap.size, 3, none⟩ = some (.slice A2 hs.length c2) := HP5.out.cell 3
    clear hp5 hq5 hb5 hr5 hW5 HB2 HP HQ hc hcf hd hf hcw hz HC HW HB H0 H1
    have hS5 : w.heap.size < W5.heap.size := by omega
    have hS5b : w.heap.size + 1 < W5.heap.size := by omega
    have hF5 : W5.frozen? ⟨w.heap.size, 3, none⟩ = false := HP5.out.free 3
    go_region_law
      (first
        | (refine step_app_at (.tmp 21) (undef) (by rfl) (by rfl) (.tmp 15) (.tmp 17) 36 (by rfl) W5.heap.size 3 i0 _ 1 8 Try.underlying36 hi hz0 hz1 hz2 rfl (by decide) (.slice (some ⟨W5.heap.size, 0, none⟩) 0 0) 0 [] (by rfl) (Has.empty_row (t := 3) 1 (by exact (Has.made W5 3 #[]).drew) (by omega)) (.slice A2 hs.length c2) hs.length (hs.map (Value.int .i64)) (by rfl) (Src.row (base := base) (e := 3) (by exact own_drew (HR5.out.alloc _)) (ints_one hs)) (by unfold maxLen; omega) (by omega) (by first | omega | (simp; done) | (simp; omega)) ?_; intro A6 c6 w6 hown6 hg6; rw [Nat.zero_add, List.nil_append] at hown6; have HP6 := Lib.hid (Has.grown (g := w.heap.size) (t := 81) (cs := #[.int .i64 s.width, .int .i64 s.now, .slice none 0 0, .slice A2 hs.length c2, .int .i64 s.offered, .int .i64 s.lost]) (by exact (HP5.out.alloc _).drew) hg6 (by simp [Value.ownBlock]; omega)); have HQ6 := Lib.hid (Has.grown (g := w.heap.size + 1) (t := 81) (cs := #[.int .i64 0, .int .i64 0, .slice none 0 0, .slice none 0 0, .int .i64 0, .int .i64 0]) (by exact (HQ5.out.alloc _).drew) hg6 (by simp [Value.ownBlock]; omega)); have HB6 : Hid (Below W5.heap.size W5 w6) := Lib.hid (Below.grown (by exact ((Below.refl _ _).alloc (Nat.le_refl _) _).drew) hg6 (by first | omega | (simp; done) | (simp; omega)) (fun k hk => by simp [Value.ownBlock] at hk; omega)); have HO6 := Lib.hid hown6; clear hown6 hg6; have K1 : w6.cell? ⟨w.heap.size, 1, none⟩ = some (.int .i64 s.now) := HP6.out.cell 1; have K3 : w6.cell? ⟨w.heap.size, 3, none⟩ = some (.slice A2 hs.length c2) := HP6.out.cell 3; have hL6 : W5.heap.size ≤ w6.heap.size := HB6.out.size; have hF6 : w6.frozen? ⟨w.heap.size, 3, none⟩ = false := HP6.out.free 3; have hS6 : w.heap.size < w6.heap.size := by omega)
        | (refine step_app (by rfl) (.tmp 18) (.tmp 21) 36 (by rfl) W5.heap.size 3 i0 _ 1 8 Try.underlying36 hi hz0 hz1 hz2 rfl (by decide) (.slice A6 hs.length c6) hs.length (hs.map (Value.int .i64)) (by rfl) (by exact HO6.out.alloc _) (.slice (some ⟨w6.heap.size, 0, none⟩) 1 1) 1 [.int .i64 s.now] (by rfl) (Src.block (t := 3) (cs := #[.int .i64 s.now]) (by exact Has.made w6 3 #[.int .i64 s.now]) rfl (by simp [Value.oneCell'])) (by unfold maxLen; omega) (by omega) (by first | omega | (simp; done) | (simp; omega)) ?_; intro A7 c7 w7 hown7 hg7; have HP7 := Lib.hid (Has.grown (g := w.heap.size) (t := 81) (cs := #[.int .i64 s.width, .int .i64 s.now, .slice none 0 0, .slice A2 hs.length c2, .int .i64 s.offered, .int .i64 s.lost]) (by exact HP6.out.alloc _) hg7 (own_far HO6.out (by omega))); have HQ7 := Lib.hid (Has.grown (g := w.heap.size + 1) (t := 81) (cs := #[.int .i64 0, .int .i64 0, .slice none 0 0, .slice none 0 0, .int .i64 0, .int .i64 0]) (by exact HQ6.out.alloc _) hg7 (own_far HO6.out (by omega))); have HB7 : Hid (Below W5.heap.size W5 w7) := Lib.hid (Below.grown (by exact HB6.out.alloc hL6 _) hg7 (by first | omega | (simp; done) | (simp; omega)) (fun k hk => (HO6.out.lt k hk).1)); have HO7 := Lib.hid hown7; clear hown7 hg7; have K1 : w7.cell? ⟨w.heap.size, 1, none⟩ = some (.int .i64 s.now) := HP7.out.cell 1; have K3 : w7.cell? ⟨w.heap.size, 3, none⟩ = some (.slice A2 hs.length c2) := HP7.out.cell 3; have hL7 : W5.heap.size ≤ w7.heap.size := HB7.out.size; have hF7 : w7.frozen? ⟨w.heap.size, 3, none⟩ = false := HP7.out.free 3; have hS7 : w.heap.size < w7.heap.size := by omega)
        | (refine step_app_at (.tmp 21) (.slice (some ⟨W5.heap.size + 1, 0, none⟩) 1 1) (by rfl) (by rfl) (.tmp 15) (.tmp 17) 36 (by rfl) W5.heap.size 3 i0 _ 1 8 Try.underlying36 hi hz0 hz1 hz2 rfl (by decide) (.slice (some ⟨W5.heap.size, 0, none⟩) 0 0) 0 [] (by rfl) (Has.empty_row (t := 3) 1 (by exact ((Has.made W5 3 #[]).alloc _).drew) (by omega)) (.slice A2 hs.length c2) hs.length (hs.map (Value.int .i64)) (by rfl) (Src.row (base := base) (e := 3) (by exact own_drew ((HR5.out.alloc _).alloc _)) (ints_one hs)) (by unfold maxLen; omega) (by omega) (by first | omega | (simp; done) | (simp; omega)) ?_; intro A6 c6 w6 hown6 hg6; rw [Nat.zero_add, List.nil_append] at hown6; have HP6 := Lib.hid (Has.grown (g := w.heap.size) (t := 81) (cs := #[.int .i64 s.width, .int .i64 s.now, .slice none 0 0, .slice A2 hs.length c2, .int .i64 s.offered, .int .i64 s.lost]) (by exact ((HP5.out.alloc _).alloc _).drew) hg6 (by simp [Value.ownBlock]; omega)); have HQ6 := Lib.hid (Has.grown (g := w.heap.size + 1) (t := 81) (cs := #[.int .i64 0, .int .i64 0, .slice none 0 0, .slice none 0 0, .int .i64 0, .int .i64 0]) (by exact ((HQ5.out.alloc _).alloc _).drew) hg6 (by simp [Value.ownBlock]; omega)); have HN6 := Lib.hid (Has.grown (g := W5.heap.size + 1) (t := 3) (cs := #[.int .i64 s.now]) (by exact (made_at (w := W5.alloc (.cells #[] 3)) 3 #[.int .i64 s.now] (by simp)).drew) hg6 (by simp [Value.ownBlock])); have HB6 : Hid (Below W5.heap.size W5 w6) := Lib.hid (Below.grown (by exact (((Below.refl _ _).alloc (Nat.le_refl _) _).alloc (by simp) _).drew) hg6 (by first | omega | (simp; done) | (simp; omega)) (fun k hk => by simp [Value.ownBlock] at hk; omega)); have HO6 := Lib.hid hown6; clear hown6 hg6; have K1 : w6.cell? ⟨w.heap.size, 1, none⟩ = some (.int .i64 s.now) := HP6.out.cell 1; have K3 : w6.cell? ⟨w.heap.size, 3, none⟩ = some (.slice A2 hs.length c2) := HP6.out.cell 3; have hL6 : W5.heap.size ≤ w6.heap.size := HB6.out.size; have hF6 : w6.frozen? ⟨w.heap.size, 3, none⟩ = false := HP6.out.free 3; have hS6 : w.heap.size < w6.heap.size := by omega)
        | (refine step_app (by rfl) (.tmp 18) (.tmp 21) 36 (by rfl) W5.heap.size 3 i0 _ 1 8 Try.underlying36 hi hz0 hz1 hz2 rfl (by decide) (.slice A6 hs.length c6) hs.length (hs.map (Value.int .i64)) (by rfl) (by exact HO6.out) (.slice (some ⟨W5.heap.size + 1, 0, none⟩) 1 1) 1 [.int .i64 s.now] (by rfl) (Src.block (t := 3) (cs := #[.int .i64 s.now]) (by exact HN6.out) rfl (by simp [Value.oneCell'])) (by unfold maxLen; omega) (by omega) (by first | omega | (simp; done) | (simp; omega)) ?_; intro A7 c7 w7 hown7 hg7; have HP7 := Lib.hid (Has.grown (g := w.heap.size) (t := 81) (cs := #[.int .i64 s.width, .int .i64 s.now, .slice none 0 0, .slice A2 hs.length c2, .int .i64 s.offered, .int .i64 s.lost]) (by exact HP6.out) hg7 (own_far HO6.out (by omega))); have HQ7 := Lib.hid (Has.grown (g := w.heap.size + 1) (t := 81) (cs := #[.int .i64 0, .int .i64 0, .slice none 0 0, .slice none 0 0, .int .i64 0, .int .i64 0]) (by exact HQ6.out) hg7 (own_far HO6.out (by omega))); have HB7 : Hid (Below W5.heap.size W5 w7) := Lib.hid (Below.grown (by exact HB6.out) hg7 (by first | omega | (simp; done) | (simp; omega)) (fun k hk => (HO6.out.lt k hk).1)); have HO7 := Lib.hid hown7; clear hown7 hg7; have K1 : w7.cell? ⟨w.heap.size, 1, none⟩ = some (.int .i64 s.now) := HP7.out.cell 1; have K3 : w7.cell? ⟨w.heap.size, 3, none⟩ = some (.slice A2 hs.length c2) := HP7.out.cell 3; have hL7 : W5.heap.size ≤ w7.heap.size := HB7.out.size; have hF7 : w7.frozen? ⟨w.heap.size, 3, none⟩ = false := HP7.out.free 3; have hS7 : w.heap.size < w7.heap.size := by omega)
        | (refine step_app_at (.tmp 21) (.slice (some ⟨W5.heap.size, 0, none⟩) 1 1) (by rfl) (by rfl) (.tmp 15) (.tmp 17) 36 (by rfl) W5.heap.size 3 i0 _ 1 8 Try.underlying36 hi hz0 hz1 hz2 rfl (by decide) (.slice (some ⟨W5.heap.size + 1, 0, none⟩) 0 0) 0 [] (by rfl) (Has.empty_row (t := 3) 1 (by exact (made_at (w := W5.alloc (.cells #[.int .i64 s.now] 3)) 3 #[] (by simp)).drew) (by omega)) (.slice A2 hs.length c2) hs.length (hs.map (Value.int .i64)) (by rfl) (Src.row (base := base) (e := 3) (by exact own_drew ((HR5.out.alloc _).alloc _)) (ints_one hs)) (by unfold maxLen; omega) (by omega) (by first | omega | (simp; done) | (simp; omega)) ?_; intro A6 c6 w6 hown6 hg6; rw [Nat.zero_add, List.nil_append] at hown6; have HP6 := Lib.hid (Has.grown (g := w.heap.size) (t := 81) (cs := #[.int .i64 s.width, .int .i64 s.now, .slice none 0 0, .slice A2 hs.length c2, .int .i64 s.offered, .int .i64 s.lost]) (by exact ((HP5.out.alloc _).alloc _).drew) hg6 (by simp [Value.ownBlock]; omega)); have HQ6 := Lib.hid (Has.grown (g := w.heap.size + 1) (t := 81) (cs := #[.int .i64 0, .int .i64 0, .slice none 0 0, .slice none 0 0, .int .i64 0, .int .i64 0]) (by exact ((HQ5.out.alloc _).alloc _).drew) hg6 (by simp [Value.ownBlock]; omega)); have HN6 := Lib.hid (Has.grown (g := W5.heap.size) (t := 3) (cs := #[.int .i64 s.now]) (by exact ((Has.made W5 3 #[.int .i64 s.now]).alloc _).drew) hg6 (by simp [Value.ownBlock])); have HB6 : Hid (Below W5.heap.size W5 w6) := Lib.hid (Below.grown (by exact (((Below.refl _ _).alloc (Nat.le_refl _) _).alloc (by simp) _).drew) hg6 (by first | omega | (simp; done) | (simp; omega)) (fun k hk => by simp [Value.ownBlock] at hk; omega)); have HO6 := Lib.hid hown6; clear hown6 hg6; have K1 : w6.cell? ⟨w.heap.size, 1, none⟩ = some (.int .i64 s.now) := HP6.out.cell 1; have K3 : w6.cell? ⟨w.heap.size, 3, none⟩ = some (.slice A2 hs.length c2) := HP6.out.cell 3; have hL6 : W5.heap.size ≤ w6.heap.size := HB6.out.size; have hF6 : w6.frozen? ⟨w.heap.size, 3, none⟩ = false := HP6.out.free 3; have hS6 : w.heap.size < w6.heap.size := by omega)
        | (refine step_app (by rfl) (.tmp 18) (.tmp 21) 36 (by rfl) W5.heap.size 3 i0 _ 1 8 Try.underlying36 hi hz0 hz1 hz2 rfl (by decide) (.slice A6 hs.length c6) hs.length (hs.map (Value.int .i64)) (by rfl) (by exact HO6.out) (.slice (some ⟨W5.heap.size, 0, none⟩) 1 1) 1 [.int .i64 s.now] (by rfl) (Src.block (t := 3) (cs := #[.int .i64 s.now]) (by exact HN6.out) rfl (by simp [Value.oneCell'])) (by unfold maxLen; omega) (by omega) (by first | omega | (simp; done) | (simp; omega)) ?_; intro A7 c7 w7 hown7 hg7; have HP7 := Lib.hid (Has.grown (g := w.heap.size) (t := 81) (cs := #[.int .i64 s.width, .int .i64 s.now, .slice none 0 0, .slice A2 hs.length c2, .int .i64 s.offered, .int .i64 s.lost]) (by exact HP6.out) hg7 (own_far HO6.out (by omega))); have HQ7 := Lib.hid (Has.grown (g := w.heap.size + 1) (t := 81) (cs := #[.int .i64 0, .int .i64 0, .slice none 0 0, .slice none 0 0, .int .i64 0, .int .i64 0]) (by exact HQ6.out) hg7 (own_far HO6.out (by omega))); have HB7 : Hid (Below W5.heap.size W5 w7) := Lib.hid (Below.grown (by exact HB6.out) hg7 (by first | omega | (simp; done) | (simp; omega)) (fun k hk => (HO6.out.lt k hk).1)); have HO7 := Lib.hid hown7; clear hown7 hg7; have K1 : w7.cell? ⟨w.heap.size, 1, none⟩ = some (.int .i64 s.now) := HP7.out.cell 1; have K3 : w7.cell? ⟨w.heap.size, 3, none⟩ = some (.slice A2 hs.length c2) := HP7.out.cell 3; have hL7 : W5.heap.size ≤ w7.heap.size := HB7.out.size; have hF7 : w7.frozen? ⟨w.heap.size, 3, none⟩ = false := HP7.out.free 3; have hS7 : w.heap.size < w7.heap.size := by omega)
        | fail)
    all_goals
      have hc7 := HP7.out.cell
      have hd7 := HQ7.out.cell
      have hf7 := HQ7.out.free
      have hT7 : w.heap.size + 1 < w7.heap.size := by omega
      clear K1 K3 k1 k3
      go_wp2
      exact bodyPost_ret (v := .tuple #[.agg #[.int .i64 s.width, .int .i64 s.now, .slice none 0 0, .slice A7 (hs.length + 1) c7, .int .i64 s.offered, .int .i64 s.lost], .int .i64 s.v, .bool true]) (by simp [results, Try.results64, go_sem, hd7]) rfl
        ⟨none, 0, 0, A7, hs.length + 1, c7, by rw [HE.out.1, HE.out.2]; rfl, Ref.taken_ HE2.out HR.out.rf (own_less (own_set (own_set (own_set (own_set (own_set (own_set (own_set HO7.out _ _ _ hS5) _ _ _ hS5b) _ _ _ hS5b) _ _ _ hS5b) _ _ _ hS5b) _ _ _ hS5b) _ _ _ hS5b) (by omega)),
         below_set (below_set (below_set (below_set (below_set (below_set (below_set (HB5.out.trans (HB7.out.mono (by omega))) _ _ _ (Nat.le_refl _)) _ _ _ (Nat.le_succ _)) _ _ _ (Nat.le_succ _)) _ _ _ (Nat.le_succ _)) _ _ _ (Nat.le_succ _)) _ _ _ (Nat.le_succ _)) _ _ _ (Nat.le_succ _), fun g hg _ => ⟨by simp [Value.ownBlock], fun e => by have := (HO7.out.lt g e).1; omega⟩⟩
end
end Go.Proofs.Ythbefhpgpebkgaa
