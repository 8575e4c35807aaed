/- ThrottleKeeps, walked: a list that waits is handed over as the same list. Conditions: a slice that reads as numbers. -/
import Derived.Test.YthbefhpgpebkgaaLaws1
import Derived.Test.YthbefhpgpebkgaaTLE
import Derived.Deep.AppendLies
namespace Go.Proofs.Ythbefhpgpebkgaa
open Go.RowKit

/-- A slice value '.slice A m c' that reads as the numbers zs, in blocks below B. -/
structure Ints (w : World) (B : Nat) (A : Option Addr) (m c : Nat) (zs : List Int) : Prop where
  len : zs.length = m
  cap : m ≤ c
  max : c ≤ 9223372036854775807
  nil : A = none → m = 0 ∧ c = 0
  fit : ∀ z ∈ zs, -9223372036854775808 ≤ z ∧ z ≤ 9223372036854775807
  at_ : ∀ k, (h : k < zs.length) → ∃ b off, A = some ⟨b, off, none⟩ ∧ b < B ∧ w.cell? ⟨b, off + k, none⟩ = some (.int .i64 zs[k])

theorem Ints.below {w w' : World} {A : Option Addr} {m c : Nat} {zs : List Int} (h : Ints w w.heap.size A m c zs) (k : Below w.heap.size w w') : Ints w' w'.heap.size A m c zs :=
  ⟨h.len, h.cap, h.max, h.nil, h.fit, fun i hi => by
    obtain ⟨b, off, ha, hb, h1⟩ := h.at_ i hi
    exact ⟨b, off, ha, Nat.lt_of_lt_of_le hb k.size, (k.cell (p := ⟨b, _, none⟩) hb).trans h1⟩⟩

theorem Try.info3 : (Try.prog.info? 3).map (fun i => (i.zero, i.size, i.bytes)) = some (some (.int .i64 0), 1, 8) := by kernel_rfl

/-- A store into another new block leaves the run as it is. -/
theorem TL.Run.set_ {W w : World} {b g o : Nat} {N : Int} {s : Thr.St (Option Addr × Nat × Nat)} (h : TL.Run W w b N s) (hg : W.heap.size ≤ g) (hne : b ≠ g) (u : Value) : TL.Run W (w.setCell ⟨g, o, none⟩ u) b N s :=
  ⟨h.base, h.below.setCell (p := ⟨g, o, none⟩) hg u, Has.there h.at_ (p := ⟨g, o, none⟩) hne u, h.ok⟩


/-- The numbers that are read, where the list is appended to. -/
theorem ints_read {w w1 w2 : World} {ad : Addr} {m c M : Nat} {zs : List Int} {o : Obj} (hs : Ints w w.heap.size (some ad) m c zs) (h1 : Below w.heap.size w w1) (h2 : Below w1.heap.size w1 w2) (h12 : w1.heap.size < w2.heap.size) (hM : M ≤ m) :
    ∀ j u, ((zs.take M).map (Value.int .i64))[j]? = some u → (w2.alloc o).cell? (ad.add j) = some u := by
  intro j u hu
  have hl := hs.len
  have hj : j < zs.length ∧ j < M := by
    rcases Nat.lt_or_ge j ((zs.take M).map (Value.int .i64)).length with h | h
    · simp at h; omega
    · rw [List.getElem?_eq_none h] at hu; cases hu
  obtain ⟨b', off', hb', hbl, hc⟩ := hs.at_ j hj.1
  injection hb' with hb'
  subst hb'
  have hu' : u = .int .i64 zs[j] := by simpa [hj.2, List.getElem?_eq_getElem hj.1] using hu.symm
  have hadd : ((⟨b', off', none⟩ : Addr).add j) = ⟨b', off' + j, none⟩ := by
    unfold Addr.add
    by_cases h : j = 0 <;> simp [h]
  have hs1 := h1.size
  rw [hu', hadd, World.cell?_alloc_past _ _ _ (by omega)]
  exact ((h1.trans (h2.mono h1.size)).cell (p := ⟨b', off' + j, none⟩) hbl).trans hc


set_option maxRecDepth 100000 in
set_option maxHeartbeats 1000000 in
theorem keeps_none (x : Int) (w : World) :
    Calls Try.prog 6 #[.slice none 0 0, .int .i64 x] w fun e w' => e = .returned (.bool true) ∧ Below w.heap.size w w' := by
  have c0 := awake_any w
  go_enter Try.func6, Try.ntmps6
  go_wp2_with fail
  refine c0.mono ?_
  rintro e w1 ⟨rfl, hb1⟩
  clear c0
  have HB1 := Lib.hid hb1
  clear hb1
  go_wp2_with fail
  refine (TL.new_run (W := w) 5 w1 (by omega) (by omega) HB1.out).mono ?_
  rintro e w2 ⟨rfl, hr2, hb2⟩
  have HR2 := Lib.hid hr2
  have HB2 := Lib.hid hb2
  have hbw : w1.heap.size < w2.heap.size := Has.lt hr2.at_
  have hbw0 : w.heap.size ≤ w1.heap.size := HB1.out.size
  clear hr2 hb2
  have HO5 := Lib.hid (World.ownsRow_lit (base := w1.heap.size + 1) (e := 3) (size := 1) w2 #[.int .i64 0] 1 (by omega) (by unfold maxLen; omega) rfl)
  have HR5 := Lib.hid (HR2.out.alloc_ (.cells #[.int .i64 0] 3))
  go_wp2_with fail
  refine (TL.offer_run (some ⟨w2.heap.size + 1, 0, none⟩, 1, 1) (HR5.out.alloc_ _) (by omega)).mono ?_
  rintro e w6 ⟨rfl, hr6, hg6⟩
  have HR6 := Lib.hid hr6
  have HO6 := Lib.hid (own_kept (HO5.out.alloc _) hg6 (by omega))
  clear hr6 hg6
  go_wp2_with fail
  refine (TL.offer_run (some ⟨w2.heap.size, 0, none⟩, 1, 1) HR6.out (by omega)).mono ?_
  rintro e w7 ⟨rfl, hr7, hg7⟩
  have HR7 := Lib.hid hr7
  have ho7 := own_kept HO6.out hg7 (by omega)
  have c7 : w7.cell? ⟨w2.heap.size, 0, none⟩ = some (.int .i64 0) := by rw [ho7.cellAt 0 (by omega)]; simp
  have f7 : w7.frozen? ⟨w2.heap.size, 0, none⟩ = false := ho7.frozenAt 0
  clear hr7 hg7 ho7
  obtain ⟨s1, hs1⟩ : ∃ s1 : Thr.St (Option Addr × Nat × Nat), s1 = Thr.offer (Thr.offer (Thr.fresh (none, 0, 0) 5) (some ⟨w2.heap.size + 1, 0, none⟩, 1, 1)) (some ⟨w2.heap.size, 0, none⟩, 1, 1) := ⟨_, rfl⟩
  have hrd1 : Thr.ready s1 = true := by rw [hs1]; rfl
  have htk1 : Thr.taken (none, 0, 0) s1 = (some ⟨w2.heap.size, 0, none⟩, 1, 1) := by unfold Thr.taken; rw [hrd1, hs1]; rfl
  have hrd2 : Thr.ready (Thr.take (none, 0, 0) s1) = false := by unfold Thr.take; rw [hrd1]; rfl
  have htk2 : Thr.taken (none, 0, 0) (Thr.take (none, 0, 0) s1) = (none, 0, 0) := by unfold Thr.taken; rw [hrd2]; rfl
  have HRS := Lib.hid (hs1 ▸ HR7.out)
  clear hs1
  go_wp2_with fail
  refine (TL.take_run (HRS.out.set_ (g := w2.heap.size) (o := 0) (by omega) (by omega) _) (by omega)).mono ?_
  rintro e w8 ⟨rfl, hr8, hg8⟩
  have HR8 := Lib.hid hr8
  have c8 : w8.cell? ⟨w2.heap.size, 0, none⟩ = some (.int .i64 x) := far_cell hg8 (by omega) (World.cell?_setCell_same w7 ⟨w2.heap.size, 0, none⟩ _ c7)
  clear hr8 hg8
  go_wp2_with fail
  refine (TL.take_run HR8.out (by omega)).mono ?_
  rintro e w9 ⟨rfl, hr9, hg9⟩
  have HR9 := Lib.hid hr9
  have c9 : w9.cell? ⟨w2.heap.size, 0, none⟩ = some (.int .i64 x) := far_cell hg9 (by omega) c8
  clear hr9 hg9
  go_wp2
  go_ret
  exact ⟨rfl, HR9.out.below⟩

set_option maxRecDepth 100000 in
set_option maxHeartbeats 1000000 in
theorem keeps_some (ad : Addr) (m c : Nat) (zs : List Int) (x : Int) (w : World) (hs : Ints w w.heap.size (some ad) m c zs) :
    Calls Try.prog 6 #[.slice (some ad) m c, .int .i64 x] w fun e w' => e = .returned (.bool true) ∧ Below w.heap.size w w' := by
  have c0 := awake_any w
  obtain ⟨i0, hi, hz0, hz1, hz2⟩ := info_parts Try.info3
  have hcap := hs.cap
  have hmax := hs.max
  have HS := Lib.hid hs
  clear hs
  obtain ⟨M, hM, hMm, hM2⟩ : ∃ M : Nat, (if (50 : Int) < (m : Int) then (50 : Int) else (m : Int)) = (M : Int) ∧ M ≤ m ∧ M ≤ 50 := by
    refine ⟨min 50 m, ?_, by omega, by omega⟩
    split <;> omega
  have hMc : M ≤ c := by omega
  go_enter Try.func6, Try.ntmps6
  go_wp2_with fail
  refine c0.mono ?_
  rintro e w1 ⟨rfl, hb1⟩
  clear c0
  have HB1 := Lib.hid hb1
  clear hb1
  go_wp2_with fail
  refine (TL.new_run (W := w) 5 w1 (by omega) (by omega) HB1.out).mono ?_
  rintro e w2 ⟨rfl, hr2, hb2⟩
  have HR2 := Lib.hid hr2
  have HB2 := Lib.hid hb2
  have hbw : w1.heap.size < w2.heap.size := Has.lt hr2.at_
  have hbw0 : w.heap.size ≤ w1.heap.size := HB1.out.size
  clear hr2 hb2
  have HRD := Lib.hid (ints_read (o := .cells #[.int .i64 0] 3) HS.out HB1.out HB2.out (by omega) hMm)
  go_wp2_with (at_builtin; refine wpList_append_own _ rfl _ _ 36 rfl (w1.heap.size + 1) 3 i0 _ 1 8 Try.underlying36 hi hz0 hz1 hz2 rfl (by decide) _ _ _ rfl (World.ownsRow_lit w2 #[.int .i64 0] 1 (by omega) (by unfold maxLen; omega) rfl) ad M c ((zs.take M).map (Value.int .i64)) rfl ?c1 ?c2 ?c3 ?c4 ?c5 ?c6 ?_)
  case c1 => have := HS.out.len; simp; omega
  case c2 => exact HRD.out
  case c3 => intro u hu; obtain ⟨z, _, rfl⟩ := List.mem_map.1 hu; rfl
  case c4 => unfold maxLen; omega
  case c5 => omega
  case c6 => simp; omega
  intro v' w5 hown5 hg5 _
  have hown6 : w5.ownsRow (w1.heap.size + 1) 3 1 v' (1 + M) (.int .i64 0 :: List.take M (List.map (Value.int .i64) zs)) := hown5
  clear hown5
  obtain ⟨g, cap', hv, hgb, hgl⟩ := hown6.form (by omega)
  rw [hv]
  have HO5 := Lib.hid (hv ▸ hown6)
  have HR5 := Lib.hid ((HR2.out.alloc_ (.cells #[.int .i64 0] 3)).other_ hg5 (by simp [Value.ownBlock]; omega) (fun g hg => by simp [Value.ownBlock] at hg; omega))
  clear hown6 hg5 hv
  go_wp2_with fail
  refine (TL.offer_run (some ⟨w5.heap.size, 0, none⟩, 1, 1) (HR5.out.alloc_ _) (by omega)).mono ?_
  rintro e w6 ⟨rfl, hr6, hg6⟩
  have HR6 := Lib.hid hr6
  have HO6 := Lib.hid (own_kept (HO5.out.alloc _) hg6 (by omega))
  clear hr6 hg6
  go_wp2_with fail
  refine (TL.offer_run (some ⟨g, 0, none⟩, 1 + M, cap') HR6.out (by omega)).mono ?_
  rintro e w7 ⟨rfl, hr7, hg7⟩
  have HR7 := Lib.hid hr7
  have ho7 := own_kept HO6.out hg7 (by omega)
  have c7 : w7.cell? ⟨g, 0, none⟩ = some (.int .i64 0) := by rw [ho7.cellAt 0 (by omega)]; simp
  have f7 : w7.frozen? ⟨g, 0, none⟩ = false := ho7.frozenAt 0
  clear hr7 hg7 ho7
  obtain ⟨s1, hs1⟩ : ∃ s1 : Thr.St (Option Addr × Nat × Nat), s1 = Thr.offer (Thr.offer (Thr.fresh (none, 0, 0) 5) (some ⟨w5.heap.size, 0, none⟩, 1, 1)) (some ⟨g, 0, none⟩, 1 + M, cap') := ⟨_, rfl⟩
  have hrd1 : Thr.ready s1 = true := by rw [hs1]; rfl
  have htk1 : Thr.taken (none, 0, 0) s1 = (some ⟨g, 0, none⟩, 1 + M, cap') := by unfold Thr.taken; rw [hrd1, hs1]; rfl
  have hrd2 : Thr.ready (Thr.take (none, 0, 0) s1) = false := by unfold Thr.take; rw [hrd1]; rfl
  have htk2 : Thr.taken (none, 0, 0) (Thr.take (none, 0, 0) s1) = (none, 0, 0) := by unfold Thr.taken; rw [hrd2]; rfl
  have HRS := Lib.hid (hs1 ▸ HR7.out)
  clear hs1
  go_wp2_with fail
  refine (TL.take_run (HRS.out.set_ (g := g) (o := 0) (by omega) (by omega) _) (by omega)).mono ?_
  rintro e w8 ⟨rfl, hr8, hg8⟩
  have HR8 := Lib.hid hr8
  have c8 : w8.cell? ⟨g, 0, none⟩ = some (.int .i64 x) := far_cell hg8 (by omega) (World.cell?_setCell_same w7 ⟨g, 0, none⟩ _ c7)
  clear hr8 hg8
  go_wp2_with fail
  refine (TL.take_run HR8.out (by omega)).mono ?_
  rintro e w9 ⟨rfl, hr9, hg9⟩
  have HR9 := Lib.hid hr9
  have c9 : w9.cell? ⟨g, 0, none⟩ = some (.int .i64 x) := far_cell hg9 (by omega) c8
  clear hr9 hg9
  go_wp2
  go_ret
  exact ⟨rfl, HR9.out.below⟩

theorem keeps_any (A : Option Addr) (m c : Nat) (zs : List Int) (x : Int) (w : World) (hs : Ints w w.heap.size A m c zs) :
    Calls Try.prog 6 #[.slice A m c, .int .i64 x] w fun e w' => e = .returned (.bool true) ∧ Below w.heap.size w w' := by
  rcases A with _ | ad
  · obtain ⟨rfl, rfl⟩ := hs.nil rfl
    exact keeps_none x w
  · exact keeps_some ad m c zs x w hs
end Go.Proofs.Ythbefhpgpebkgaa
