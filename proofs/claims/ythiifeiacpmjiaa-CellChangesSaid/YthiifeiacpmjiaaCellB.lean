/- A cell's methods, walked (2): Closed, Look, Take. Conditions: the cell was made, its lock is free. -/
import Derived.Test.YthiifeiacpmjiaaCellA
namespace Go.Proofs.Ythiifeiacpmjiaa
open Go.RowKit
open Go.MuLone

/-- Behind the begin of a call (world w0) with the cell at b: b holds cs; the boxes in L are new; of what was there only b has turned. -/
structure Fr (w0 : World) (b : Nat) (cs : Array Value) (L : List (Nat × TypeId × Array Value)) (W : World) : Prop where
  g : w0.grownBy W (some b)
  cell : Has W b 56 cs
  has : ∀ x ∈ L, Has W x.1 x.2.1 x.2.2
  new : ∀ x ∈ L, w0.heap.size ≤ x.1
  lt : b < w0.heap.size
section
variable {w0 W W' : World} {b g : Nat} {cs cs' : Array Value} {L L' : List (Nat × TypeId × Array Value)} {t : TypeId}
theorem Fr.start (h : Has w0 b 56 cs) : Fr w0 b cs [] w0 := ⟨only_refl _ _, h, (fun _ k => (by cases k)), (fun _ k => (by cases k)), Has.lt h⟩
theorem Fr.add (h : Fr w0 b cs L W) (t : TypeId) (xs : Array Value) : Fr w0 b cs ((W.heap.size, t, xs) :: L) (W.alloc (.cells xs t)) :=
  ⟨only_alloc h.g _, h.cell.alloc _, fun x hx => by
    rcases List.mem_cons.1 hx with rfl | hx
    · exact Has.made _ _ _
    · exact (h.has x hx).alloc _, fun x hx => by
    rcases List.mem_cons.1 hx with rfl | hx
    · exact h.g.size
    · exact h.new x hx, h.lt⟩
theorem Fr.drew (h : Fr w0 b cs L W) : Fr w0 b cs L W.drew := ⟨only_drew h.g, h.cell.drew, fun x hx => (h.has x hx).drew, h.new, h.lt⟩
theorem Fr.drewN (h : Fr w0 b cs L W) (n : Nat) : Fr w0 b cs L (W.drewN n) := ⟨⟨h.g.os, h.g.tape, h.g.output, h.g.size, h.g.block⟩, h.cell, h.has, h.new, h.lt⟩
theorem Fr.setb (h : Fr w0 b cs L W) (i : Nat) (u : Value) : Fr w0 b (cs.setIfInBounds i u) L (W.setCell ⟨b, i, none⟩ u) :=
  ⟨only_here h.g i u, h.cell.here i u, fun x hx => (h.has x hx).there (by have := h.new x hx; have := h.lt; simp; omega) u, h.new, h.lt⟩
theorem Fr.setx (h : Fr w0 b cs L W) (g i : Nat) (u : Value) (hg : w0.heap.size ≤ g) : Fr w0 b cs (L.map fun x => if x.1 = g then (x.1, x.2.1, x.2.2.setIfInBounds i u) else x) (W.setCell ⟨g, i, none⟩ u) :=
  ⟨only_new (p := ⟨g, i, none⟩) h.g hg u, h.cell.there (by have := h.lt; simp; omega) u, fun x hx => by
    obtain ⟨y, hy, rfl⟩ := List.mem_map.1 hx
    by_cases e : y.1 = g
    · rw [if_pos e]; subst e; exact (h.has y hy).here i u
    · rw [if_neg e]; exact (h.has y hy).there (by simpa using e) u, fun x hx => by
    obtain ⟨y, hy, rfl⟩ := List.mem_map.1 hx
    have := h.new y hy
    split <;> exact this, h.lt⟩
theorem Fr.as_ (h : Fr w0 b cs L W) (e : cs = cs') (e2 : L = L') : Fr w0 b cs' L' W := e ▸ e2 ▸ h
theorem Fr.box (h : Fr w0 b cs L W) (hx : (g, t, cs') ∈ L) : Has W g t cs' := h.has _ hx
theorem Fr.to_ {c : Cel} (h : Fr w0 b (cells 0 c) L W) : To w0 W b c := ⟨h.g, h.cell⟩
theorem Fr.hold {c : Cel} (h : Fr w0 b (cells 0 c) L W) : Fr w0 b (cells 1 c) L (W.setCell ⟨b, 1, none⟩ (.int .i32 1)) := h.setb 1 _
theorem Fr.free_ {c : Cel} (h : Fr w0 b (cells 1 c) L W) : Fr w0 b (cells 0 c) L (W.setCell ⟨b, 1, none⟩ (.int .i32 0)) := h.setb 1 _

/-- locked, with boxes. -/
theorem locked_fr (K : Nat) (caps : Array Value) (c c' : Cel) (L' : List (Nat × TypeId × Array Value)) (h : Fr w0 b (cells 0 c) L W) (hK : ∀ w, (callFunc K caps).run Try.prog w = .ok (.enter K caps) w)
    (hdo : ∀ W, Fr w0 b (cells 1 c) L W → Calls Try.prog K caps W fun e w' => e = .returned (.tuple #[]) ∧ Fr w0 b (cells 1 c') L' w') :
    Calls Try.prog 21 #[.pointer (some ⟨b, 0, none⟩), .func (.func K) #[] caps] W fun e w' => e = .returned (.tuple #[]) ∧ Fr w0 b (cells 0 c') L' w' :=
  (locked_any b K caps c W (Fr w0 b (cells 1 c') L') h.cell hK (hdo _ h.hold) (fun _ q => Held.lk q.cell)).mono fun _ _ ⟨he, _, q, hw⟩ => ⟨he, hw ▸ q.free_⟩
end

theorem closed_any (b : Nat) (c : Cel) (w : World) (hb : At w b c) :
    Calls Try.prog 16 #[.pointer (some ⟨b, 0, none⟩)] w fun e w' => e = .returned (.bool c.closed) ∧ w = w' := by
  have h0 : w.cell? ⟨b, 0, none⟩ = some (.bool true) := Has.cell hb 0
  have h8 : w.cell? ⟨b, 8, none⟩ = some (.int .u32 (bit c.closed)) := Has.cell hb 8
  clear hb
  go_enter Try.func16, Try.ntmps16
  go_wp2_with (first | (go_at_call 20; refine (some_any b _ h0).mono ?_; rintro e w' ⟨rfl, rfl⟩) | (go_at_call 27; refine (loadB_any b 8 _ _ h8).mono ?_; rintro e w' ⟨rfl, rfl⟩))
  go_ret
  exact ⟨rfl, rfl⟩

theorem call29 (caps : Array Value) (w : World) : (callFunc 29 caps).run Try.prog w = .ok (.enter 29 caps) w := by simp [go_sem]
theorem call22 (caps : Array Value) (w : World) : (callFunc 22 caps).run Try.prog w = .ok (.enter 22 caps) w := by simp [go_sem]

set_option maxHeartbeats 2000000 in
theorem look1_any (w0 W : World) (b : Nat) (c : Cel) (h : Fr w0 b (cells 1 c) [(w0.heap.size + 1 + 1, 3, #[.int .i64 0]), (w0.heap.size + 1, 3, #[.int .i64 0]), (w0.heap.size, 24, #[.pointer (some ⟨b, 0, none⟩)])] W) :
    Calls Try.prog 29 #[.pointer (some ⟨w0.heap.size, 0, none⟩), .pointer (some ⟨w0.heap.size + 1, 0, none⟩), .pointer (some ⟨w0.heap.size + 1 + 1, 0, none⟩)] W fun e w' => e = .returned (.tuple #[]) ∧
      Fr w0 b (cells 1 c) [(w0.heap.size + 1 + 1, 3, #[.int .i64 c.version]), (w0.heap.size + 1, 3, #[.int .i64 c.value]), (w0.heap.size, 24, #[.pointer (some ⟨b, 0, none⟩)])] w' := by
  have h0 : W.cell? ⟨w0.heap.size, 0, none⟩ = some (.pointer (some ⟨b, 0, none⟩)) := (h.box (.tail _ (.tail _ (.head _)))).cell 0
  have h1 : W.cell? ⟨w0.heap.size + 1, 0, none⟩ = some (.int .i64 0) := (h.box (.tail _ (.head _))).cell 0
  have h2 : W.cell? ⟨w0.heap.size + 1 + 1, 0, none⟩ = some (.int .i64 0) := (h.box (.head _)).cell 0
  have f1 : W.frozen? ⟨w0.heap.size + 1, 0, none⟩ = false := (h.box (.tail _ (.head _))).free 0
  have f2 : W.frozen? ⟨w0.heap.size + 1 + 1, 0, none⟩ = false := (h.box (.head _)).free 0
  have h6 : W.cell? ⟨b, 6, none⟩ = some (.int .i64 c.value) := h.cell.cell 6
  have h9 : W.cell? ⟨b, 9, none⟩ = some (.int .i64 c.version) := h.cell.cell 9
  have hlt := h.lt
  have H := Lib.hid h
  clear h
  go_enter Try.func29, Try.ntmps29
  go_wp2
  go_region_with (first | (go_at_call 24; refine (load64_any b 9 c.version _ (by simp [*])).mono ?_; rintro e w9 ⟨rfl, rfl⟩))
  all_goals
    go_end0
    exact ⟨rfl, (((H.out.setx _ 0 _ (by omega)).setx _ 0 _ (by omega)).drew).as_ rfl (by first | (simp; done) | (simp; omega))⟩

set_option maxHeartbeats 2000000 in
theorem look_any (b : Nat) (c : Cel) (w : World) (hb : At w b c) :
    Calls Try.prog 14 #[.pointer (some ⟨b, 0, none⟩)] w fun e w' => e = .returned (.tuple #[.int .i64 c.value, .int .i64 c.version, .bool (decide (0 < c.version))]) ∧ To w w' b c := by
  have h3 : Fr w b (cells 0 c) [(w.heap.size + 1 + 1, 3, #[.int .i64 0]), (w.heap.size + 1, 3, #[.int .i64 0]), (w.heap.size, 24, #[.pointer (some ⟨b, 0, none⟩)])] (((w.alloc (.cells #[.pointer (some ⟨b, 0, none⟩)] 24)).alloc (.cells #[.int .i64 0] 3)).alloc (.cells #[.int .i64 0] 3)) :=
    ((((Fr.start hb).add 24 _).add 3 _).add 3 _).as_ rfl (by first | (simp; done) | (simp; omega))
  have hs := h3.cell.cell 0
  have hl := locked_fr 29 #[.pointer (some ⟨w.heap.size, 0, none⟩), .pointer (some ⟨w.heap.size + 1, 0, none⟩), .pointer (some ⟨w.heap.size + 1 + 1, 0, none⟩)] c c _ h3 (call29 _) (fun W h => look1_any w W b c h)
  have HL := Lib.hid hl
  clear hl h3 hb
  go_enter Try.func14, Try.ntmps14
  go_wp2_with (first | (go_at_call 20; refine (some_any b _ hs).mono ?_; rintro e w' ⟨rfl, rfl⟩))
  refine HL.out.mono ?_
  rintro e w2 ⟨rfl, h2⟩
  have k1 : w2.cell? ⟨w.heap.size + 1, 0, none⟩ = some (.int .i64 c.value) := (h2.box (.tail _ (.head _))).cell 0
  have k2 : w2.cell? ⟨w.heap.size + 1 + 1, 0, none⟩ = some (.int .i64 c.version) := (h2.box (.head _)).cell 0
  have f1 : w2.frozen? ⟨w.heap.size + 1, 0, none⟩ = false := (h2.box (.tail _ (.head _))).free 0
  have f2 : w2.frozen? ⟨w.heap.size + 1 + 1, 0, none⟩ = false := (h2.box (.head _)).free 0
  have H2 := Lib.hid h2
  clear h2 hs
  go_wp2
  go_region
  all_goals
    go_wp2
    exact bodyPost_ret (v := .tuple #[.int .i64 c.value, .int .i64 c.version, .bool (decide (0 < c.version))]) (by simp [results, Try.results14, go_sem, k1, k2]) rfl ⟨rfl, Fr.to_ (((H2.out.setx _ 0 _ (by omega)).setx _ 0 _ (by omega)).drew)⟩

set_option maxHeartbeats 4000000 in
theorem take1_no (w0 W : World) (b : Nat) (c : Cel) (hf : c.fresh = false) (h : Fr w0 b (cells 1 c) [(w0.heap.size + 1 + 1 + 1, 4, #[.bool false]), (w0.heap.size + 1 + 1, 3, #[.int .i64 0]), (w0.heap.size + 1, 3, #[.int .i64 0]), (w0.heap.size, 24, #[.pointer (some ⟨b, 0, none⟩)])] W) :
    Calls Try.prog 22 #[.pointer (some ⟨w0.heap.size, 0, none⟩), .pointer (some ⟨w0.heap.size + 1, 0, none⟩), .pointer (some ⟨w0.heap.size + 1 + 1, 0, none⟩), .pointer (some ⟨w0.heap.size + 1 + 1 + 1, 0, none⟩)] W fun e w' => e = .returned (.tuple #[]) ∧ Fr w0 b (cells 1 { c with fresh := false }) [(w0.heap.size + 1 + 1 + 1, 4, #[.bool false]), (w0.heap.size + 1 + 1, 3, #[.int .i64 0]), (w0.heap.size + 1, 3, #[.int .i64 0]), (w0.heap.size, 24, #[.pointer (some ⟨b, 0, none⟩)])] w' := by
  have h0 : W.cell? ⟨w0.heap.size, 0, none⟩ = some (.pointer (some ⟨b, 0, none⟩)) := (h.box (.tail _ (.tail _ (.tail _ (.head _))))).cell 0
  have h1 : W.cell? ⟨w0.heap.size + 1, 0, none⟩ = some (.int .i64 0) := (h.box (.tail _ (.tail _ (.head _)))).cell 0
  have h2 : W.cell? ⟨w0.heap.size + 1 + 1, 0, none⟩ = some (.int .i64 0) := (h.box (.tail _ (.head _))).cell 0
  have h3 : W.cell? ⟨w0.heap.size + 1 + 1 + 1, 0, none⟩ = some (.bool false) := (h.box (.head _)).cell 0
  have f1 : W.frozen? ⟨w0.heap.size + 1, 0, none⟩ = false := (h.box (.tail _ (.tail _ (.head _)))).free 0
  have f2 : W.frozen? ⟨w0.heap.size + 1 + 1, 0, none⟩ = false := (h.box (.tail _ (.head _))).free 0
  have f3 : W.frozen? ⟨w0.heap.size + 1 + 1 + 1, 0, none⟩ = false := (h.box (.head _)).free 0
  have h6 : W.cell? ⟨b, 6, none⟩ = some (.int .i64 c.value) := h.cell.cell 6
  have h7 : W.cell? ⟨b, 7, none⟩ = some (.int .u32 (bit c.fresh)) := h.cell.cell 7
  have h9 : W.cell? ⟨b, 9, none⟩ = some (.int .i64 c.version) := h.cell.cell 9
  have f7 : W.frozen? ⟨b, 7, none⟩ = false := h.cell.free 7
  have hlt := h.lt
  have H := Lib.hid h
  clear h
  rw [hf] at h7
  go_enter Try.func22, Try.ntmps22
  go_wp2_with (go_at_call 23; refine (swapB_any b 7 false false _ h7 f7).mono ?_; rintro e w9 ⟨rfl, rfl⟩)
  first | go_end0 | refine bodyPost_ret (results_none rfl _ _ _) rfl ?_
  exact ⟨rfl, ((H.out.setb 7 _).drew).as_ rfl rfl⟩

set_option maxHeartbeats 4000000 in
theorem take1_yes (w0 W : World) (b : Nat) (c : Cel) (hf : c.fresh = true) (h : Fr w0 b (cells 1 c) [(w0.heap.size + 1 + 1 + 1, 4, #[.bool false]), (w0.heap.size + 1 + 1, 3, #[.int .i64 0]), (w0.heap.size + 1, 3, #[.int .i64 0]), (w0.heap.size, 24, #[.pointer (some ⟨b, 0, none⟩)])] W) :
    Calls Try.prog 22 #[.pointer (some ⟨w0.heap.size, 0, none⟩), .pointer (some ⟨w0.heap.size + 1, 0, none⟩), .pointer (some ⟨w0.heap.size + 1 + 1, 0, none⟩), .pointer (some ⟨w0.heap.size + 1 + 1 + 1, 0, none⟩)] W fun e w' => e = .returned (.tuple #[]) ∧ Fr w0 b (cells 1 { c with fresh := false }) [(w0.heap.size + 1 + 1 + 1, 4, #[.bool true]), (w0.heap.size + 1 + 1, 3, #[.int .i64 c.version]), (w0.heap.size + 1, 3, #[.int .i64 c.value]), (w0.heap.size, 24, #[.pointer (some ⟨b, 0, none⟩)])] w' := by
  have h0 : W.cell? ⟨w0.heap.size, 0, none⟩ = some (.pointer (some ⟨b, 0, none⟩)) := (h.box (.tail _ (.tail _ (.tail _ (.head _))))).cell 0
  have h1 : W.cell? ⟨w0.heap.size + 1, 0, none⟩ = some (.int .i64 0) := (h.box (.tail _ (.tail _ (.head _)))).cell 0
  have h2 : W.cell? ⟨w0.heap.size + 1 + 1, 0, none⟩ = some (.int .i64 0) := (h.box (.tail _ (.head _))).cell 0
  have h3 : W.cell? ⟨w0.heap.size + 1 + 1 + 1, 0, none⟩ = some (.bool false) := (h.box (.head _)).cell 0
  have f1 : W.frozen? ⟨w0.heap.size + 1, 0, none⟩ = false := (h.box (.tail _ (.tail _ (.head _)))).free 0
  have f2 : W.frozen? ⟨w0.heap.size + 1 + 1, 0, none⟩ = false := (h.box (.tail _ (.head _))).free 0
  have f3 : W.frozen? ⟨w0.heap.size + 1 + 1 + 1, 0, none⟩ = false := (h.box (.head _)).free 0
  have h6 : W.cell? ⟨b, 6, none⟩ = some (.int .i64 c.value) := h.cell.cell 6
  have h7 : W.cell? ⟨b, 7, none⟩ = some (.int .u32 (bit c.fresh)) := h.cell.cell 7
  have h9 : W.cell? ⟨b, 9, none⟩ = some (.int .i64 c.version) := h.cell.cell 9
  have f7 : W.frozen? ⟨b, 7, none⟩ = false := h.cell.free 7
  have hlt := h.lt
  have H := Lib.hid h
  clear h
  rw [hf] at h7
  go_enter Try.func22, Try.ntmps22
  go_wp2_with fail
  refine (swapB_any b 7 true false _ h7 f7).mono ?_
  rintro e W1 ⟨rfl, hW1⟩
  have h' : Fr w0 b (cells 1 { c with fresh := false }) [(w0.heap.size + 1 + 1 + 1, 4, #[.bool false]), (w0.heap.size + 1 + 1, 3, #[.int .i64 0]), (w0.heap.size + 1, 3, #[.int .i64 0]), (w0.heap.size, 24, #[.pointer (some ⟨b, 0, none⟩)])] W1 := hW1 ▸ ((H.out.setb 7 _).drew).as_ rfl rfl
  clear hW1 h0 h1 h2 h3 f1 f2 f3 h6 h7 h9 f7 H
  have h0 : W1.cell? ⟨w0.heap.size, 0, none⟩ = some (.pointer (some ⟨b, 0, none⟩)) := (h'.box (.tail _ (.tail _ (.tail _ (.head _))))).cell 0
  have h1 : W1.cell? ⟨w0.heap.size + 1, 0, none⟩ = some (.int .i64 0) := (h'.box (.tail _ (.tail _ (.head _)))).cell 0
  have h2 : W1.cell? ⟨w0.heap.size + 1 + 1, 0, none⟩ = some (.int .i64 0) := (h'.box (.tail _ (.head _))).cell 0
  have h3 : W1.cell? ⟨w0.heap.size + 1 + 1 + 1, 0, none⟩ = some (.bool false) := (h'.box (.head _)).cell 0
  have f1 : W1.frozen? ⟨w0.heap.size + 1, 0, none⟩ = false := (h'.box (.tail _ (.tail _ (.head _)))).free 0
  have f2 : W1.frozen? ⟨w0.heap.size + 1 + 1, 0, none⟩ = false := (h'.box (.tail _ (.head _))).free 0
  have f3 : W1.frozen? ⟨w0.heap.size + 1 + 1 + 1, 0, none⟩ = false := (h'.box (.head _)).free 0
  have h6 : W1.cell? ⟨b, 6, none⟩ = some (.int .i64 c.value) := h'.cell.cell 6
  have h9 : W1.cell? ⟨b, 9, none⟩ = some (.int .i64 c.version) := h'.cell.cell 9
  have n1 : ¬ b = w0.heap.size + 1 := by omega
  have n2 : ¬ b = w0.heap.size + 1 + 1 := by omega
  have n3 : ¬ b = w0.heap.size + 1 + 1 + 1 := by omega
  have n4 : ¬ w0.heap.size + 1 = b := by omega
  have n5 : ¬ w0.heap.size + 1 + 1 = b := by omega
  have n6 : ¬ w0.heap.size + 1 + 1 + 1 = b := by omega
  have n7 : ¬ w0.heap.size = w0.heap.size + 1 + 1 := by omega
  have n8 : ¬ w0.heap.size = w0.heap.size + 1 + 1 + 1 := by omega
  have n9 : ¬ w0.heap.size + 1 + 1 = w0.heap.size := by omega
  have na : ¬ w0.heap.size + 1 + 1 + 1 = w0.heap.size := by omega
  have nb : ¬ w0.heap.size + 1 = w0.heap.size + 1 + 1 + 1 := by omega
  have nc : ¬ w0.heap.size + 1 + 1 + 1 = w0.heap.size + 1 := by omega
  have H := Lib.hid h'
  clear h'
  go_wp2_with fail
  go_region_held3 (fun W => W.cell? ⟨w0.heap.size, 0, none⟩ = some (.pointer (some ⟨b, 0, none⟩)) ∧ W.cell? ⟨b, 6, none⟩ = some (.int .i64 c.value) ∧ W.cell? ⟨b, 9, none⟩ = some (.int .i64 c.version)) (go_keep)
    (first | (go_at_call 24; refine (load64_any b 9 c.version _ (by simp [*])).mono ?_; rintro e w9 ⟨rfl, rfl⟩))
  all_goals
    first | go_end0 | refine bodyPost_ret (results_none rfl _ _ _) rfl ?_
    exact ⟨rfl, ((((H.out.setx _ 0 _ (by omega)).setx _ 0 _ (by omega)).setx _ 0 _ (by omega)).drew).as_ rfl (by simp [n7, n8, n9])⟩

/-- What Take tells. -/
def Cel.took (c : Cel) : Int × Int := if c.fresh then (c.value, c.version) else (0, 0)

theorem take1_any (w0 W : World) (b : Nat) (c : Cel) (h : Fr w0 b (cells 1 c) [(w0.heap.size + 1 + 1 + 1, 4, #[.bool false]), (w0.heap.size + 1 + 1, 3, #[.int .i64 0]), (w0.heap.size + 1, 3, #[.int .i64 0]), (w0.heap.size, 24, #[.pointer (some ⟨b, 0, none⟩)])] W) :
    Calls Try.prog 22 #[.pointer (some ⟨w0.heap.size, 0, none⟩), .pointer (some ⟨w0.heap.size + 1, 0, none⟩), .pointer (some ⟨w0.heap.size + 1 + 1, 0, none⟩), .pointer (some ⟨w0.heap.size + 1 + 1 + 1, 0, none⟩)] W fun e w' => e = .returned (.tuple #[]) ∧
      Fr w0 b (cells 1 { c with fresh := false }) [(w0.heap.size + 1 + 1 + 1, 4, #[.bool c.fresh]), (w0.heap.size + 1 + 1, 3, #[.int .i64 c.took.2]), (w0.heap.size + 1, 3, #[.int .i64 c.took.1]), (w0.heap.size, 24, #[.pointer (some ⟨b, 0, none⟩)])] w' := by
  rcases hf : c.fresh with _ | _
  · have e : c.took = (0, 0) := by unfold Cel.took; rw [hf]; rfl
    rw [e]
    exact take1_no w0 W b c hf h
  · have e : c.took = (c.value, c.version) := by unfold Cel.took; rw [hf]; rfl
    rw [e]
    exact take1_yes w0 W b c hf h

set_option maxHeartbeats 2000000 in
theorem take_any (b : Nat) (c : Cel) (w : World) (hb : At w b c) :
    Calls Try.prog 10 #[.pointer (some ⟨b, 0, none⟩)] w fun e w' => e = .returned (.tuple #[.int .i64 c.took.1, .int .i64 c.took.2, .bool c.fresh]) ∧ To w w' b { c with fresh := false } := by
  have h3 : Fr w b (cells 0 c) [(w.heap.size + 1 + 1 + 1, 4, #[.bool false]), (w.heap.size + 1 + 1, 3, #[.int .i64 0]), (w.heap.size + 1, 3, #[.int .i64 0]), (w.heap.size, 24, #[.pointer (some ⟨b, 0, none⟩)])]
      ((((w.alloc (.cells #[.pointer (some ⟨b, 0, none⟩)] 24)).alloc (.cells #[.int .i64 0] 3)).alloc (.cells #[.int .i64 0] 3)).alloc (.cells #[.bool false] 4)) :=
    (((((Fr.start hb).add 24 _).add 3 _).add 3 _).add 4 _).as_ rfl (by simp)
  have hs := h3.cell.cell 0
  have hl := locked_fr 22 #[.pointer (some ⟨w.heap.size, 0, none⟩), .pointer (some ⟨w.heap.size + 1, 0, none⟩), .pointer (some ⟨w.heap.size + 1 + 1, 0, none⟩), .pointer (some ⟨w.heap.size + 1 + 1 + 1, 0, none⟩)] c { c with fresh := false } _ h3 (call22 _) (fun W h => take1_any w W b c h)
  have HL := Lib.hid hl
  clear hl h3 hb
  go_enter Try.func10, Try.ntmps10
  go_wp2_with (first | (go_at_call 20; refine (some_any b _ hs).mono ?_; rintro e w' ⟨rfl, rfl⟩))
  refine HL.out.mono ?_
  rintro e w2 ⟨rfl, h2⟩
  obtain ⟨x, hx⟩ : ∃ x, c.took.1 = x := ⟨_, rfl⟩
  obtain ⟨y, hy⟩ : ∃ y, c.took.2 = y := ⟨_, rfl⟩
  obtain ⟨f, hf⟩ : ∃ f, c.fresh = f := ⟨_, rfl⟩
  rw [hx, hy, hf] at h2
  have HX := Lib.hid (And.intro hx (And.intro hy hf))
  have k1 : w2.cell? ⟨w.heap.size + 1, 0, none⟩ = some (.int .i64 x) := (h2.box (.tail _ (.tail _ (.head _)))).cell 0
  have k2 : w2.cell? ⟨w.heap.size + 1 + 1, 0, none⟩ = some (.int .i64 y) := (h2.box (.tail _ (.head _))).cell 0
  have k3 : w2.cell? ⟨w.heap.size + 1 + 1 + 1, 0, none⟩ = some (.bool f) := (h2.box (.head _)).cell 0
  have f1 : w2.frozen? ⟨w.heap.size + 1, 0, none⟩ = false := (h2.box (.tail _ (.tail _ (.head _)))).free 0
  have f2 : w2.frozen? ⟨w.heap.size + 1 + 1, 0, none⟩ = false := (h2.box (.tail _ (.head _))).free 0
  have f3 : w2.frozen? ⟨w.heap.size + 1 + 1 + 1, 0, none⟩ = false := (h2.box (.head _)).free 0
  have H2 := Lib.hid h2
  clear h2 hs hx hy hf
  go_wp2
  go_region
  all_goals
    go_wp2
    exact bodyPost_ret (v := .tuple #[.int .i64 x, .int .i64 y, .bool f]) (by simp [results, Try.results10, go_sem, k1, k2, k3]) rfl ⟨by rw [HX.out.1, HX.out.2.1, HX.out.2.2], Fr.to_ ((((H2.out.setx _ 0 _ (by omega)).setx _ 0 _ (by omega)).setx _ 0 _ (by omega)).drew)⟩
end Go.Proofs.Ythiifeiacpmjiaa
