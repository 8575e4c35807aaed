/- A cell's methods, walked (3): put, Put, Change. Conditions: the cell was made, its lock is free, its numbers are in bounds. -/
import Derived.Test.YthiifeiacpmjiaaCellB
namespace Go.Proofs.Ythiifeiacpmjiaa
open Go.RowKit
open Go.MuLone

theorem call35 (caps : Array Value) (w : World) : (callFunc 35 caps).run Try.prog w = .ok (.enter 35 caps) w := by simp [go_sem]
theorem call19 (caps : Array Value) (w : World) : (callFunc 19 caps).run Try.prog w = .ok (.enter 19 caps) w := by simp [go_sem]
theorem call34 (caps : Array Value) (w : World) : (callFunc 34 caps).run Try.prog w = .ok (.enter 34 caps) w := by simp [go_sem]

/-- A value is put in. -/
def Cel.put (c : Cel) (v : Int) : Cel := ⟨v, true, c.closed, c.version + 1, if c.fresh then c.lost + 1 else c.lost⟩

set_option maxHeartbeats 1000000 in
theorem put1_closed (w0 W : World) (b A : Nat) (ac : Array Value) (v : Int) (c : Cel) (hcl : c.closed = true) (h : Fr w0 b (cells 1 c) [(w0.heap.size + 1 + 1 + 1 + 1, 26, #[.int .i64 0]), (w0.heap.size + 1 + 1 + 1, 3, #[.int .i64 0]), (w0.heap.size + 1 + 1, 58, #[.func (.func A) #[] ac]), (w0.heap.size + 1, 3, #[.int .i64 v]), (w0.heap.size, 24, #[.pointer (some ⟨b, 0, none⟩)])] W) :
    Calls Try.prog 35 #[.pointer (some ⟨w0.heap.size, 0, none⟩), .pointer (some ⟨w0.heap.size + 1 + 1 + 1 + 1, 0, none⟩), .pointer (some ⟨w0.heap.size + 1 + 1, 0, none⟩), .pointer (some ⟨w0.heap.size + 1, 0, none⟩), .pointer (some ⟨w0.heap.size + 1 + 1 + 1, 0, none⟩)] W fun e w' => e = .returned (.tuple #[]) ∧ Fr w0 b (cells 1 (c)) [(w0.heap.size + 1 + 1 + 1 + 1, 26, #[.int .i64 390]), (w0.heap.size + 1 + 1 + 1, 3, #[.int .i64 0]), (w0.heap.size + 1 + 1, 58, #[.func (.func A) #[] ac]), (w0.heap.size + 1, 3, #[.int .i64 v]), (w0.heap.size, 24, #[.pointer (some ⟨b, 0, none⟩)])] w' := by
  have h0 : W.cell? ⟨w0.heap.size, 0, none⟩ = some (.pointer (some ⟨b, 0, none⟩)) := (h.box (.tail _ (.tail _ (.tail _ (.tail _ (.head _)))))).cell 0
  have h1 : W.cell? ⟨w0.heap.size + 1, 0, none⟩ = some (.int .i64 v) := (h.box (.tail _ (.tail _ (.tail _ (.head _))))).cell 0
  have h2 : W.cell? ⟨w0.heap.size + 1 + 1, 0, none⟩ = some (.func (.func A) #[] ac) := (h.box (.tail _ (.tail _ (.head _)))).cell 0
  have h3 : W.cell? ⟨w0.heap.size + 1 + 1 + 1, 0, none⟩ = some (.int .i64 0) := (h.box (.tail _ (.head _))).cell 0
  have h4 : W.cell? ⟨w0.heap.size + 1 + 1 + 1 + 1, 0, none⟩ = some (.int .i64 0) := (h.box (.head _)).cell 0
  have f3 : W.frozen? ⟨w0.heap.size + 1 + 1 + 1, 0, none⟩ = false := (h.box (.tail _ (.head _))).free 0
  have f4 : W.frozen? ⟨w0.heap.size + 1 + 1 + 1 + 1, 0, none⟩ = false := (h.box (.head _)).free 0
  have h8 : W.cell? ⟨b, 8, none⟩ = some (.int .u32 (bit c.closed)) := h.cell.cell 8
  rw [hcl] at h8
  have H := Lib.hid h
  clear h
  go_enter Try.func35, Try.ntmps35
  go_wp2_with (go_at_call 27; refine (loadB_any b 8 true _ h8).mono ?_; rintro e w9 ⟨rfl, rfl⟩)
  first | go_end0 | refine bodyPost_ret (results_none rfl _ _ _) rfl ?_
  exact ⟨rfl, (H.out.setx _ 0 _ (by omega)).as_ rfl (by first | (simp; done) | (simp; omega))⟩

set_option maxHeartbeats 1000000 in
theorem put1_against (w0 W : World) (b A : Nat) (ac : Array Value) (v : Int) (c : Cel) (hcl : c.closed = false) (hK : ∀ w, (callFunc A ac).run Try.prog w = .ok (.enter A ac) w) (ev : Int) (hA : ∀ W, Fr w0 b (cells 1 c) [(w0.heap.size + 1 + 1 + 1 + 1, 26, #[.int .i64 0]), (w0.heap.size + 1 + 1 + 1, 3, #[.int .i64 0]), (w0.heap.size + 1 + 1, 58, #[.func (.func A) #[] ac]), (w0.heap.size + 1, 3, #[.int .i64 v]), (w0.heap.size, 24, #[.pointer (some ⟨b, 0, none⟩)])] W → Calls Try.prog A ac W fun e w' => e = .returned (.int .i64 ev) ∧ ∃ n, W.drewN n = w') (he : ev ≠ 0) (h : Fr w0 b (cells 1 c) [(w0.heap.size + 1 + 1 + 1 + 1, 26, #[.int .i64 0]), (w0.heap.size + 1 + 1 + 1, 3, #[.int .i64 0]), (w0.heap.size + 1 + 1, 58, #[.func (.func A) #[] ac]), (w0.heap.size + 1, 3, #[.int .i64 v]), (w0.heap.size, 24, #[.pointer (some ⟨b, 0, none⟩)])] W) :
    Calls Try.prog 35 #[.pointer (some ⟨w0.heap.size, 0, none⟩), .pointer (some ⟨w0.heap.size + 1 + 1 + 1 + 1, 0, none⟩), .pointer (some ⟨w0.heap.size + 1 + 1, 0, none⟩), .pointer (some ⟨w0.heap.size + 1, 0, none⟩), .pointer (some ⟨w0.heap.size + 1 + 1 + 1, 0, none⟩)] W fun e w' => e = .returned (.tuple #[]) ∧ Fr w0 b (cells 1 (c)) [(w0.heap.size + 1 + 1 + 1 + 1, 26, #[.int .i64 ev]), (w0.heap.size + 1 + 1 + 1, 3, #[.int .i64 0]), (w0.heap.size + 1 + 1, 58, #[.func (.func A) #[] ac]), (w0.heap.size + 1, 3, #[.int .i64 v]), (w0.heap.size, 24, #[.pointer (some ⟨b, 0, none⟩)])] w' := by
  have h0 : W.cell? ⟨w0.heap.size, 0, none⟩ = some (.pointer (some ⟨b, 0, none⟩)) := (h.box (.tail _ (.tail _ (.tail _ (.tail _ (.head _)))))).cell 0
  have h1 : W.cell? ⟨w0.heap.size + 1, 0, none⟩ = some (.int .i64 v) := (h.box (.tail _ (.tail _ (.tail _ (.head _))))).cell 0
  have h2 : W.cell? ⟨w0.heap.size + 1 + 1, 0, none⟩ = some (.func (.func A) #[] ac) := (h.box (.tail _ (.tail _ (.head _)))).cell 0
  have h3 : W.cell? ⟨w0.heap.size + 1 + 1 + 1, 0, none⟩ = some (.int .i64 0) := (h.box (.tail _ (.head _))).cell 0
  have h4 : W.cell? ⟨w0.heap.size + 1 + 1 + 1 + 1, 0, none⟩ = some (.int .i64 0) := (h.box (.head _)).cell 0
  have f3 : W.frozen? ⟨w0.heap.size + 1 + 1 + 1, 0, none⟩ = false := (h.box (.tail _ (.head _))).free 0
  have f4 : W.frozen? ⟨w0.heap.size + 1 + 1 + 1 + 1, 0, none⟩ = false := (h.box (.head _)).free 0
  have h8 : W.cell? ⟨b, 8, none⟩ = some (.int .u32 (bit c.closed)) := h.cell.cell 8
  rw [hcl] at h8
  have d1 : (ev != 0) = true := by simp; exact he
  have H := Lib.hid h
  have HC := Lib.hid (hA W h)
  clear h hA
  go_enter Try.func35, Try.ntmps35
  go_wp2_with (go_at_call 27; refine (loadB_any b 8 false _ h8).mono ?_; rintro e w9 ⟨rfl, rfl⟩)
  refine HC.out.mono ?_
  rintro e w2 ⟨rfl, nd, rfl⟩
  go_wp2
  first | go_end0 | refine bodyPost_ret (results_none rfl _ _ _) rfl ?_
  exact ⟨rfl, ((H.out.drewN nd).setx _ 0 _ (by omega)).as_ rfl (by first | (simp; done) | (simp; omega))⟩

set_option maxHeartbeats 4000000 in
theorem put1_ok (w0 W : World) (b A : Nat) (ac : Array Value) (v : Int) (c : Cel) (hcl : c.closed = false) (hK : ∀ w, (callFunc A ac).run Try.prog w = .ok (.enter A ac) w) (ev : Int) (hA : ∀ W, Fr w0 b (cells 1 c) [(w0.heap.size + 1 + 1 + 1 + 1, 26, #[.int .i64 0]), (w0.heap.size + 1 + 1 + 1, 3, #[.int .i64 0]), (w0.heap.size + 1 + 1, 58, #[.func (.func A) #[] ac]), (w0.heap.size + 1, 3, #[.int .i64 v]), (w0.heap.size, 24, #[.pointer (some ⟨b, 0, none⟩)])] W → Calls Try.prog A ac W fun e w' => e = .returned (.int .i64 ev) ∧ ∃ n, W.drewN n = w') (he : ev = 0) (v0 : 0 ≤ c.version) (v1 : c.version ≤ 1000000) (l0 : 0 ≤ c.lost) (l1 : c.lost ≤ 1000000) (h : Fr w0 b (cells 1 c) [(w0.heap.size + 1 + 1 + 1 + 1, 26, #[.int .i64 0]), (w0.heap.size + 1 + 1 + 1, 3, #[.int .i64 0]), (w0.heap.size + 1 + 1, 58, #[.func (.func A) #[] ac]), (w0.heap.size + 1, 3, #[.int .i64 v]), (w0.heap.size, 24, #[.pointer (some ⟨b, 0, none⟩)])] W) :
    Calls Try.prog 35 #[.pointer (some ⟨w0.heap.size, 0, none⟩), .pointer (some ⟨w0.heap.size + 1 + 1 + 1 + 1, 0, none⟩), .pointer (some ⟨w0.heap.size + 1 + 1, 0, none⟩), .pointer (some ⟨w0.heap.size + 1, 0, none⟩), .pointer (some ⟨w0.heap.size + 1 + 1 + 1, 0, none⟩)] W fun e w' => e = .returned (.tuple #[]) ∧ Fr w0 b (cells 1 (c.put v)) [(w0.heap.size + 1 + 1 + 1 + 1, 26, #[.int .i64 0]), (w0.heap.size + 1 + 1 + 1, 3, #[.int .i64 (c.version + 1)]), (w0.heap.size + 1 + 1, 58, #[.func (.func A) #[] ac]), (w0.heap.size + 1, 3, #[.int .i64 v]), (w0.heap.size, 24, #[.pointer (some ⟨b, 0, none⟩)])] w' := by
  have h0 : W.cell? ⟨w0.heap.size, 0, none⟩ = some (.pointer (some ⟨b, 0, none⟩)) := (h.box (.tail _ (.tail _ (.tail _ (.tail _ (.head _)))))).cell 0
  have h1 : W.cell? ⟨w0.heap.size + 1, 0, none⟩ = some (.int .i64 v) := (h.box (.tail _ (.tail _ (.tail _ (.head _))))).cell 0
  have h2 : W.cell? ⟨w0.heap.size + 1 + 1, 0, none⟩ = some (.func (.func A) #[] ac) := (h.box (.tail _ (.tail _ (.head _)))).cell 0
  have h3 : W.cell? ⟨w0.heap.size + 1 + 1 + 1, 0, none⟩ = some (.int .i64 0) := (h.box (.tail _ (.head _))).cell 0
  have h4 : W.cell? ⟨w0.heap.size + 1 + 1 + 1 + 1, 0, none⟩ = some (.int .i64 0) := (h.box (.head _)).cell 0
  have f3 : W.frozen? ⟨w0.heap.size + 1 + 1 + 1, 0, none⟩ = false := (h.box (.tail _ (.head _))).free 0
  have f4 : W.frozen? ⟨w0.heap.size + 1 + 1 + 1 + 1, 0, none⟩ = false := (h.box (.head _)).free 0
  have h6 : W.cell? ⟨b, 6, none⟩ = some (.int .i64 c.value) := h.cell.cell 6
  have f6 : W.frozen? ⟨b, 6, none⟩ = false := h.cell.free 6
  have h8 : W.cell? ⟨b, 8, none⟩ = some (.int .u32 (bit c.closed)) := h.cell.cell 8
  have n7 : ¬ w0.heap.size = w0.heap.size + 1 + 1 := by omega
  have n8 : ¬ w0.heap.size = w0.heap.size + 1 + 1 + 1 := by omega
  have n9 : ¬ w0.heap.size = w0.heap.size + 1 + 1 + 1 + 1 := by omega
  have na : ¬ w0.heap.size + 1 = w0.heap.size + 1 + 1 + 1 := by omega
  have nb : ¬ w0.heap.size + 1 = w0.heap.size + 1 + 1 + 1 + 1 := by omega
  have nc : ¬ w0.heap.size + 1 + 1 = w0.heap.size + 1 + 1 + 1 + 1 := by omega
  rw [hcl] at h8
  subst he
  have H := Lib.hid h
  have HC := Lib.hid (hA W h)
  clear h hA
  go_enter Try.func35, Try.ntmps35
  go_wp2_with (go_at_call 27; refine (loadB_any b 8 false _ h8).mono ?_; rintro e w9 ⟨rfl, rfl⟩)
  refine HC.out.mono ?_
  rintro e w2 ⟨rfl, nd, rfl⟩
  go_wp2_with fail
  have h5 : Fr w0 b (cells 1 { c with value := v }) [(w0.heap.size + 1 + 1 + 1 + 1, 26, #[.int .i64 0]), (w0.heap.size + 1 + 1 + 1, 3, #[.int .i64 0]), (w0.heap.size + 1 + 1, 58, #[.func (.func A) #[] ac]), (w0.heap.size + 1, 3, #[.int .i64 v]), (w0.heap.size, 24, #[.pointer (some ⟨b, 0, none⟩)])] (((W.drewN nd).setCell ⟨w0.heap.size + 1 + 1 + 1 + 1, 0, none⟩ (.int .i64 0)).setCell ⟨b, 6, none⟩ (.int .i64 v)) :=
    (((H.out.drewN nd).setx _ 0 _ (by omega)).setb 6 _).as_ rfl (by first | (simp; done) | (simp; omega))
  rcases hf : c.fresh with _ | _
  · have h7 := h5.cell.cell 7
    have f7 := h5.cell.free 7
    refine (swapB_any b 7 false true _ (by have := h7; simpa [cells, hf] using this) f7).mono ?_
    rintro e W6 ⟨rfl, hW6⟩
    have h6' : Fr w0 b (cells 1 { c with value := v, fresh := true }) [(w0.heap.size + 1 + 1 + 1 + 1, 26, #[.int .i64 0]), (w0.heap.size + 1 + 1 + 1, 3, #[.int .i64 0]), (w0.heap.size + 1 + 1, 58, #[.func (.func A) #[] ac]), (w0.heap.size + 1, 3, #[.int .i64 v]), (w0.heap.size, 24, #[.pointer (some ⟨b, 0, none⟩)])] W6 := hW6 ▸ ((h5.setb 7 _).drew).as_ rfl rfl
    clear hW6 h5 h0 h1 h2 h3 h4 f3 f4 h6 f6 h8 h7 f7 H HC
    have h0 : W6.cell? ⟨w0.heap.size, 0, none⟩ = some (.pointer (some ⟨b, 0, none⟩)) := (h6'.box (.tail _ (.tail _ (.tail _ (.tail _ (.head _)))))).cell 0
    have h3 : W6.cell? ⟨w0.heap.size + 1 + 1 + 1, 0, none⟩ = some (.int .i64 0) := (h6'.box (.tail _ (.head _))).cell 0
    have f3 : W6.frozen? ⟨w0.heap.size + 1 + 1 + 1, 0, none⟩ = false := (h6'.box (.tail _ (.head _))).free 0
    have g9 := h6'.cell.cell 9
    have z9 := h6'.cell.free 9
    have H7 := Lib.hid h6'
    clear h6'
    go_wp2_with fail
    refine (add64_any b 9 c.version 1 _ g9 z9 (by omega) (by omega)).mono ?_
    rintro e W8 ⟨rfl, hW8⟩
    have h8' : Fr w0 b (cells 1 (c.put v)) [(w0.heap.size + 1 + 1 + 1 + 1, 26, #[.int .i64 0]), (w0.heap.size + 1 + 1 + 1, 3, #[.int .i64 0]), (w0.heap.size + 1 + 1, 58, #[.func (.func A) #[] ac]), (w0.heap.size + 1, 3, #[.int .i64 v]), (w0.heap.size, 24, #[.pointer (some ⟨b, 0, none⟩)])] W8 := hW8 ▸ (H7.out.setb 9 _).as_ (by unfold Cel.put; rw [hf]; rfl) rfl
    clear hW8 g9 z9 h0 h3 f3
    have h0 : W8.cell? ⟨w0.heap.size, 0, none⟩ = some (.pointer (some ⟨b, 0, none⟩)) := (h8'.box (.tail _ (.tail _ (.tail _ (.tail _ (.head _)))))).cell 0
    have h3 : W8.cell? ⟨w0.heap.size + 1 + 1 + 1, 0, none⟩ = some (.int .i64 0) := (h8'.box (.tail _ (.head _))).cell 0
    have f3 : W8.frozen? ⟨w0.heap.size + 1 + 1 + 1, 0, none⟩ = false := (h8'.box (.tail _ (.head _))).free 0
    have H8 := Lib.hid h8'
    clear h8' h0
    go_wp2
    first | go_end0 | refine bodyPost_ret (results_none rfl _ _ _) rfl ?_
    exact ⟨rfl, (H8.out.setx _ 0 _ (by omega)).as_ rfl (by first | (simp; done) | (simp; omega))⟩
  · have h7 := h5.cell.cell 7
    have f7 := h5.cell.free 7
    refine (swapB_any b 7 true true _ (by have := h7; simpa [cells, hf] using this) f7).mono ?_
    rintro e W6 ⟨rfl, hW6⟩
    have h6' : Fr w0 b (cells 1 { c with value := v, fresh := true }) [(w0.heap.size + 1 + 1 + 1 + 1, 26, #[.int .i64 0]), (w0.heap.size + 1 + 1 + 1, 3, #[.int .i64 0]), (w0.heap.size + 1 + 1, 58, #[.func (.func A) #[] ac]), (w0.heap.size + 1, 3, #[.int .i64 v]), (w0.heap.size, 24, #[.pointer (some ⟨b, 0, none⟩)])] W6 := hW6 ▸ ((h5.setb 7 _).drew).as_ rfl rfl
    clear hW6 h5 h0 h1 h2 h3 h4 f3 f4 h6 f6 h8 h7 f7 H HC
    have h0 : W6.cell? ⟨w0.heap.size, 0, none⟩ = some (.pointer (some ⟨b, 0, none⟩)) := (h6'.box (.tail _ (.tail _ (.tail _ (.tail _ (.head _)))))).cell 0
    have h3 : W6.cell? ⟨w0.heap.size + 1 + 1 + 1, 0, none⟩ = some (.int .i64 0) := (h6'.box (.tail _ (.head _))).cell 0
    have f3 : W6.frozen? ⟨w0.heap.size + 1 + 1 + 1, 0, none⟩ = false := (h6'.box (.tail _ (.head _))).free 0
    have g10 := h6'.cell.cell 10
    have z10 := h6'.cell.free 10
    have H6 := Lib.hid h6'
    clear h6'
    go_wp2_with fail
    refine (add64_any b 10 c.lost 1 _ g10 z10 (by omega) (by omega)).mono ?_
    rintro e W7 ⟨rfl, hW7⟩
    have h7' : Fr w0 b (cells 1 { c with value := v, fresh := true, lost := c.lost + 1 }) [(w0.heap.size + 1 + 1 + 1 + 1, 26, #[.int .i64 0]), (w0.heap.size + 1 + 1 + 1, 3, #[.int .i64 0]), (w0.heap.size + 1 + 1, 58, #[.func (.func A) #[] ac]), (w0.heap.size + 1, 3, #[.int .i64 v]), (w0.heap.size, 24, #[.pointer (some ⟨b, 0, none⟩)])] W7 := hW7 ▸ (H6.out.setb 10 _).as_ rfl rfl
    clear hW7 g10 z10 h0 h3 f3
    have h0 : W7.cell? ⟨w0.heap.size, 0, none⟩ = some (.pointer (some ⟨b, 0, none⟩)) := (h7'.box (.tail _ (.tail _ (.tail _ (.tail _ (.head _)))))).cell 0
    have h3 : W7.cell? ⟨w0.heap.size + 1 + 1 + 1, 0, none⟩ = some (.int .i64 0) := (h7'.box (.tail _ (.head _))).cell 0
    have f3 : W7.frozen? ⟨w0.heap.size + 1 + 1 + 1, 0, none⟩ = false := (h7'.box (.tail _ (.head _))).free 0
    have g9 := h7'.cell.cell 9
    have z9 := h7'.cell.free 9
    have H7 := Lib.hid h7'
    clear h7'
    go_wp2_with fail
    refine (add64_any b 9 c.version 1 _ g9 z9 (by omega) (by omega)).mono ?_
    rintro e W8 ⟨rfl, hW8⟩
    have h8' : Fr w0 b (cells 1 (c.put v)) [(w0.heap.size + 1 + 1 + 1 + 1, 26, #[.int .i64 0]), (w0.heap.size + 1 + 1 + 1, 3, #[.int .i64 0]), (w0.heap.size + 1 + 1, 58, #[.func (.func A) #[] ac]), (w0.heap.size + 1, 3, #[.int .i64 v]), (w0.heap.size, 24, #[.pointer (some ⟨b, 0, none⟩)])] W8 := hW8 ▸ (H7.out.setb 9 _).as_ (by unfold Cel.put; rw [hf]; rfl) rfl
    clear hW8 g9 z9 h0 h3 f3
    have h0 : W8.cell? ⟨w0.heap.size, 0, none⟩ = some (.pointer (some ⟨b, 0, none⟩)) := (h8'.box (.tail _ (.tail _ (.tail _ (.tail _ (.head _)))))).cell 0
    have h3 : W8.cell? ⟨w0.heap.size + 1 + 1 + 1, 0, none⟩ = some (.int .i64 0) := (h8'.box (.tail _ (.head _))).cell 0
    have f3 : W8.frozen? ⟨w0.heap.size + 1 + 1 + 1, 0, none⟩ = false := (h8'.box (.tail _ (.head _))).free 0
    have H8 := Lib.hid h8'
    clear h8' h0
    go_wp2
    first | go_end0 | refine bodyPost_ret (results_none rfl _ _ _) rfl ?_
    exact ⟨rfl, (H8.out.setx _ 0 _ (by omega)).as_ rfl (by first | (simp; done) | (simp; omega))⟩
end Go.Proofs.Ythiifeiacpmjiaa
