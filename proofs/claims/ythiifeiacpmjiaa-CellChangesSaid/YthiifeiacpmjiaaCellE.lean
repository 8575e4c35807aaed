/- A cell's methods, walked (5): Close, by way of sync.Once. Conditions: the cell was made, its lock and its Once's lock are free. -/
import Derived.Test.YthiifeiacpmjiaaCellB
namespace Go.Proofs.Ythiifeiacpmjiaa
open Go.RowKit
open Go.MuLone

theorem call32 (caps : Array Value) (w : World) : (callFunc 32 caps).run Try.prog w = .ok (.enter 32 caps) w := by simp [go_sem]
theorem call30 (caps : Array Value) (w : World) : (callFunc 30 caps).run Try.prog w = .ok (.enter 30 caps) w := by simp [go_sem]

theorem storeB_deferred (b k : Nat) (x : Value) (u : FrameMode) (w : World) (hc : w.cell? ⟨b, k, none⟩ = some x) (hz : w.frozen? ⟨b, k, none⟩ = false) :
    CallsD Try.prog 33 #[.pointer (some ⟨b, k, none⟩), .bool true] u w fun e u' w' => u' = u ∧ (e = .returned (.tuple #[]) ∧ (w.setCell ⟨b, k, none⟩ (.int .u32 (bit true))).drew = w') := by
  have hst := run_call_store (P := Try.prog) Try.func44 (by kernel_rfl) (by kernel_rfl) (by kernel_rfl) (by kernel_rfl) (w := w.drew) (k := .u32) (y := bit true) (a := ⟨b, k, none⟩) hc hz
  go_enter_d Try.func33, Try.ntmps33
  go_wp2
  go_region_with (first | (go_at_call 40; refine (b32_any true _).mono ?_; rintro e w9 ⟨rfl, rfl⟩))
  all_goals (go_end0; exact ⟨rfl, rfl⟩)

set_option maxHeartbeats 1000000 in
theorem close11_any (w0 W : World) (b : Nat) (cs : Array Value) (u x : Value) (hx : cs[8]? = some x) (h : Fr w0 b cs [(w0.heap.size + 1, 4, #[u]), (w0.heap.size, 24, #[.pointer (some ⟨b, 0, none⟩)])] W) :
    Calls Try.prog 32 #[.pointer (some ⟨w0.heap.size + 1, 0, none⟩), .pointer (some ⟨w0.heap.size, 0, none⟩)] W fun e w' => e = .returned (.tuple #[]) ∧
      Fr w0 b (cs.setIfInBounds 8 (.int .u32 (bit true))) [(w0.heap.size + 1, 4, #[.bool true]), (w0.heap.size, 24, #[.pointer (some ⟨b, 0, none⟩)])] w' := by
  have h0 : W.cell? ⟨w0.heap.size, 0, none⟩ = some (.pointer (some ⟨b, 0, none⟩)) := (h.box (.tail _ (.head _))).cell 0
  have h1 : W.cell? ⟨w0.heap.size + 1, 0, none⟩ = some u := (h.box (.head _)).cell 0
  have f1 : W.frozen? ⟨w0.heap.size + 1, 0, none⟩ = false := (h.box (.head _)).free 0
  have h2 : Fr w0 b cs [(w0.heap.size + 1, 4, #[.bool true]), (w0.heap.size, 24, #[.pointer (some ⟨b, 0, none⟩)])] (W.setCell ⟨w0.heap.size + 1, 0, none⟩ (.bool true)) := (h.setx _ 0 _ (by omega)).as_ rfl (by first | (simp; done) | (simp; omega))
  have h8 : (W.setCell ⟨w0.heap.size + 1, 0, none⟩ (.bool true)).cell? ⟨b, 8, none⟩ = some x := (h2.cell.cell 8).trans hx
  have f8 := h2.cell.free 8
  have H := Lib.hid h2
  clear h h2
  go_enter Try.func32, Try.ntmps32
  go_wp2_with fail
  refine (storeB_any b 8 x true _ h8 f8).mono ?_
  rintro e w9 ⟨rfl, hw⟩
  have H9 := Lib.hid (hw ▸ (H.out.setb 8 _).drew)
  clear hw
  go_wp2
  go_end0
  exact ⟨rfl, H9.out⟩

set_option maxHeartbeats 2000000 in
theorem slow_any (w0 W : World) (b : Nat) (c : Cel) (hc : c.closed = false) (h : Fr w0 b (cells 1 c) [(w0.heap.size + 1, 4, #[.bool false]), (w0.heap.size, 24, #[.pointer (some ⟨b, 0, none⟩)])] W) :
    Calls Try.prog 43 #[.pointer (some ⟨b, 3, none⟩), .func (.func 32) #[] #[.pointer (some ⟨w0.heap.size + 1, 0, none⟩), .pointer (some ⟨w0.heap.size, 0, none⟩)]] W fun e w' => e = .returned (.tuple #[]) ∧
      Fr w0 b (cells 1 { c with closed := true }) [(w0.heap.size + 1, 4, #[.bool true]), (w0.heap.size, 24, #[.pointer (some ⟨b, 0, none⟩)])] w' := by
  have h4 : W.cell? ⟨b, 4, none⟩ = some (.int .i32 0) := h.cell.cell 4
  have f4 : W.frozen? ⟨b, 4, none⟩ = false := h.cell.free 4
  have hl := h.setb 4 (.int .i32 1)
  have h3 : (W.setCell ⟨b, 4, none⟩ (.int .i32 1)).cell? ⟨b, 3, none⟩ = some (.int .u32 (bit false)) := by have := hl.cell.cell 3; rw [this]; simp [cells, hc]
  have HC := Lib.hid (close11_any w0 _ b _ _ (.int .u32 (bit false)) (by simp [cells, hc]) hl)
  clear h hl
  have hk := call32 #[.pointer (some ⟨w0.heap.size + 1, 0, none⟩), .pointer (some ⟨w0.heap.size, 0, none⟩)]
  go_enter_defers Try.func43, Try.ntmps43
  go_wp2_with (first | (go_at_call 37; refine (lock_free Try.muLib ⟨b, 4, none⟩ _ h4 f4).mono ?_; rintro e w' ⟨rfl, rfl⟩) | (go_at_call 27; refine (loadB_any b 3 false _ h3).mono ?_; rintro e w' ⟨rfl, rfl⟩))
  refine HC.out.mono ?_
  rintro e w2 ⟨rfl, h2⟩
  have k3 : w2.cell? ⟨b, 3, none⟩ = some (.int .u32 (bit false)) := by have := h2.cell.cell 3; rw [this]; simp [cells, hc]
  have z3 := h2.cell.free 3
  have h5 := (h2.setb 3 (.int .u32 (bit true))).drew
  have k4 : ((w2.setCell ⟨b, 3, none⟩ (.int .u32 (bit true))).drew).cell? ⟨b, 4, none⟩ = some (.int .i32 1) := by have := h5.cell.cell 4; rw [this]; simp [cells]
  have z4 := h5.cell.free 4
  have h6 := (h5.setb 4 (.int .i32 0)).as_ (cs' := cells 1 { c with closed := true }) (by simp [cells, hc]) rfl
  have H6 := Lib.hid h6
  clear h2 h5 h6
  go_wp2_with fail
  refine leaves_cons (f := 33) (args := #[.pointer (some ⟨b, 3, none⟩), .bool true]) (by simp) (by simp [go_sem]) ?_
  refine (storeB_deferred b 3 _ .returning _ k3 z3).mono ?_
  rintro e u' w'' ⟨rfl, rfl, rfl⟩
  refine leaves_cons (f := 38) (args := #[.pointer (some ⟨b, 4, none⟩)]) (by simp [settle]) (by simp [go_sem]) ?_
  refine (unlock_deferred Try.muLib ⟨b, 4, none⟩ _ _ k4 z4).mono ?_
  rintro e u' w'' ⟨rfl, rfl, rfl⟩
  exact ⟨_, results_none rfl _ _ _, rfl, H6.out⟩

set_option maxHeartbeats 2000000 in
theorem close1_any (w0 W : World) (b : Nat) (c : Cel) (h : Fr w0 b (cells 1 c) [(w0.heap.size + 1, 4, #[.bool false]), (w0.heap.size, 24, #[.pointer (some ⟨b, 0, none⟩)])] W) :
    Calls Try.prog 30 #[.pointer (some ⟨w0.heap.size, 0, none⟩), .pointer (some ⟨w0.heap.size + 1, 0, none⟩)] W fun e w' => e = .returned (.tuple #[]) ∧
      Fr w0 b (cells 1 { c with closed := true }) [(w0.heap.size + 1, 4, #[.bool (!c.closed)]), (w0.heap.size, 24, #[.pointer (some ⟨b, 0, none⟩)])] w' := by
  have h0 : W.cell? ⟨w0.heap.size, 0, none⟩ = some (.pointer (some ⟨b, 0, none⟩)) := (h.box (.tail _ (.head _))).cell 0
  have h3 : W.cell? ⟨b, 3, none⟩ = some (.int .u32 (bit c.closed)) := h.cell.cell 3
  rcases hc : c.closed with _ | _
  · rw [hc] at h3
    have HS := Lib.hid (slow_any w0 W b c hc h)
    clear h
    go_enter Try.func30, Try.ntmps30
    go_wp2_with (first | (go_at_call 31; go_in) | (go_at_call 27; refine (loadB_any b 3 false _ h3).mono ?_; rintro e w' ⟨rfl, rfl⟩))
    refine HS.out.mono ?_
    rintro e w2 ⟨rfl, h2⟩
    have H2 := Lib.hid h2
    clear h2
    go_wp2
    first | go_end0 | refine bodyPost_ret (results_none rfl _ _ _) rfl ?_
    go_wp2
    go_end0
    exact ⟨rfl, H2.out⟩
  · have H := Lib.hid (h.as_ (cs' := cells 1 { c with closed := true }) (by simp [cells, hc]) rfl)
    rw [hc] at h3
    clear h
    go_enter Try.func30, Try.ntmps30
    go_wp2_with (first | (go_at_call 31; go_in) | (go_at_call 27; refine (loadB_any b 3 true _ h3).mono ?_; rintro e w' ⟨rfl, rfl⟩))
    first | go_end0 | refine bodyPost_ret (results_none rfl _ _ _) rfl ?_
    go_wp2
    go_end0
    exact ⟨rfl, H.out⟩

set_option maxHeartbeats 2000000 in
theorem close_any (b : Nat) (c : Cel) (w : World) (hb : At w b c) :
    Calls Try.prog 15 #[.pointer (some ⟨b, 0, none⟩)] w fun e w' => e = .returned (.bool (!c.closed)) ∧ To w w' b { c with closed := true } := by
  have h3 : Fr w b (cells 0 c) [(w.heap.size + 1, 4, #[.bool false]), (w.heap.size, 24, #[.pointer (some ⟨b, 0, none⟩)])] ((w.alloc (.cells #[.pointer (some ⟨b, 0, none⟩)] 24)).alloc (.cells #[.bool false] 4)) := (((Fr.start hb).add 24 _).add 4 _).as_ rfl (by simp)
  have hs := h3.cell.cell 0
  have hl := locked_fr 30 #[.pointer (some ⟨w.heap.size, 0, none⟩), .pointer (some ⟨w.heap.size + 1, 0, none⟩)] c { c with closed := true } _ h3 (call30 _) (fun W h => close1_any w W b c h)
  generalize (!c.closed) = f at hl ⊢
  have HL := Lib.hid hl
  clear hl h3 hb
  go_enter Try.func15, Try.ntmps15
  go_wp2_with (first | (go_at_call 20; refine (some_any b _ hs).mono ?_; rintro e w' ⟨rfl, rfl⟩))
  refine HL.out.mono ?_
  rintro e w2 ⟨rfl, h2⟩
  have k1 : w2.cell? ⟨w.heap.size + 1, 0, none⟩ = some (.bool f) := (h2.box (.head _)).cell 0
  have H2 := Lib.hid h2
  clear h2 hs HL
  go_wp2
  go_ret
  exact ⟨rfl, Fr.to_ H2.out⟩
end Go.Proofs.Ythiifeiacpmjiaa
