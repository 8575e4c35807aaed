/- A cell's methods, walked (4): put, Put, Change. Conditions: the cell was made, its lock is free, its numbers are in bounds. -/
import Derived.Test.YthiifeiacpmjiaaCellC
namespace Go.Proofs.Ythiifeiacpmjiaa
open Go.RowKit
open Go.MuLone

/-- What putting in does: the cell, the version that is told, the error; ev: what is known against it. -/
def Cel.puts (c : Cel) (v ev : Int) : Cel × Int × Int := if c.closed then (c, 0, 390) else if ev = 0 then (c.put v, c.version + 1, 0) else (c, 0, ev)

theorem put1_any (w0 W : World) (b A : Nat) (ac : Array Value) (v : Int) (c : Cel) (hK : ∀ w, (callFunc A ac).run Try.prog w = .ok (.enter A ac) w) (ev : Int) (hA : ∀ W, Fr w0 b (cells 1 c) [(w0.heap.size + 1 + 1 + 1 + 1, 26, #[.int .i64 0]), (w0.heap.size + 1 + 1 + 1, 3, #[.int .i64 0]), (w0.heap.size + 1 + 1, 58, #[.func (.func A) #[] ac]), (w0.heap.size + 1, 3, #[.int .i64 v]), (w0.heap.size, 24, #[.pointer (some ⟨b, 0, none⟩)])] W → Calls Try.prog A ac W fun e w' => e = .returned (.int .i64 ev) ∧ ∃ n, W.drewN n = w') (v0 : 0 ≤ c.version) (v1 : c.version ≤ 1000000) (l0 : 0 ≤ c.lost) (l1 : c.lost ≤ 1000000) (h : Fr w0 b (cells 1 c) [(w0.heap.size + 1 + 1 + 1 + 1, 26, #[.int .i64 0]), (w0.heap.size + 1 + 1 + 1, 3, #[.int .i64 0]), (w0.heap.size + 1 + 1, 58, #[.func (.func A) #[] ac]), (w0.heap.size + 1, 3, #[.int .i64 v]), (w0.heap.size, 24, #[.pointer (some ⟨b, 0, none⟩)])] W) :
    Calls Try.prog 35 #[.pointer (some ⟨w0.heap.size, 0, none⟩), .pointer (some ⟨w0.heap.size + 1 + 1 + 1 + 1, 0, none⟩), .pointer (some ⟨w0.heap.size + 1 + 1, 0, none⟩), .pointer (some ⟨w0.heap.size + 1, 0, none⟩), .pointer (some ⟨w0.heap.size + 1 + 1 + 1, 0, none⟩)] W fun e w' => e = .returned (.tuple #[]) ∧ Fr w0 b (cells 1 (c.puts v ev).1) [(w0.heap.size + 1 + 1 + 1 + 1, 26, #[.int .i64 (c.puts v ev).2.2]), (w0.heap.size + 1 + 1 + 1, 3, #[.int .i64 (c.puts v ev).2.1]), (w0.heap.size + 1 + 1, 58, #[.func (.func A) #[] ac]), (w0.heap.size + 1, 3, #[.int .i64 v]), (w0.heap.size, 24, #[.pointer (some ⟨b, 0, none⟩)])] w' := by
  unfold Cel.puts
  rcases hc : c.closed with _ | _
  · by_cases he : ev = 0
    · rw [if_neg (by decide), if_pos he]
      exact put1_ok w0 W b A ac v c hc hK ev hA he v0 v1 l0 l1 h
    · rw [if_neg (by decide), if_neg he]
      exact put1_against w0 W b A ac v c hc hK ev hA he h
  · rw [if_pos rfl]
    exact put1_closed w0 W b A ac v c hc h

set_option maxHeartbeats 2000000 in
theorem put0_any (b A : Nat) (ac : Array Value) (v : Int) (c : Cel) (w : World) (hb : At w b c) (hK : ∀ w, (callFunc A ac).run Try.prog w = .ok (.enter A ac) w) (ev : Int) (hA : ∀ W, Fr w b (cells 1 c) [(w.heap.size + 1 + 1 + 1 + 1, 26, #[.int .i64 0]), (w.heap.size + 1 + 1 + 1, 3, #[.int .i64 0]), (w.heap.size + 1 + 1, 58, #[.func (.func A) #[] ac]), (w.heap.size + 1, 3, #[.int .i64 v]), (w.heap.size, 24, #[.pointer (some ⟨b, 0, none⟩)])] W → Calls Try.prog A ac W fun e w' => e = .returned (.int .i64 ev) ∧ ∃ n, W.drewN n = w') (v0 : 0 ≤ c.version) (v1 : c.version ≤ 1000000) (l0 : 0 ≤ c.lost) (l1 : c.lost ≤ 1000000) :
    Calls Try.prog 18 #[.pointer (some ⟨b, 0, none⟩), .int .i64 v, .func (.func A) #[] ac] w fun e w' => e = .returned (.tuple #[.int .i64 (c.puts v ev).2.1, .int .i64 (c.puts v ev).2.2]) ∧ To w w' b (c.puts v ev).1 := by
  have h3 : Fr w b (cells 0 c) [(w.heap.size + 1 + 1 + 1 + 1, 26, #[.int .i64 0]), (w.heap.size + 1 + 1 + 1, 3, #[.int .i64 0]), (w.heap.size + 1 + 1, 58, #[.func (.func A) #[] ac]), (w.heap.size + 1, 3, #[.int .i64 v]), (w.heap.size, 24, #[.pointer (some ⟨b, 0, none⟩)])] (((((w.alloc (.cells #[.pointer (some ⟨b, 0, none⟩)] 24)).alloc (.cells #[.int .i64 v] 3)).alloc (.cells #[.func (.func A) #[] ac] 58)).alloc (.cells #[.int .i64 0] 3)).alloc (.cells #[.int .i64 0] 26)) := ((((((Fr.start hb).add 24 _).add 3 _).add 58 _).add 3 _).add 26 _).as_ rfl (by simp)
  have h2 : Fr w b (cells 0 c) [(w.heap.size + 1 + 1, 58, #[.func (.func A) #[] ac]), (w.heap.size + 1, 3, #[.int .i64 v]), (w.heap.size, 24, #[.pointer (some ⟨b, 0, none⟩)])] (((w.alloc (.cells #[.pointer (some ⟨b, 0, none⟩)] 24)).alloc (.cells #[.int .i64 v] 3)).alloc (.cells #[.func (.func A) #[] ac] 58)) := ((((Fr.start hb).add 24 _).add 3 _).add 58 _).as_ rfl (by simp)
  have hs := h2.cell.cell 0
  have hl := locked_fr 35 #[.pointer (some ⟨w.heap.size, 0, none⟩), .pointer (some ⟨w.heap.size + 1 + 1 + 1 + 1, 0, none⟩), .pointer (some ⟨w.heap.size + 1 + 1, 0, none⟩), .pointer (some ⟨w.heap.size + 1, 0, none⟩), .pointer (some ⟨w.heap.size + 1 + 1 + 1, 0, none⟩)] c _ _ h3 (call35 _) (fun W h => put1_any w W b A ac v c hK ev hA v0 v1 l0 l1 h)
  generalize c.puts v ev = r at hl ⊢
  obtain ⟨c', n, er⟩ := r
  dsimp only at hl ⊢
  have HL := Lib.hid hl
  clear hl h3 h2 hb hA hK
  go_enter Try.func18, Try.ntmps18
  go_wp2_with (first | (go_at_call 20; refine (some_any b _ hs).mono ?_; rintro e w' ⟨rfl, rfl⟩))
  refine HL.out.mono ?_
  rintro e w2 ⟨rfl, h2⟩
  have k3 : w2.cell? ⟨w.heap.size + 1 + 1 + 1, 0, none⟩ = some (.int .i64 n) := (h2.box (.tail _ (.head _))).cell 0
  have k4 : w2.cell? ⟨w.heap.size + 1 + 1 + 1 + 1, 0, none⟩ = some (.int .i64 er) := (h2.box (.head _)).cell 0
  have H2 := Lib.hid h2
  clear h2 hs HL
  go_wp2
  go_region
  all_goals
    go_wp2
    go_ret2
    exact ⟨rfl, Fr.to_ H2.out.drew⟩

theorem put2_any (w : World) : Calls Try.prog 19 #[] w fun e w' => e = .returned (.int .i64 0) ∧ ∃ n, w.drewN n = w' := by
  go_enter Try.func19, Try.ntmps19
  go_wp2
  go_ret
  exact ⟨rfl, 0, rfl⟩

theorem put_any (b : Nat) (v : Int) (c : Cel) (w : World) (hb : At w b c) (v0 : 0 ≤ c.version) (v1 : c.version ≤ 1000000) (l0 : 0 ≤ c.lost) (l1 : c.lost ≤ 1000000) :
    Calls Try.prog 9 #[.pointer (some ⟨b, 0, none⟩), .int .i64 v] w fun e w' => e = .returned (.tuple #[.int .i64 (c.puts v 0).2.1, .int .i64 (c.puts v 0).2.2]) ∧ To w w' b (c.puts v 0).1 := by
  have HP := Lib.hid (put0_any b 19 #[] v c w hb (call19 _) 0 (fun W _ => put2_any W) v0 v1 l0 l1)
  clear hb
  go_enter Try.func9, Try.ntmps9
  go_wp2_with fail
  refine HP.out.mono ?_
  rintro e w2 ⟨rfl, h2⟩
  have H2 := Lib.hid h2
  clear h2
  go_wp2
  go_ret2
  exact ⟨rfl, H2.out⟩

/-- What is known against a change. -/
def Cel.stale (c : Cel) (n : Int) : Int := if c.version = n then 0 else 391

set_option maxHeartbeats 2000000 in
theorem change1_any (b cb nb : Nat) (n : Int) (c : Cel) (w : World) (hb : Held w b c) (hcb : Has w cb 24 #[.pointer (some ⟨b, 0, none⟩)]) (hnb : Has w nb 3 #[.int .i64 n]) :
    Calls Try.prog 34 #[.pointer (some ⟨cb, 0, none⟩), .pointer (some ⟨nb, 0, none⟩)] w fun e w' => e = .returned (.int .i64 (c.stale n)) ∧ ∃ n, w.drewN n = w' := by
  have h0 : w.cell? ⟨cb, 0, none⟩ = some (.pointer (some ⟨b, 0, none⟩)) := hcb.cell 0
  have h1 : w.cell? ⟨nb, 0, none⟩ = some (.int .i64 n) := hnb.cell 0
  have h9 : w.cell? ⟨b, 9, none⟩ = some (.int .i64 c.version) := Has.cell hb 9
  clear hb hcb hnb
  unfold Cel.stale
  by_cases he : c.version = n
  · rw [if_pos he]
    have d1 : (c.version != n) = false := by simp; exact he
    clear he
    go_enter Try.func34, Try.ntmps34
    go_wp2
    go_region_with (first | (go_at_call 24; refine (load64_any b 9 c.version _ (by simp [*])).mono ?_; rintro e w9 ⟨rfl, rfl⟩))
    all_goals
      go_wp2
      go_ret
      exact ⟨rfl, 1, rfl⟩
  · rw [if_neg he]
    have d1 : (c.version != n) = true := by simp; exact he
    clear he
    go_enter Try.func34, Try.ntmps34
    go_wp2
    go_region_with (first | (go_at_call 24; refine (load64_any b 9 c.version _ (by simp [*])).mono ?_; rintro e w9 ⟨rfl, rfl⟩))
    all_goals
      go_wp2
      go_ret
      exact ⟨rfl, 1, rfl⟩

theorem change_any (b : Nat) (n v : Int) (c : Cel) (w : World) (hb : At w b c) (v0 : 0 ≤ c.version) (v1 : c.version ≤ 1000000) (l0 : 0 ≤ c.lost) (l1 : c.lost ≤ 1000000) :
    Calls Try.prog 17 #[.pointer (some ⟨b, 0, none⟩), .int .i64 n, .int .i64 v] w fun e w' => e = .returned (.tuple #[.int .i64 (c.puts v (c.stale n)).2.1, .int .i64 (c.puts v (c.stale n)).2.2]) ∧ To w w' b (c.puts v (c.stale n)).1 := by
  have hlt := Has.lt hb
  have hbl : Below w.heap.size w ((w.alloc (.cells #[.pointer (some ⟨b, 0, none⟩)] 24)).alloc (.cells #[.int .i64 n] 3)) := ((Below.refl _ _).alloc (Nat.le_refl _) _).alloc (by simp) _
  have hcb : Has ((w.alloc (.cells #[.pointer (some ⟨b, 0, none⟩)] 24)).alloc (.cells #[.int .i64 n] 3)) w.heap.size 24 #[.pointer (some ⟨b, 0, none⟩)] := (Has.made _ _ _).alloc _
  have hnb : Has ((w.alloc (.cells #[.pointer (some ⟨b, 0, none⟩)] 24)).alloc (.cells #[.int .i64 n] 3)) (w.heap.size + 1) 3 #[.int .i64 n] := made_at _ _ (by simp)
  have HP := Lib.hid (put0_any b 34 #[.pointer (some ⟨w.heap.size, 0, none⟩), .pointer (some ⟨w.heap.size + 1, 0, none⟩)] v c _ (Has.below hb hbl hlt) (call34 _) (c.stale n)
    (fun W h => change1_any b w.heap.size (w.heap.size + 1) n c W h.cell (hcb.grown h.g (by simp; omega)) (hnb.grown h.g (by simp; omega))) v0 v1 l0 l1)
  have HB := Lib.hid hbl
  clear hb hbl hcb hnb
  go_enter Try.func17, Try.ntmps17
  go_wp2_with fail
  refine HP.out.mono ?_
  rintro e w2 ⟨rfl, h2⟩
  have H2 := Lib.hid h2
  clear h2
  go_wp2
  go_ret2
  exact ⟨rfl, Turned.since_ HB.out H2.out⟩
end Go.Proofs.Ythiifeiacpmjiaa
