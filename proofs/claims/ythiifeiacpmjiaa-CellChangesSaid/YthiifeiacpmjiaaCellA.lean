/- A cell's methods, walked (1): New, some, Version, Lost, Fresh. Conditions: the cell was made, its lock is free. -/
import Derived.Test.YthiifeiacpmjiaaCell
namespace Go.Proofs.Ythiifeiacpmjiaa
open Go.RowKit
open Go.MuLone

/-- Only the cell at b has turned, and what is new; it holds c then, its lock free. -/
def To (w w' : World) (b : Nat) (c : Cel) : Prop := Turned w w' b 56 (cells 0 c)
def newCel : Cel := ⟨0, false, false, 0, 0⟩

theorem new_any (w : World) : Calls Try.prog 8 #[] w fun e w' => e = .returned (.pointer (some ⟨w.heap.size, 0, none⟩)) ∧ w.alloc (.cells (cells 0 newCel) 56) = w' := by
  go_enter Try.func8, Try.ntmps8
  go_wp2
  go_ret
  exact ⟨rfl, rfl⟩

theorem some_any (b : Nat) (w : World) (hc : w.cell? ⟨b, 0, none⟩ = some (.bool true)) : Calls Try.prog 20 #[.pointer (some ⟨b, 0, none⟩)] w fun e w' => e = .returned (.bool true) ∧ w = w' := by
  go_enter Try.func20, Try.ntmps20
  go_wp2
  go_ret
  exact ⟨rfl, rfl⟩

theorem made_at {w : World} {g : Nat} (t : TypeId) (cs : Array Value) (h : w.heap.size = g) : Has (w.alloc (.cells cs t)) g t cs := h ▸ Has.made w t cs

theorem call28 (caps : Array Value) (w : World) : (callFunc 28 caps).run Try.prog w = .ok (.enter 28 caps) w := by simp [go_sem]

set_option maxHeartbeats 1000000 in
theorem version1_any (b cb nb : Nat) (c : Cel) (w : World) (hb : Held w b c) (hcb : Has w cb 24 #[.pointer (some ⟨b, 0, none⟩)]) (u : Value) (hnb : Has w nb 3 #[u]) :
    Calls Try.prog 28 #[.pointer (some ⟨cb, 0, none⟩), .pointer (some ⟨nb, 0, none⟩)] w fun e w' => e = .returned (.tuple #[]) ∧ w.setCell ⟨nb, 0, none⟩ (.int .i64 c.version) = w' := by
  have h0 : w.cell? ⟨cb, 0, none⟩ = some (.pointer (some ⟨b, 0, none⟩)) := hcb.cell 0
  have h1 : w.cell? ⟨nb, 0, none⟩ = some u := hnb.cell 0
  have f1 := hnb.free 0
  have h2 : w.cell? ⟨b, 9, none⟩ = some (.int .i64 c.version) := Has.cell hb 9
  clear hb hcb hnb
  go_enter Try.func28, Try.ntmps28
  go_wp2_with (go_at_call 24; refine (load64_any b 9 _ _ h2).mono ?_; rintro e w' ⟨rfl, rfl⟩)
  go_end0
  exact ⟨rfl, rfl⟩

set_option maxHeartbeats 1000000 in
theorem version_any (b : Nat) (c : Cel) (w : World) (hb : At w b c) :
    Calls Try.prog 13 #[.pointer (some ⟨b, 0, none⟩)] w fun e w' => e = .returned (.int .i64 c.version) ∧ To w w' b c := by
  have hlt := Has.lt hb
  have hb0 : At ((w.alloc (.cells #[.pointer (some ⟨b, 0, none⟩)] 24)).alloc (.cells #[.int .i64 0] 3)) b c := Has.alloc (Has.alloc hb _) _
  have hcb : Has ((w.alloc (.cells #[.pointer (some ⟨b, 0, none⟩)] 24)).alloc (.cells #[.int .i64 0] 3)) w.heap.size 24 #[.pointer (some ⟨b, 0, none⟩)] := (Has.made _ _ _).alloc _
  have hnb : Has ((w.alloc (.cells #[.pointer (some ⟨b, 0, none⟩)] 24)).alloc (.cells #[.int .i64 0] 3)) (w.heap.size + 1) 3 #[.int .i64 0] := made_at _ _ (by simp)
  have hq := (At.hold hb0).lk
  have hc0 : ((w.alloc (.cells #[.pointer (some ⟨b, 0, none⟩)] 24)).alloc (.cells #[.int .i64 0] 3)).cell? ⟨b, 0, none⟩ = some (.bool true) := Has.cell hb0 0
  have hl := locked_any b 28 #[.pointer (some ⟨w.heap.size, 0, none⟩), .pointer (some ⟨w.heap.size + 1, 0, none⟩)] c _ (fun w1 => (((w.alloc (.cells #[.pointer (some ⟨b, 0, none⟩)] 24)).alloc (.cells #[.int .i64 0] 3)).setCell ⟨b, 1, none⟩ (.int .i32 1)).setCell ⟨w.heap.size + 1, 0, none⟩ (.int .i64 c.version) = w1) hb0 (call28 _)
    (version1_any b w.heap.size (w.heap.size + 1) c _ (At.hold hb0) (hcb.there (by simp; omega) _) _ (hnb.there (by simp; omega) _))
    (fun w1 h => by subst h; exact ⟨(World.cell?_setCell_far _ _ _ _ (by simp; omega)).trans hq.1, by simp [hq.2]⟩)
  have HL := Lib.hid hl
  have HT := Lib.hid (Turned.begin_ hb)
  have hlt1 : b < w.heap.size + 1 := by omega
  have hlt2 : b < w.heap.size + 1 + 1 := by omega
  have hc1 := hb0
  have hg : ∀ i, ((w.alloc (.cells #[.pointer (some ⟨b, 0, none⟩)] 24)).alloc (.cells #[.int .i64 0] 3)).frozen? ⟨b, i, none⟩ = false := fun i => Has.free hb0 i
  have hcl : w.cell? ⟨b, 1, none⟩ = some (.int .i32 0) := Has.cell hb 1
  have hfl : w.frozen? ⟨b, 1, none⟩ = false := Has.free hb 1
  clear hl hb0 hcb hnb hq hb hc1 hg
  go_enter Try.func13, Try.ntmps13
  go_wp2_with (first | (go_at_call 20; refine (some_any b _ hc0).mono ?_; rintro e w' ⟨rfl, rfl⟩) | (go_at_call 21; refine HL.out.mono ?_; rintro e w' ⟨rfl, w1, rfl, rfl⟩))
  refine bodyPost_ret (v := .int .i64 c.version) (by simp [results, Try.results13, go_sem]) rfl ⟨rfl, ?_⟩
  exact Turned.conv_ ((((HT.out.here_ 1 _).here_ 1 _).alloc_ _).alloc_ _) rfl

theorem call25 (caps : Array Value) (w : World) : (callFunc 25 caps).run Try.prog w = .ok (.enter 25 caps) w := by simp [go_sem]

set_option maxHeartbeats 1000000 in
theorem lost1_any (b cb nb : Nat) (c : Cel) (w : World) (hb : Held w b c) (hcb : Has w cb 24 #[.pointer (some ⟨b, 0, none⟩)]) (u : Value) (hnb : Has w nb 3 #[u]) :
    Calls Try.prog 25 #[.pointer (some ⟨cb, 0, none⟩), .pointer (some ⟨nb, 0, none⟩)] w fun e w' => e = .returned (.tuple #[]) ∧ w.setCell ⟨nb, 0, none⟩ (.int .i64 c.lost) = w' := by
  have h0 : w.cell? ⟨cb, 0, none⟩ = some (.pointer (some ⟨b, 0, none⟩)) := hcb.cell 0
  have h1 : w.cell? ⟨nb, 0, none⟩ = some u := hnb.cell 0
  have f1 := hnb.free 0
  have h2 : w.cell? ⟨b, 10, none⟩ = some (.int .i64 c.lost) := Has.cell hb 10
  clear hb hcb hnb
  go_enter Try.func25, Try.ntmps25
  go_wp2_with (go_at_call 24; refine (load64_any b 10 _ _ h2).mono ?_; rintro e w' ⟨rfl, rfl⟩)
  go_end0
  exact ⟨rfl, rfl⟩

set_option maxHeartbeats 1000000 in
theorem lost_any (b : Nat) (c : Cel) (w : World) (hb : At w b c) :
    Calls Try.prog 11 #[.pointer (some ⟨b, 0, none⟩)] w fun e w' => e = .returned (.int .i64 c.lost) ∧ To w w' b c := by
  have hlt := Has.lt hb
  have hb0 : At ((w.alloc (.cells #[.pointer (some ⟨b, 0, none⟩)] 24)).alloc (.cells #[.int .i64 0] 3)) b c := Has.alloc (Has.alloc hb _) _
  have hcb : Has ((w.alloc (.cells #[.pointer (some ⟨b, 0, none⟩)] 24)).alloc (.cells #[.int .i64 0] 3)) w.heap.size 24 #[.pointer (some ⟨b, 0, none⟩)] := (Has.made _ _ _).alloc _
  have hnb : Has ((w.alloc (.cells #[.pointer (some ⟨b, 0, none⟩)] 24)).alloc (.cells #[.int .i64 0] 3)) (w.heap.size + 1) 3 #[.int .i64 0] := made_at _ _ (by simp)
  have hq := (At.hold hb0).lk
  have hc0 : ((w.alloc (.cells #[.pointer (some ⟨b, 0, none⟩)] 24)).alloc (.cells #[.int .i64 0] 3)).cell? ⟨b, 0, none⟩ = some (.bool true) := Has.cell hb0 0
  have hl := locked_any b 25 #[.pointer (some ⟨w.heap.size, 0, none⟩), .pointer (some ⟨w.heap.size + 1, 0, none⟩)] c _ (fun w1 => (((w.alloc (.cells #[.pointer (some ⟨b, 0, none⟩)] 24)).alloc (.cells #[.int .i64 0] 3)).setCell ⟨b, 1, none⟩ (.int .i32 1)).setCell ⟨w.heap.size + 1, 0, none⟩ (.int .i64 c.lost) = w1) hb0 (call25 _)
    (lost1_any b w.heap.size (w.heap.size + 1) c _ (At.hold hb0) (hcb.there (by simp; omega) _) _ (hnb.there (by simp; omega) _))
    (fun w1 h => by subst h; exact ⟨(World.cell?_setCell_far _ _ _ _ (by simp; omega)).trans hq.1, by simp [hq.2]⟩)
  have HL := Lib.hid hl
  have HT := Lib.hid (Turned.begin_ hb)
  have hlt1 : b < w.heap.size + 1 := by omega
  have hlt2 : b < w.heap.size + 1 + 1 := by omega
  have hc1 := hb0
  have hg : ∀ i, ((w.alloc (.cells #[.pointer (some ⟨b, 0, none⟩)] 24)).alloc (.cells #[.int .i64 0] 3)).frozen? ⟨b, i, none⟩ = false := fun i => Has.free hb0 i
  have hcl : w.cell? ⟨b, 1, none⟩ = some (.int .i32 0) := Has.cell hb 1
  have hfl : w.frozen? ⟨b, 1, none⟩ = false := Has.free hb 1
  clear hl hb0 hcb hnb hq hb hc1 hg
  go_enter Try.func11, Try.ntmps11
  go_wp2_with (first | (go_at_call 20; refine (some_any b _ hc0).mono ?_; rintro e w' ⟨rfl, rfl⟩) | (go_at_call 21; refine HL.out.mono ?_; rintro e w' ⟨rfl, w1, rfl, rfl⟩))
  refine bodyPost_ret (v := .int .i64 c.lost) (by simp [results, Try.results11, go_sem]) rfl ⟨rfl, ?_⟩
  exact Turned.conv_ ((((HT.out.here_ 1 _).here_ 1 _).alloc_ _).alloc_ _) rfl

theorem call26 (caps : Array Value) (w : World) : (callFunc 26 caps).run Try.prog w = .ok (.enter 26 caps) w := by simp [go_sem]

set_option maxHeartbeats 1000000 in
theorem fresh1_any (b cb nb : Nat) (c : Cel) (w : World) (hb : Held w b c) (hcb : Has w cb 24 #[.pointer (some ⟨b, 0, none⟩)]) (u : Value) (hnb : Has w nb 4 #[u]) :
    Calls Try.prog 26 #[.pointer (some ⟨cb, 0, none⟩), .pointer (some ⟨nb, 0, none⟩)] w fun e w' => e = .returned (.tuple #[]) ∧ w.setCell ⟨nb, 0, none⟩ (.bool c.fresh) = w' := by
  have h0 : w.cell? ⟨cb, 0, none⟩ = some (.pointer (some ⟨b, 0, none⟩)) := hcb.cell 0
  have h1 : w.cell? ⟨nb, 0, none⟩ = some u := hnb.cell 0
  have f1 := hnb.free 0
  have h2 : w.cell? ⟨b, 7, none⟩ = some (.int .u32 (bit c.fresh)) := Has.cell hb 7
  clear hb hcb hnb
  go_enter Try.func26, Try.ntmps26
  go_wp2_with (go_at_call 27; refine (loadB_any b 7 _ _ h2).mono ?_; rintro e w' ⟨rfl, rfl⟩)
  go_end0
  exact ⟨rfl, rfl⟩

set_option maxHeartbeats 1000000 in
theorem fresh_any (b : Nat) (c : Cel) (w : World) (hb : At w b c) :
    Calls Try.prog 12 #[.pointer (some ⟨b, 0, none⟩)] w fun e w' => e = .returned (.bool c.fresh) ∧ To w w' b c := by
  have hlt := Has.lt hb
  have hb0 : At ((w.alloc (.cells #[.pointer (some ⟨b, 0, none⟩)] 24)).alloc (.cells #[.bool false] 4)) b c := Has.alloc (Has.alloc hb _) _
  have hcb : Has ((w.alloc (.cells #[.pointer (some ⟨b, 0, none⟩)] 24)).alloc (.cells #[.bool false] 4)) w.heap.size 24 #[.pointer (some ⟨b, 0, none⟩)] := (Has.made _ _ _).alloc _
  have hnb : Has ((w.alloc (.cells #[.pointer (some ⟨b, 0, none⟩)] 24)).alloc (.cells #[.bool false] 4)) (w.heap.size + 1) 4 #[.bool false] := made_at _ _ (by simp)
  have hq := (At.hold hb0).lk
  have hc0 : ((w.alloc (.cells #[.pointer (some ⟨b, 0, none⟩)] 24)).alloc (.cells #[.bool false] 4)).cell? ⟨b, 0, none⟩ = some (.bool true) := Has.cell hb0 0
  have hl := locked_any b 26 #[.pointer (some ⟨w.heap.size, 0, none⟩), .pointer (some ⟨w.heap.size + 1, 0, none⟩)] c _ (fun w1 => (((w.alloc (.cells #[.pointer (some ⟨b, 0, none⟩)] 24)).alloc (.cells #[.bool false] 4)).setCell ⟨b, 1, none⟩ (.int .i32 1)).setCell ⟨w.heap.size + 1, 0, none⟩ (.bool c.fresh) = w1) hb0 (call26 _)
    (fresh1_any b w.heap.size (w.heap.size + 1) c _ (At.hold hb0) (hcb.there (by simp; omega) _) _ (hnb.there (by simp; omega) _))
    (fun w1 h => by subst h; exact ⟨(World.cell?_setCell_far _ _ _ _ (by simp; omega)).trans hq.1, by simp [hq.2]⟩)
  have HL := Lib.hid hl
  have HT := Lib.hid (Turned.begin_ hb)
  have hlt1 : b < w.heap.size + 1 := by omega
  have hlt2 : b < w.heap.size + 1 + 1 := by omega
  have hc1 := hb0
  have hg : ∀ i, ((w.alloc (.cells #[.pointer (some ⟨b, 0, none⟩)] 24)).alloc (.cells #[.bool false] 4)).frozen? ⟨b, i, none⟩ = false := fun i => Has.free hb0 i
  have hcl : w.cell? ⟨b, 1, none⟩ = some (.int .i32 0) := Has.cell hb 1
  have hfl : w.frozen? ⟨b, 1, none⟩ = false := Has.free hb 1
  clear hl hb0 hcb hnb hq hb hc1 hg
  go_enter Try.func12, Try.ntmps12
  go_wp2_with (first | (go_at_call 20; refine (some_any b _ hc0).mono ?_; rintro e w' ⟨rfl, rfl⟩) | (go_at_call 21; refine HL.out.mono ?_; rintro e w' ⟨rfl, w1, rfl, rfl⟩))
  refine bodyPost_ret (v := .bool c.fresh) (by simp [results, Try.results12, go_sem]) rfl ⟨rfl, ?_⟩
  exact Turned.conv_ ((((HT.out.here_ 1 _).here_ 1 _).alloc_ _).alloc_ _) rfl
end Go.Proofs.Ythiifeiacpmjiaa
