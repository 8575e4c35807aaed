/- The throttle's methods at int, walked one by one: each answers, and leaves the throttle, as the plain functions say. Conditions: the receiver is a throttle that was made, its numbers in bounds. -/
import Derived.Test.YthbefhpgpebkgaaRows
import Derived.Test.YthbefhpgpebkgaaMem
import Derived.Test.YthbefhpgpebkgaaPlain
import Derived.WalkSpells
import Derived.WalkLawsBesides
import Derived.BigQuiet
import Derived.Lib.Hide
namespace Go.Proofs.Ythbefhpgpebkgaa.TI
open Go.RowKit

def cells (s : Thr.St Int) : Array Value :=
  #[.bool true, .int .i64 s.width, .int .i64 s.now, .bool s.waits, .int .i64 s.v, .bool s.handed, .int .i64 s.last, .int .i64 s.offered, .int .i64 s.taken, .int .i64 s.lost]

/-- In world w the throttle at block b is in state s. -/
def At (w : World) (b : Nat) (s : Thr.St Int) : Prop := Has w b 60 (cells s)
/-- Only the throttle at b has turned, and what is new; it is in state s then. -/
def To (w w' : World) (b : Nat) (s : Thr.St Int) : Prop := Turned w w' b 60 (cells s)

set_option maxHeartbeats 400000 in
theorem clear_any (b : Nat) (N : Int) (s : Thr.St Int) (w : World) (hb : At w b s) (hs : Thr.Ok N s) (hN : N ≤ 1000000000) :
    Calls Try.prog 37 #[.pointer (some ⟨b, 0, none⟩)] w fun e w' => e = .returned (.bool s.waits) ∧ To w w' b (Thr.clear 0 s) := by
  obtain ⟨width, now, waits, v, handed, last, o, t, l⟩ := s
  obtain ⟨-, -, -, -, -, -, -, -, -, -, hl0, hl1⟩ := hs
  have hc := Has.cell hb
  have hf := Has.free hb
  unfold cells at hc
  have H := Lib.hid hb
  clear hb
  dsimp only at hc hl0 hl1
  cases waits
  · go_enter Try.func37, Try.ntmps37
    go_wp2
    go_ret
    exact ⟨rfl, Turned.begin_ H.out⟩
  · go_enter Try.func37, Try.ntmps37
    go_wp2
    go_ret
    refine ⟨rfl, ?_⟩
    exact Turned.conv_ (Turned.here_ (Turned.here_ (Turned.here_ (Turned.begin_ H.out) 3 _) 4 _) 9 _) rfl

set_option maxHeartbeats 400000 in
theorem offer1_any (b tb xb : Nat) (N : Int) (s : Thr.St Int) (x : Int) (w : World) (hb : At w b s) (ht : Has w tb 25 #[.pointer (some ⟨b, 0, none⟩)]) (hx : Has w xb 3 #[.int .i64 x]) (hs : Thr.Ok N s) (hN : N ≤ 1000000000) (htb : b ≠ tb) (hxb : b ≠ xb) :
    Calls Try.prog 36 #[.pointer (some ⟨tb, 0, none⟩), .pointer (some ⟨xb, 0, none⟩)] w fun e w' => e = .returned (.tuple #[]) ∧ To w w' b (Thr.offer s x) := by
  have hct := ht.cell 0
  have HT := Lib.hid ht
  have HX := Lib.hid hx
  have HB := Lib.hid hb
  clear ht hx hb
  go_enter Try.func36, Try.ntmps36
  go_wp2_with (go_at_call 37; refine (clear_any b N s _ HB.out hs hN).mono ?_; rintro e w1 ⟨rfl, h1⟩)
  have g1 := h1.grown
  have HT1 := HT.out.grown g1 (by simp; omega)
  have HX1 := HX.out.grown g1 (by simp; omega)
  have ct := HT1.cell 0
  have cx := HX1.cell 0
  have cb := Has.cell h1.has
  have fb := Has.free h1.has
  have hk := hs.clear 0
  have k0 := hk.o0
  have k1 := hk.o1
  have H1 := Lib.hid h1
  clear h1 g1 HT1 HX1 hk hct
  unfold cells at cb
  go_region
  all_goals
    go_wp2
    go_end0
    exact ⟨rfl, Turned.conv_ (Turned.drew_ (Turned.here_ (Turned.here_ (Turned.here_ (H1.out) 3 _) 4 _) 7 _)) rfl⟩

set_option maxHeartbeats 400000 in
theorem offer_any (b : Nat) (N : Int) (s : Thr.St Int) (x : Int) (w : World) (hb : At w b s) (hs : Thr.Ok N s) (hN : N ≤ 1000000000) :
    Calls Try.prog 13 #[.pointer (some ⟨b, 0, none⟩), .int .i64 x] w fun e w' => e = .returned (.int .i64 0) ∧ To w w' b (Thr.offer s x) := by
  have cb : w.cell? ⟨b, 0, none⟩ = some (.bool true) := Has.cell hb 0
  have hlt := Has.lt hb
  have hbl : Below w.heap.size w ((w.alloc (.cells #[.pointer (some ⟨b, 0, none⟩)] 25)).alloc (.cells #[.int .i64 x] 3)) := ((Below.refl _ _).alloc (Nat.le_refl _) _).alloc (by simp) _
  have c1 := offer1_any b w.heap.size (w.heap.size + 1) N s x _ (hb.below hbl hlt) ((Has.made w _ _).alloc _) (by simpa using Has.made (w.alloc (.cells #[.pointer (some ⟨b, 0, none⟩)] 25)) 3 #[.int .i64 x]) hs hN (by omega) (by omega)
  go_enter Try.func13, Try.ntmps13
  go_wp2_with (go_at_call 35; go_in)
  refine c1.mono ?_
  rintro e w1 ⟨rfl, h1⟩
  have H1 := Lib.hid h1
  clear h1
  go_wp2
  go_ret
  exact ⟨rfl, Turned.since_ hbl H1.out⟩

end Go.Proofs.Ythbefhpgpebkgaa.TI
