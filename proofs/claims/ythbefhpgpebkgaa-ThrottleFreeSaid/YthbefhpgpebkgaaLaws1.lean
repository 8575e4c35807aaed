/- ThrottleWrong and ThrottleSums, walked. Conditions: a slice of steps that reads as numbers of their types. -/
import Derived.Test.YthbefhpgpebkgaaSoon
namespace Go.Proofs.Ythbefhpgpebkgaa
open Go.RowKit

theorem good_of (n : Int) (xs : List (Int × Int)) (hx : ∀ x ∈ xs, Thr.Fit x) : ∃ k : Nat, k ≤ 200 ∧ Thr.Good (n % 1048577) k (Thr.after (n % 1048577) (xs.take 200)) := by
  have hl : (xs.take 200).length ≤ 200 := by simp; omega
  refine ⟨(xs.take 200).length, hl, ?_⟩
  have := Thr.good_after (n % 1048577) (by omega) (by omega) (xs.take 200) (fun x hx' => hx x (List.mem_of_mem_take hx')) (xs.take 200).length (Nat.le_refl _) hl
  rwa [List.take_of_length_le (Nat.le_refl _)] at this

theorem own_form {w : World} {base : Nat} {e : TypeId} {size n : Nat} {v : Value} {xs : List Value} (h : w.ownsRow base e size v n xs) : ∃ A c, v = .slice A n c := by
  rcases h.2 with ⟨rfl, rfl⟩ | ⟨g, cap, cur, rfl, _⟩
  · exact ⟨none, 0, rfl⟩
  · exact ⟨_, cap, rfl⟩

/-- 'played', its list's value written out. -/
theorem played_form (n : Int) (A : Option Addr) (m c : Nat) (xs : List (Int × Int)) (w : World) (h0 : 0 ≤ n) (h1 : n ≤ 1048576) (hs : Smalls w w.heap.size A m c xs) :
    Calls Try.prog 12 #[.int .i64 n, .slice A m c] w fun e w' => ∃ A' c', e = .returned (.tuple #[.pointer (some ⟨w.heap.size, 0, none⟩), .slice A' (Thr.after n (xs.take 200)).out.length c', .int .i64 (Thr.after n (xs.take 200)).st.now, .bool true]) ∧
      TI.Run w w' w.heap.size 1000 (Thr.after n (xs.take 200)).st ∧ w'.ownsRow (w.heap.size + 1) 30 3 (.slice A' (Thr.after n (xs.take 200)).out.length c') (Thr.after n (xs.take 200)).out.length (outCells (Thr.after n (xs.take 200)).out) :=
  (played_any n A m c xs w h0 h1 hs).mono fun _ _ ⟨v, he, hr, ho⟩ => by
    obtain ⟨A', c', rfl⟩ := own_form ho
    exact ⟨A', c', he, hr, ho⟩

theorem ite_min (a b : Int) : ∃ m : Int, (if a < b then a else b) = m ∧ m ≤ a ∧ m ≤ b := by
  refine ⟨_, rfl, ?_⟩
  split <;> omega
theorem ite_max (a b : Int) : ∃ m : Int, (if b < a then a else b) = m ∧ a ≤ m ∧ b ≤ m := by
  refine ⟨_, rfl, ?_⟩
  split <;> omega

theorem Thr.move_bad {s : Thr.St Int} {t : Int} (h : t < s.now ∨ 281474976710656 < t) : Thr.moveErr s t = 310 ∧ Thr.move s t = s := by
  have hk : Thr.moveOk s t = false := by
    unfold Thr.moveOk
    rcases h with h | h
    · rw [decide_eq_true h]; rfl
    · rw [decide_eq_true h, Bool.or_true]; rfl
  unfold Thr.moveErr Thr.move
  rw [hk]
  exact ⟨rfl, rfl⟩
theorem Thr.move_same {N : Int} {s : Thr.St Int} (h : Thr.Ok N s) : Thr.moveErr s s.now = 0 := by
  have hk : Thr.moveOk s s.now = true := by
    unfold Thr.moveOk
    rw [decide_eq_false (by omega), decide_eq_false (by have := h.n1; omega)]
    rfl
  unfold Thr.moveErr
  rw [hk]
  rfl

set_option maxRecDepth 100000 in
set_option maxHeartbeats 1000000 in
theorem wrong_any (n : Int) (A : Option Addr) (m c : Nat) (xs : List (Int × Int)) (x : Int) (w : World) (h0 : 0 ≤ n) (h1 : n ≤ 4294967295) (hs : Smalls w w.heap.size A m c xs) :
    Calls Try.prog 7 #[.int .u32 n, .slice A m c, .int .i64 x] w fun e w' => e = .returned (.bool true) ∧ Below w.heap.size w w' := by
  obtain ⟨k, hk, hg⟩ := good_of n xs hs.fit
  obtain ⟨m1, e1, l1, _⟩ := ite_min (-1) x
  obtain ⟨m2, e2, l2, _⟩ := ite_max 1048577 x
  have c0 := awake_any w
  have HS := Lib.hid hs
  clear hs
  go_enter Try.func7, Try.ntmps7
  go_wp2_with fail
  refine c0.mono ?_
  rintro e w1 ⟨rfl, hb1⟩
  clear c0
  have HB1 := Lib.hid hb1
  clear hb1
  go_wp2_with fail
  refine (TI.new_no m1 w1 (by omega)).mono ?_
  rintro e w1' ⟨rfl, rfl⟩
  go_wp2_with fail
  refine (TI.new_no m2 w1 (by omega)).mono ?_
  rintro e w1' ⟨rfl, rfl⟩
  go_wp2_with fail
  refine (played_any (n % 1048577) A m c xs w1 (by omega) (by omega) (HS.out.below HB1.out)).mono ?_
  rintro e w2 ⟨v, rfl, hr2, -⟩
  generalize Thr.after (n % 1048577) (xs.take 200) = p at *
  obtain ⟨m3, e3, l3, _⟩ := ite_min (p.st.now - 1) x
  obtain ⟨m4, e4, l4, _⟩ := ite_max 281474976710657 x
  obtain ⟨b3, s3⟩ := Thr.move_bad (s := p.st) (t := m3) (by omega)
  obtain ⟨b4, s4⟩ := Thr.move_bad (s := p.st) (t := m4) (by omega)
  have b5 := Thr.move_same hg.ok
  have h2b := hg.ok.n0
  have h2c := hg.ok.n1
  have S3 := Lib.hid s3
  have S4 := Lib.hid s4
  have HR2 := Lib.hid hr2
  clear hg hr2 s3 s4
  go_wp2_with fail
  refine (TI.next_run HR2.out).mono ?_
  rintro e w3 ⟨rfl, hr3, -⟩
  have HR3 := Lib.hid hr3
  clear hr3
  go_wp2_with fail
  refine (TI.move_run m3 HR3.out).mono ?_
  rintro e w4 ⟨rfl, hr4, -⟩
  have HR4 := Lib.hid (S3.out ▸ hr4)
  clear hr4
  go_wp2_with fail
  refine (TI.move_run m4 HR4.out).mono ?_
  rintro e w5 ⟨rfl, hr5, -⟩
  have HR5 := Lib.hid (S4.out ▸ hr5)
  clear hr5
  go_wp2_with fail
  refine (TI.next_run HR5.out).mono ?_
  rintro e w6 ⟨rfl, hr6, -⟩
  have HR6 := Lib.hid hr6
  clear hr6
  go_wp2_with fail
  refine (TI.move_run p.st.now HR6.out).mono ?_
  rintro e w7 ⟨rfl, hr7, -⟩
  have HR7 := Lib.hid hr7
  clear hr7
  go_wp2
  go_ret
  exact ⟨rfl, HB1.out.trans (HR7.out.below.mono HB1.out.size)⟩
end Go.Proofs.Ythbefhpgpebkgaa
