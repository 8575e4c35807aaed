/- The reference's Fits; and due's Fits of what does not fit. Conditions: none beyond each theorem's own premises. -/
import Derived.Test.YtpgdogcgdlijeaaR2
import Derived.Test.YtpgdogcgdlijeaaD10
import Derived.Test.YtpgdogcgdlijeaaD9
namespace Go.Proofs.Ytpgdogcgdlijeaa
open Go.RowKit

set_option maxHeartbeats 4000000 in
theorem rfits_bad1 (e o m st n t : Int) (w : World) (hr : Du.right e o m = false) :
    Calls Try.prog 27 #[.agg #[.int .i64 e, .int .i64 o, .int .i64 m], .agg #[.int .u8 st, .int .i64 n], .int .i64 t] w fun x w' => x = .returned (.bool false) ∧ Below w.heap.size w w' := by
  have K0 := Lib.hid (((Kp.start w).add 33 #[.int .i64 e, .int .i64 o, .int .i64 m]).add 56 #[.int .u8 st, .int .i64 n])
  go_enter Try.func27, Try.ntmps27
  go_wp2_with fail
  refine (refright_any e o m _).mono ?_
  rw [hr]
  rintro x w1 ⟨rfl, hb⟩
  have K1 := Lib.hid (K0.out.on hb)
  clear hb
  go_wp2
  go_ret
  exact ⟨rfl, K1.out.below⟩
set_option maxHeartbeats 4000000 in
theorem rfits_bad2 (e o m st n t : Int) (w : World) (hr : Du.right e o m = true) (ht : Du.tick t = false) :
    Calls Try.prog 27 #[.agg #[.int .i64 e, .int .i64 o, .int .i64 m], .agg #[.int .u8 st, .int .i64 n], .int .i64 t] w fun x w' => x = .returned (.bool false) ∧ Below w.heap.size w w' := by
  have K0 := Lib.hid (((Kp.start w).add 33 #[.int .i64 e, .int .i64 o, .int .i64 m]).add 56 #[.int .u8 st, .int .i64 n])
  go_enter Try.func27, Try.ntmps27
  go_wp2_with fail
  refine (refright_any e o m _).mono ?_
  rw [hr]
  rintro x w1 ⟨rfl, hb⟩
  have K1 := Lib.hid (K0.out.on hb)
  clear hb
  have c_p : ∀ i : Nat, w1.cell? ⟨w.heap.size, i, none⟩ = #[.int .i64 e, .int .i64 o, .int .i64 m][i]? := by have h := K1.out.cell (.tail _ (.head _)); dsimp only at h; exact h
  have c_s : ∀ i : Nat, w1.cell? ⟨w.heap.size + 1, i, none⟩ = #[.int .u8 st, .int .i64 n][i]? := by have h := K1.out.cell (.head _); dsimp only at h; rw [size_of] at h; exact h
  go_wp2_with fail
  refine (rtick_any t _).mono ?_
  rw [ht]
  rintro x wx ⟨rfl, rfl⟩
  go_wp2
  go_ret
  exact ⟨rfl, K1.out.below⟩
set_option maxHeartbeats 4000000 in
theorem rfits_over (e o m st n t : Int) (w : World) (hr : Du.right e o m = true) (ht : Du.tick t = true) (h : 2 < st) :
    Calls Try.prog 27 #[.agg #[.int .i64 e, .int .i64 o, .int .i64 m], .agg #[.int .u8 st, .int .i64 n], .int .i64 t] w fun x w' => x = .returned (.bool false) ∧ Below w.heap.size w w' := by
  have K0 := Lib.hid (((Kp.start w).add 33 #[.int .i64 e, .int .i64 o, .int .i64 m]).add 56 #[.int .u8 st, .int .i64 n])
  have d1 : decide (2 < st) = true := decide_eq_true h
  go_enter Try.func27, Try.ntmps27
  go_wp2_with fail
  refine (refright_any e o m _).mono ?_
  rw [hr]
  rintro x w1 ⟨rfl, hb⟩
  have K1 := Lib.hid (K0.out.on hb)
  clear hb
  have c_p : ∀ i : Nat, w1.cell? ⟨w.heap.size, i, none⟩ = #[.int .i64 e, .int .i64 o, .int .i64 m][i]? := by have h := K1.out.cell (.tail _ (.head _)); dsimp only at h; exact h
  have c_s : ∀ i : Nat, w1.cell? ⟨w.heap.size + 1, i, none⟩ = #[.int .u8 st, .int .i64 n][i]? := by have h := K1.out.cell (.head _); dsimp only at h; rw [size_of] at h; exact h
  go_wp2_with fail
  refine (rtick_any t _).mono ?_
  rw [ht]
  rintro x wx ⟨rfl, rfl⟩
  go_wp2
  go_ret
  exact ⟨rfl, K1.out.below⟩
set_option maxHeartbeats 4000000 in
theorem rfits_idle (e o m st n t : Int) (w : World) (hr : Du.right e o m = true) (ht : Du.tick t = true) (h : st = 0) (q : Bool) (hq : (n == 0) = q) :
    Calls Try.prog 27 #[.agg #[.int .i64 e, .int .i64 o, .int .i64 m], .agg #[.int .u8 st, .int .i64 n], .int .i64 t] w fun x w' => x = .returned (.bool q) ∧ Below w.heap.size w w' := by
  subst h
  have K0 := Lib.hid (((Kp.start w).add 33 #[.int .i64 e, .int .i64 o, .int .i64 m]).add 56 #[.int .u8 0, .int .i64 n])
  go_enter Try.func27, Try.ntmps27
  go_wp2_with fail
  refine (refright_any e o m _).mono ?_
  rw [hr]
  rintro x w1 ⟨rfl, hb⟩
  have K1 := Lib.hid (K0.out.on hb)
  clear hb
  have c_p : ∀ i : Nat, w1.cell? ⟨w.heap.size, i, none⟩ = #[.int .i64 e, .int .i64 o, .int .i64 m][i]? := by have h := K1.out.cell (.tail _ (.head _)); dsimp only at h; exact h
  have c_s : ∀ i : Nat, w1.cell? ⟨w.heap.size + 1, i, none⟩ = #[.int .u8 0, .int .i64 n][i]? := by have h := K1.out.cell (.head _); dsimp only at h; rw [size_of] at h; exact h
  go_wp2_with fail
  refine (rtick_any t _).mono ?_
  rw [ht]
  rintro x wx ⟨rfl, rfl⟩
  go_wp2
  go_ret
  exact ⟨rfl, K1.out.below⟩
set_option maxHeartbeats 4000000 in
theorem rfits_no_is (e o m st n t : Int) (w : World) (hr : Du.right e o m = true) (ht : Du.tick t = true) (h : st = 1 ∨ st = 2) (hi : ∀ w, Calls Try.prog 26 #[.agg #[.int .i64 e, .int .i64 o, .int .i64 m], .int .i64 n] w fun x w' => x = .returned (.bool false) ∧ Below w.heap.size w w') :
    Calls Try.prog 27 #[.agg #[.int .i64 e, .int .i64 o, .int .i64 m], .agg #[.int .u8 st, .int .i64 n], .int .i64 t] w fun x w' => x = .returned (.bool false) ∧ Below w.heap.size w w' := by
  have K0 := Lib.hid (((Kp.start w).add 33 #[.int .i64 e, .int .i64 o, .int .i64 m]).add 56 #[.int .u8 st, .int .i64 n])
  have HI := Lib.hid hi
  clear hi
  rcases h with rfl | rfl
  · skip
    go_enter Try.func27, Try.ntmps27
    go_wp2_with fail
    refine (refright_any e o m _).mono ?_
    rw [hr]
    rintro x w1 ⟨rfl, hb⟩
    have K1 := Lib.hid (K0.out.on hb)
    clear hb
    have c_p : ∀ i : Nat, w1.cell? ⟨w.heap.size, i, none⟩ = #[.int .i64 e, .int .i64 o, .int .i64 m][i]? := by have h := K1.out.cell (.tail _ (.head _)); dsimp only at h; exact h
    have c_s : ∀ i : Nat, w1.cell? ⟨w.heap.size + 1, i, none⟩ = #[.int .u8 1, .int .i64 n][i]? := by have h := K1.out.cell (.head _); dsimp only at h; rw [size_of] at h; exact h
    go_wp2_with fail
    refine (rtick_any t _).mono ?_
    rw [ht]
    rintro x wx ⟨rfl, rfl⟩
    go_wp2_with fail
    refine (HI.out _).mono ?_
    rintro x w3 ⟨rfl, hb⟩
    have K3 := Lib.hid (K1.out.on hb)
    clear hb c_p c_s
    have c_p : ∀ i : Nat, w3.cell? ⟨w.heap.size, i, none⟩ = #[.int .i64 e, .int .i64 o, .int .i64 m][i]? := by have h := K3.out.cell (.tail _ (.head _)); dsimp only at h; exact h
    have c_s : ∀ i : Nat, w3.cell? ⟨w.heap.size + 1, i, none⟩ = #[.int .u8 1, .int .i64 n][i]? := by have h := K3.out.cell (.head _); dsimp only at h; rw [size_of] at h; exact h
    go_wp2
    go_ret
    exact ⟨rfl, K3.out.below⟩
  · skip
    go_enter Try.func27, Try.ntmps27
    go_wp2_with fail
    refine (refright_any e o m _).mono ?_
    rw [hr]
    rintro x w1 ⟨rfl, hb⟩
    have K1 := Lib.hid (K0.out.on hb)
    clear hb
    have c_p : ∀ i : Nat, w1.cell? ⟨w.heap.size, i, none⟩ = #[.int .i64 e, .int .i64 o, .int .i64 m][i]? := by have h := K1.out.cell (.tail _ (.head _)); dsimp only at h; exact h
    have c_s : ∀ i : Nat, w1.cell? ⟨w.heap.size + 1, i, none⟩ = #[.int .u8 2, .int .i64 n][i]? := by have h := K1.out.cell (.head _); dsimp only at h; rw [size_of] at h; exact h
    go_wp2_with fail
    refine (rtick_any t _).mono ?_
    rw [ht]
    rintro x wx ⟨rfl, rfl⟩
    go_wp2_with fail
    refine (HI.out _).mono ?_
    rintro x w3 ⟨rfl, hb⟩
    have K3 := Lib.hid (K1.out.on hb)
    clear hb c_p c_s
    have c_p : ∀ i : Nat, w3.cell? ⟨w.heap.size, i, none⟩ = #[.int .i64 e, .int .i64 o, .int .i64 m][i]? := by have h := K3.out.cell (.tail _ (.head _)); dsimp only at h; exact h
    have c_s : ∀ i : Nat, w3.cell? ⟨w.heap.size + 1, i, none⟩ = #[.int .u8 2, .int .i64 n][i]? := by have h := K3.out.cell (.head _); dsimp only at h; rw [size_of] at h; exact h
    go_wp2
    go_ret
    exact ⟨rfl, K3.out.below⟩
set_option maxHeartbeats 4000000 in
theorem rfits_later (e o m st n t : Int) (w : World) (hr : Du.right e o m = true) (ht : Du.tick t = true) (h : st = 1 ∨ st = 2) (hl : t < n) (hi : ∀ w, Calls Try.prog 26 #[.agg #[.int .i64 e, .int .i64 o, .int .i64 m], .int .i64 n] w fun x w' => x = .returned (.bool true) ∧ Below w.heap.size w w') :
    Calls Try.prog 27 #[.agg #[.int .i64 e, .int .i64 o, .int .i64 m], .agg #[.int .u8 st, .int .i64 n], .int .i64 t] w fun x w' => x = .returned (.bool false) ∧ Below w.heap.size w w' := by
  have K0 := Lib.hid (((Kp.start w).add 33 #[.int .i64 e, .int .i64 o, .int .i64 m]).add 56 #[.int .u8 st, .int .i64 n])
  have HI := Lib.hid hi
  clear hi
  rcases h with rfl | rfl
  · have d1 : decide (t < n) = true := decide_eq_true hl
    go_enter Try.func27, Try.ntmps27
    go_wp2_with fail
    refine (refright_any e o m _).mono ?_
    rw [hr]
    rintro x w1 ⟨rfl, hb⟩
    have K1 := Lib.hid (K0.out.on hb)
    clear hb
    have c_p : ∀ i : Nat, w1.cell? ⟨w.heap.size, i, none⟩ = #[.int .i64 e, .int .i64 o, .int .i64 m][i]? := by have h := K1.out.cell (.tail _ (.head _)); dsimp only at h; exact h
    have c_s : ∀ i : Nat, w1.cell? ⟨w.heap.size + 1, i, none⟩ = #[.int .u8 1, .int .i64 n][i]? := by have h := K1.out.cell (.head _); dsimp only at h; rw [size_of] at h; exact h
    go_wp2_with fail
    refine (rtick_any t _).mono ?_
    rw [ht]
    rintro x wx ⟨rfl, rfl⟩
    go_wp2_with fail
    refine (HI.out _).mono ?_
    rintro x w3 ⟨rfl, hb⟩
    have K3 := Lib.hid (K1.out.on hb)
    clear hb c_p c_s
    have c_p : ∀ i : Nat, w3.cell? ⟨w.heap.size, i, none⟩ = #[.int .i64 e, .int .i64 o, .int .i64 m][i]? := by have h := K3.out.cell (.tail _ (.head _)); dsimp only at h; exact h
    have c_s : ∀ i : Nat, w3.cell? ⟨w.heap.size + 1, i, none⟩ = #[.int .u8 1, .int .i64 n][i]? := by have h := K3.out.cell (.head _); dsimp only at h; rw [size_of] at h; exact h
    go_wp2
    go_ret
    exact ⟨rfl, K3.out.below⟩
  · have d1 : decide (t < n) = true := decide_eq_true hl
    go_enter Try.func27, Try.ntmps27
    go_wp2_with fail
    refine (refright_any e o m _).mono ?_
    rw [hr]
    rintro x w1 ⟨rfl, hb⟩
    have K1 := Lib.hid (K0.out.on hb)
    clear hb
    have c_p : ∀ i : Nat, w1.cell? ⟨w.heap.size, i, none⟩ = #[.int .i64 e, .int .i64 o, .int .i64 m][i]? := by have h := K1.out.cell (.tail _ (.head _)); dsimp only at h; exact h
    have c_s : ∀ i : Nat, w1.cell? ⟨w.heap.size + 1, i, none⟩ = #[.int .u8 2, .int .i64 n][i]? := by have h := K1.out.cell (.head _); dsimp only at h; rw [size_of] at h; exact h
    go_wp2_with fail
    refine (rtick_any t _).mono ?_
    rw [ht]
    rintro x wx ⟨rfl, rfl⟩
    go_wp2_with fail
    refine (HI.out _).mono ?_
    rintro x w3 ⟨rfl, hb⟩
    have K3 := Lib.hid (K1.out.on hb)
    clear hb c_p c_s
    have c_p : ∀ i : Nat, w3.cell? ⟨w.heap.size, i, none⟩ = #[.int .i64 e, .int .i64 o, .int .i64 m][i]? := by have h := K3.out.cell (.tail _ (.head _)); dsimp only at h; exact h
    have c_s : ∀ i : Nat, w3.cell? ⟨w.heap.size + 1, i, none⟩ = #[.int .u8 2, .int .i64 n][i]? := by have h := K3.out.cell (.head _); dsimp only at h; rw [size_of] at h; exact h
    go_wp2
    go_ret
    exact ⟨rfl, K3.out.below⟩
set_option maxHeartbeats 4000000 in
theorem rfits_past (e o m st n t : Int) (w : World) (hr : Du.right e o m = true) (ht : Du.tick t = true) (h : st = 1) (n0 : 0 ≤ n) (hl : n ≤ t) (hx : n + m ≤ t) (hi : ∀ w, Calls Try.prog 26 #[.agg #[.int .i64 e, .int .i64 o, .int .i64 m], .int .i64 n] w fun x w' => x = .returned (.bool true) ∧ Below w.heap.size w w') :
    Calls Try.prog 27 #[.agg #[.int .i64 e, .int .i64 o, .int .i64 m], .agg #[.int .u8 st, .int .i64 n], .int .i64 t] w fun x w' => x = .returned (.bool false) ∧ Below w.heap.size w w' := by
  subst h
  have K0 := Lib.hid (((Kp.start w).add 33 #[.int .i64 e, .int .i64 o, .int .i64 m]).add 56 #[.int .u8 1, .int .i64 n])
  have HI := Lib.hid hi
  clear hi
  have g1 : IntKind.i64.wrap (n + m) = n + m := IntWalk.i64_in _ (by have := Du.right_true.1 hr; have := Du.tick_true.1 ht; omega)
  have d1 : decide (t < n) = false := decide_eq_false (by omega)
  have d2 : decide (t < n + m) = false := decide_eq_false (by omega)
  go_enter Try.func27, Try.ntmps27
  go_wp2_with fail
  refine (refright_any e o m _).mono ?_
  rw [hr]
  rintro x w1 ⟨rfl, hb⟩
  have K1 := Lib.hid (K0.out.on hb)
  clear hb
  have c_p : ∀ i : Nat, w1.cell? ⟨w.heap.size, i, none⟩ = #[.int .i64 e, .int .i64 o, .int .i64 m][i]? := by have h := K1.out.cell (.tail _ (.head _)); dsimp only at h; exact h
  have c_s : ∀ i : Nat, w1.cell? ⟨w.heap.size + 1, i, none⟩ = #[.int .u8 1, .int .i64 n][i]? := by have h := K1.out.cell (.head _); dsimp only at h; rw [size_of] at h; exact h
  go_wp2_with fail
  refine (rtick_any t _).mono ?_
  rw [ht]
  rintro x wx ⟨rfl, rfl⟩
  go_wp2_with fail
  refine (HI.out _).mono ?_
  rintro x w3 ⟨rfl, hb⟩
  have K3 := Lib.hid (K1.out.on hb)
  clear hb c_p c_s
  have c_p : ∀ i : Nat, w3.cell? ⟨w.heap.size, i, none⟩ = #[.int .i64 e, .int .i64 o, .int .i64 m][i]? := by have h := K3.out.cell (.tail _ (.head _)); dsimp only at h; exact h
  have c_s : ∀ i : Nat, w3.cell? ⟨w.heap.size + 1, i, none⟩ = #[.int .u8 1, .int .i64 n][i]? := by have h := K3.out.cell (.head _); dsimp only at h; rw [size_of] at h; exact h
  go_wp2
  go_ret
  exact ⟨rfl, K3.out.below⟩
set_option maxHeartbeats 4000000 in
theorem rfits_open (e o m st n t : Int) (w : World) (hr : Du.right e o m = true) (ht : Du.tick t = true) (h : st = 1) (n0 : 0 ≤ n) (hl : n ≤ t) (hx : t < n + m) (hi : ∀ w, Calls Try.prog 26 #[.agg #[.int .i64 e, .int .i64 o, .int .i64 m], .int .i64 n] w fun x w' => x = .returned (.bool true) ∧ Below w.heap.size w w') :
    Calls Try.prog 27 #[.agg #[.int .i64 e, .int .i64 o, .int .i64 m], .agg #[.int .u8 st, .int .i64 n], .int .i64 t] w fun x w' => x = .returned (.bool true) ∧ Below w.heap.size w w' := by
  subst h
  have K0 := Lib.hid (((Kp.start w).add 33 #[.int .i64 e, .int .i64 o, .int .i64 m]).add 56 #[.int .u8 1, .int .i64 n])
  have HI := Lib.hid hi
  clear hi
  have g1 : IntKind.i64.wrap (n + m) = n + m := IntWalk.i64_in _ (by have := Du.right_true.1 hr; have := Du.tick_true.1 ht; omega)
  have d1 : decide (t < n) = false := decide_eq_false (by omega)
  have d2 : decide (t < n + m) = true := decide_eq_true hx
  go_enter Try.func27, Try.ntmps27
  go_wp2_with fail
  refine (refright_any e o m _).mono ?_
  rw [hr]
  rintro x w1 ⟨rfl, hb⟩
  have K1 := Lib.hid (K0.out.on hb)
  clear hb
  have c_p : ∀ i : Nat, w1.cell? ⟨w.heap.size, i, none⟩ = #[.int .i64 e, .int .i64 o, .int .i64 m][i]? := by have h := K1.out.cell (.tail _ (.head _)); dsimp only at h; exact h
  have c_s : ∀ i : Nat, w1.cell? ⟨w.heap.size + 1, i, none⟩ = #[.int .u8 1, .int .i64 n][i]? := by have h := K1.out.cell (.head _); dsimp only at h; rw [size_of] at h; exact h
  go_wp2_with fail
  refine (rtick_any t _).mono ?_
  rw [ht]
  rintro x wx ⟨rfl, rfl⟩
  go_wp2_with fail
  refine (HI.out _).mono ?_
  rintro x w3 ⟨rfl, hb⟩
  have K3 := Lib.hid (K1.out.on hb)
  clear hb c_p c_s
  have c_p : ∀ i : Nat, w3.cell? ⟨w.heap.size, i, none⟩ = #[.int .i64 e, .int .i64 o, .int .i64 m][i]? := by have h := K3.out.cell (.tail _ (.head _)); dsimp only at h; exact h
  have c_s : ∀ i : Nat, w3.cell? ⟨w.heap.size + 1, i, none⟩ = #[.int .u8 1, .int .i64 n][i]? := by have h := K3.out.cell (.head _); dsimp only at h; rw [size_of] at h; exact h
  go_wp2
  go_ret
  exact ⟨rfl, K3.out.below⟩
set_option maxHeartbeats 4000000 in
theorem rfits_wait (e o m st n t : Int) (w : World) (hr : Du.right e o m = true) (ht : Du.tick t = true) (h : st = 2) (hl : n ≤ t) (hi : ∀ w, Calls Try.prog 26 #[.agg #[.int .i64 e, .int .i64 o, .int .i64 m], .int .i64 n] w fun x w' => x = .returned (.bool true) ∧ Below w.heap.size w w') :
    Calls Try.prog 27 #[.agg #[.int .i64 e, .int .i64 o, .int .i64 m], .agg #[.int .u8 st, .int .i64 n], .int .i64 t] w fun x w' => x = .returned (.bool true) ∧ Below w.heap.size w w' := by
  subst h
  have K0 := Lib.hid (((Kp.start w).add 33 #[.int .i64 e, .int .i64 o, .int .i64 m]).add 56 #[.int .u8 2, .int .i64 n])
  have HI := Lib.hid hi
  clear hi
  have d1 : decide (t < n) = false := decide_eq_false (by omega)
  go_enter Try.func27, Try.ntmps27
  go_wp2_with fail
  refine (refright_any e o m _).mono ?_
  rw [hr]
  rintro x w1 ⟨rfl, hb⟩
  have K1 := Lib.hid (K0.out.on hb)
  clear hb
  have c_p : ∀ i : Nat, w1.cell? ⟨w.heap.size, i, none⟩ = #[.int .i64 e, .int .i64 o, .int .i64 m][i]? := by have h := K1.out.cell (.tail _ (.head _)); dsimp only at h; exact h
  have c_s : ∀ i : Nat, w1.cell? ⟨w.heap.size + 1, i, none⟩ = #[.int .u8 2, .int .i64 n][i]? := by have h := K1.out.cell (.head _); dsimp only at h; rw [size_of] at h; exact h
  go_wp2_with fail
  refine (rtick_any t _).mono ?_
  rw [ht]
  rintro x wx ⟨rfl, rfl⟩
  go_wp2_with fail
  refine (HI.out _).mono ?_
  rintro x w3 ⟨rfl, hb⟩
  have K3 := Lib.hid (K1.out.on hb)
  clear hb c_p c_s
  have c_p : ∀ i : Nat, w3.cell? ⟨w.heap.size, i, none⟩ = #[.int .i64 e, .int .i64 o, .int .i64 m][i]? := by have h := K3.out.cell (.tail _ (.head _)); dsimp only at h; exact h
  have c_s : ∀ i : Nat, w3.cell? ⟨w.heap.size + 1, i, none⟩ = #[.int .u8 2, .int .i64 n][i]? := by have h := K3.out.cell (.head _); dsimp only at h; rw [size_of] at h; exact h
  go_wp2
  go_ret
  exact ⟨rfl, K3.out.below⟩
set_option maxHeartbeats 4000000 in
theorem dfits_over_false (e o m st n t : Int) (w : World) (hr : Du.right e o m = true) (ht : Du.tick t = true) (h : 2 < st) (hi : ∀ w, Calls Try.prog 21 #[.agg #[.int .i64 e, .int .i64 o, .int .i64 m], .int .i64 n] w fun x w' => x = .returned (.bool false) ∧ Below w.heap.size w w') :
    Calls Try.prog 18 #[.agg #[.int .i64 e, .int .i64 o, .int .i64 m], .agg #[.int .u8 st, .int .i64 n], .int .i64 t] w fun x w' => x = .returned (.bool false) ∧ Below w.heap.size w w' := by
  have K0 := Lib.hid (((Kp.start w).add 23 #[.int .i64 e, .int .i64 o, .int .i64 m]).add 25 #[.int .u8 st, .int .i64 n])
  have HI := Lib.hid hi
  clear hi
  have d1 : (st == 0) = false := by simp; omega
  have d2 : (st == 1) = false := by simp; omega
  have d3 : (st == 2) = false := by simp; omega
  go_enter Try.func18, Try.ntmps18
  go_wp2_with fail
  refine (right_any e o m _).mono ?_
  rw [hr]
  rintro x w1 ⟨rfl, hb⟩
  have K1 := Lib.hid (K0.out.on hb)
  clear hb
  have c_p : ∀ i : Nat, w1.cell? ⟨w.heap.size, i, none⟩ = #[.int .i64 e, .int .i64 o, .int .i64 m][i]? := by have h := K1.out.cell (.tail _ (.head _)); dsimp only at h; exact h
  have c_s : ∀ i : Nat, w1.cell? ⟨w.heap.size + 1, i, none⟩ = #[.int .u8 st, .int .i64 n][i]? := by have h := K1.out.cell (.head _); dsimp only at h; rw [size_of] at h; exact h
  go_wp2_with fail
  refine (tick_any t _).mono ?_
  rw [ht]
  rintro x wx ⟨rfl, rfl⟩
  go_wp2_with fail
  refine (HI.out _).mono ?_
  rintro x w3 ⟨rfl, hb⟩
  have K3 := Lib.hid (K1.out.on hb)
  clear hb c_p c_s
  have c_p : ∀ i : Nat, w3.cell? ⟨w.heap.size, i, none⟩ = #[.int .i64 e, .int .i64 o, .int .i64 m][i]? := by have h := K3.out.cell (.tail _ (.head _)); dsimp only at h; exact h
  have c_s : ∀ i : Nat, w3.cell? ⟨w.heap.size + 1, i, none⟩ = #[.int .u8 st, .int .i64 n][i]? := by have h := K3.out.cell (.head _); dsimp only at h; rw [size_of] at h; exact h
  go_wp2
  go_ret
  exact ⟨rfl, K3.out.below⟩
set_option maxHeartbeats 4000000 in
theorem dfits_idle_false (e o m st n t : Int) (w : World) (hr : Du.right e o m = true) (ht : Du.tick t = true) (h0 : st = 0) (h : n ≠ 0) (hi : ∀ w, Calls Try.prog 21 #[.agg #[.int .i64 e, .int .i64 o, .int .i64 m], .int .i64 n] w fun x w' => x = .returned (.bool false) ∧ Below w.heap.size w w') :
    Calls Try.prog 18 #[.agg #[.int .i64 e, .int .i64 o, .int .i64 m], .agg #[.int .u8 st, .int .i64 n], .int .i64 t] w fun x w' => x = .returned (.bool false) ∧ Below w.heap.size w w' := by
  subst h0
  have K0 := Lib.hid (((Kp.start w).add 23 #[.int .i64 e, .int .i64 o, .int .i64 m]).add 25 #[.int .u8 0, .int .i64 n])
  have HI := Lib.hid hi
  clear hi
  have d1 : (n == 0) = false := by simp; exact h
  go_enter Try.func18, Try.ntmps18
  go_wp2_with fail
  refine (right_any e o m _).mono ?_
  rw [hr]
  rintro x w1 ⟨rfl, hb⟩
  have K1 := Lib.hid (K0.out.on hb)
  clear hb
  have c_p : ∀ i : Nat, w1.cell? ⟨w.heap.size, i, none⟩ = #[.int .i64 e, .int .i64 o, .int .i64 m][i]? := by have h := K1.out.cell (.tail _ (.head _)); dsimp only at h; exact h
  have c_s : ∀ i : Nat, w1.cell? ⟨w.heap.size + 1, i, none⟩ = #[.int .u8 0, .int .i64 n][i]? := by have h := K1.out.cell (.head _); dsimp only at h; rw [size_of] at h; exact h
  go_wp2_with fail
  refine (tick_any t _).mono ?_
  rw [ht]
  rintro x wx ⟨rfl, rfl⟩
  go_wp2_with fail
  refine (HI.out _).mono ?_
  rintro x w3 ⟨rfl, hb⟩
  have K3 := Lib.hid (K1.out.on hb)
  clear hb c_p c_s
  have c_p : ∀ i : Nat, w3.cell? ⟨w.heap.size, i, none⟩ = #[.int .i64 e, .int .i64 o, .int .i64 m][i]? := by have h := K3.out.cell (.tail _ (.head _)); dsimp only at h; exact h
  have c_s : ∀ i : Nat, w3.cell? ⟨w.heap.size + 1, i, none⟩ = #[.int .u8 0, .int .i64 n][i]? := by have h := K3.out.cell (.head _); dsimp only at h; rw [size_of] at h; exact h
  go_wp2
  go_ret
  exact ⟨rfl, K3.out.below⟩
set_option maxHeartbeats 4000000 in
theorem dfits_over_true (e o m st n t : Int) (w : World) (hr : Du.right e o m = true) (ht : Du.tick t = true) (h : 2 < st) (hi : ∀ w, Calls Try.prog 21 #[.agg #[.int .i64 e, .int .i64 o, .int .i64 m], .int .i64 n] w fun x w' => x = .returned (.bool true) ∧ Below w.heap.size w w') :
    Calls Try.prog 18 #[.agg #[.int .i64 e, .int .i64 o, .int .i64 m], .agg #[.int .u8 st, .int .i64 n], .int .i64 t] w fun x w' => x = .returned (.bool false) ∧ Below w.heap.size w w' := by
  have K0 := Lib.hid (((Kp.start w).add 23 #[.int .i64 e, .int .i64 o, .int .i64 m]).add 25 #[.int .u8 st, .int .i64 n])
  have HI := Lib.hid hi
  clear hi
  have d1 : (st == 0) = false := by simp; omega
  have d2 : (st == 1) = false := by simp; omega
  have d3 : (st == 2) = false := by simp; omega
  rcases hd : decide (n ≤ t) with _ | _
  · skip
    go_enter Try.func18, Try.ntmps18
    go_wp2_with fail
    refine (right_any e o m _).mono ?_
    rw [hr]
    rintro x w1 ⟨rfl, hb⟩
    have K1 := Lib.hid (K0.out.on hb)
    clear hb
    have c_p : ∀ i : Nat, w1.cell? ⟨w.heap.size, i, none⟩ = #[.int .i64 e, .int .i64 o, .int .i64 m][i]? := by have h := K1.out.cell (.tail _ (.head _)); dsimp only at h; exact h
    have c_s : ∀ i : Nat, w1.cell? ⟨w.heap.size + 1, i, none⟩ = #[.int .u8 st, .int .i64 n][i]? := by have h := K1.out.cell (.head _); dsimp only at h; rw [size_of] at h; exact h
    go_wp2_with fail
    refine (tick_any t _).mono ?_
    rw [ht]
    rintro x wx ⟨rfl, rfl⟩
    go_wp2_with fail
    refine (HI.out _).mono ?_
    rintro x w3 ⟨rfl, hb⟩
    have K3 := Lib.hid (K1.out.on hb)
    clear hb c_p c_s
    have c_p : ∀ i : Nat, w3.cell? ⟨w.heap.size, i, none⟩ = #[.int .i64 e, .int .i64 o, .int .i64 m][i]? := by have h := K3.out.cell (.tail _ (.head _)); dsimp only at h; exact h
    have c_s : ∀ i : Nat, w3.cell? ⟨w.heap.size + 1, i, none⟩ = #[.int .u8 st, .int .i64 n][i]? := by have h := K3.out.cell (.head _); dsimp only at h; rw [size_of] at h; exact h
    go_wp2
    go_ret
    exact ⟨rfl, K3.out.below⟩
  · skip
    go_enter Try.func18, Try.ntmps18
    go_wp2_with fail
    refine (right_any e o m _).mono ?_
    rw [hr]
    rintro x w1 ⟨rfl, hb⟩
    have K1 := Lib.hid (K0.out.on hb)
    clear hb
    have c_p : ∀ i : Nat, w1.cell? ⟨w.heap.size, i, none⟩ = #[.int .i64 e, .int .i64 o, .int .i64 m][i]? := by have h := K1.out.cell (.tail _ (.head _)); dsimp only at h; exact h
    have c_s : ∀ i : Nat, w1.cell? ⟨w.heap.size + 1, i, none⟩ = #[.int .u8 st, .int .i64 n][i]? := by have h := K1.out.cell (.head _); dsimp only at h; rw [size_of] at h; exact h
    go_wp2_with fail
    refine (tick_any t _).mono ?_
    rw [ht]
    rintro x wx ⟨rfl, rfl⟩
    go_wp2_with fail
    refine (HI.out _).mono ?_
    rintro x w3 ⟨rfl, hb⟩
    have K3 := Lib.hid (K1.out.on hb)
    clear hb c_p c_s
    have c_p : ∀ i : Nat, w3.cell? ⟨w.heap.size, i, none⟩ = #[.int .i64 e, .int .i64 o, .int .i64 m][i]? := by have h := K3.out.cell (.tail _ (.head _)); dsimp only at h; exact h
    have c_s : ∀ i : Nat, w3.cell? ⟨w.heap.size + 1, i, none⟩ = #[.int .u8 st, .int .i64 n][i]? := by have h := K3.out.cell (.head _); dsimp only at h; rw [size_of] at h; exact h
    go_wp2
    go_ret
    exact ⟨rfl, K3.out.below⟩
set_option maxHeartbeats 4000000 in
theorem dfits_idle_true (e o m st n t : Int) (w : World) (hr : Du.right e o m = true) (ht : Du.tick t = true) (h0 : st = 0) (h : n ≠ 0) (hi : ∀ w, Calls Try.prog 21 #[.agg #[.int .i64 e, .int .i64 o, .int .i64 m], .int .i64 n] w fun x w' => x = .returned (.bool true) ∧ Below w.heap.size w w') :
    Calls Try.prog 18 #[.agg #[.int .i64 e, .int .i64 o, .int .i64 m], .agg #[.int .u8 st, .int .i64 n], .int .i64 t] w fun x w' => x = .returned (.bool false) ∧ Below w.heap.size w w' := by
  subst h0
  have K0 := Lib.hid (((Kp.start w).add 23 #[.int .i64 e, .int .i64 o, .int .i64 m]).add 25 #[.int .u8 0, .int .i64 n])
  have HI := Lib.hid hi
  clear hi
  have d1 : (n == 0) = false := by simp; exact h
  rcases hd : decide (n ≤ t) with _ | _
  · skip
    go_enter Try.func18, Try.ntmps18
    go_wp2_with fail
    refine (right_any e o m _).mono ?_
    rw [hr]
    rintro x w1 ⟨rfl, hb⟩
    have K1 := Lib.hid (K0.out.on hb)
    clear hb
    have c_p : ∀ i : Nat, w1.cell? ⟨w.heap.size, i, none⟩ = #[.int .i64 e, .int .i64 o, .int .i64 m][i]? := by have h := K1.out.cell (.tail _ (.head _)); dsimp only at h; exact h
    have c_s : ∀ i : Nat, w1.cell? ⟨w.heap.size + 1, i, none⟩ = #[.int .u8 0, .int .i64 n][i]? := by have h := K1.out.cell (.head _); dsimp only at h; rw [size_of] at h; exact h
    go_wp2_with fail
    refine (tick_any t _).mono ?_
    rw [ht]
    rintro x wx ⟨rfl, rfl⟩
    go_wp2_with fail
    refine (HI.out _).mono ?_
    rintro x w3 ⟨rfl, hb⟩
    have K3 := Lib.hid (K1.out.on hb)
    clear hb c_p c_s
    have c_p : ∀ i : Nat, w3.cell? ⟨w.heap.size, i, none⟩ = #[.int .i64 e, .int .i64 o, .int .i64 m][i]? := by have h := K3.out.cell (.tail _ (.head _)); dsimp only at h; exact h
    have c_s : ∀ i : Nat, w3.cell? ⟨w.heap.size + 1, i, none⟩ = #[.int .u8 0, .int .i64 n][i]? := by have h := K3.out.cell (.head _); dsimp only at h; rw [size_of] at h; exact h
    go_wp2
    go_ret
    exact ⟨rfl, K3.out.below⟩
  · skip
    go_enter Try.func18, Try.ntmps18
    go_wp2_with fail
    refine (right_any e o m _).mono ?_
    rw [hr]
    rintro x w1 ⟨rfl, hb⟩
    have K1 := Lib.hid (K0.out.on hb)
    clear hb
    have c_p : ∀ i : Nat, w1.cell? ⟨w.heap.size, i, none⟩ = #[.int .i64 e, .int .i64 o, .int .i64 m][i]? := by have h := K1.out.cell (.tail _ (.head _)); dsimp only at h; exact h
    have c_s : ∀ i : Nat, w1.cell? ⟨w.heap.size + 1, i, none⟩ = #[.int .u8 0, .int .i64 n][i]? := by have h := K1.out.cell (.head _); dsimp only at h; rw [size_of] at h; exact h
    go_wp2_with fail
    refine (tick_any t _).mono ?_
    rw [ht]
    rintro x wx ⟨rfl, rfl⟩
    go_wp2_with fail
    refine (HI.out _).mono ?_
    rintro x w3 ⟨rfl, hb⟩
    have K3 := Lib.hid (K1.out.on hb)
    clear hb c_p c_s
    have c_p : ∀ i : Nat, w3.cell? ⟨w.heap.size, i, none⟩ = #[.int .i64 e, .int .i64 o, .int .i64 m][i]? := by have h := K3.out.cell (.tail _ (.head _)); dsimp only at h; exact h
    have c_s : ∀ i : Nat, w3.cell? ⟨w.heap.size + 1, i, none⟩ = #[.int .u8 0, .int .i64 n][i]? := by have h := K3.out.cell (.head _); dsimp only at h; rw [size_of] at h; exact h
    go_wp2
    go_ret
    exact ⟨rfl, K3.out.below⟩
set_option maxHeartbeats 4000000 in
theorem dfits_no_is (e o m st n t : Int) (w : World) (hr : Du.right e o m = true) (ht : Du.tick t = true) (h : st = 1 ∨ st = 2) (hi : ∀ w, Calls Try.prog 21 #[.agg #[.int .i64 e, .int .i64 o, .int .i64 m], .int .i64 n] w fun x w' => x = .returned (.bool false) ∧ Below w.heap.size w w') :
    Calls Try.prog 18 #[.agg #[.int .i64 e, .int .i64 o, .int .i64 m], .agg #[.int .u8 st, .int .i64 n], .int .i64 t] w fun x w' => x = .returned (.bool false) ∧ Below w.heap.size w w' := by
  have K0 := Lib.hid (((Kp.start w).add 23 #[.int .i64 e, .int .i64 o, .int .i64 m]).add 25 #[.int .u8 st, .int .i64 n])
  have HI := Lib.hid hi
  clear hi
  rcases h with rfl | rfl
  · skip
    go_enter Try.func18, Try.ntmps18
    go_wp2_with fail
    refine (right_any e o m _).mono ?_
    rw [hr]
    rintro x w1 ⟨rfl, hb⟩
    have K1 := Lib.hid (K0.out.on hb)
    clear hb
    have c_p : ∀ i : Nat, w1.cell? ⟨w.heap.size, i, none⟩ = #[.int .i64 e, .int .i64 o, .int .i64 m][i]? := by have h := K1.out.cell (.tail _ (.head _)); dsimp only at h; exact h
    have c_s : ∀ i : Nat, w1.cell? ⟨w.heap.size + 1, i, none⟩ = #[.int .u8 1, .int .i64 n][i]? := by have h := K1.out.cell (.head _); dsimp only at h; rw [size_of] at h; exact h
    go_wp2_with fail
    refine (tick_any t _).mono ?_
    rw [ht]
    rintro x wx ⟨rfl, rfl⟩
    go_wp2_with fail
    refine (HI.out _).mono ?_
    rintro x w3 ⟨rfl, hb⟩
    have K3 := Lib.hid (K1.out.on hb)
    clear hb c_p c_s
    have c_p : ∀ i : Nat, w3.cell? ⟨w.heap.size, i, none⟩ = #[.int .i64 e, .int .i64 o, .int .i64 m][i]? := by have h := K3.out.cell (.tail _ (.head _)); dsimp only at h; exact h
    have c_s : ∀ i : Nat, w3.cell? ⟨w.heap.size + 1, i, none⟩ = #[.int .u8 1, .int .i64 n][i]? := by have h := K3.out.cell (.head _); dsimp only at h; rw [size_of] at h; exact h
    go_wp2
    go_ret
    exact ⟨rfl, K3.out.below⟩
  · skip
    go_enter Try.func18, Try.ntmps18
    go_wp2_with fail
    refine (right_any e o m _).mono ?_
    rw [hr]
    rintro x w1 ⟨rfl, hb⟩
    have K1 := Lib.hid (K0.out.on hb)
    clear hb
    have c_p : ∀ i : Nat, w1.cell? ⟨w.heap.size, i, none⟩ = #[.int .i64 e, .int .i64 o, .int .i64 m][i]? := by have h := K1.out.cell (.tail _ (.head _)); dsimp only at h; exact h
    have c_s : ∀ i : Nat, w1.cell? ⟨w.heap.size + 1, i, none⟩ = #[.int .u8 2, .int .i64 n][i]? := by have h := K1.out.cell (.head _); dsimp only at h; rw [size_of] at h; exact h
    go_wp2_with fail
    refine (tick_any t _).mono ?_
    rw [ht]
    rintro x wx ⟨rfl, rfl⟩
    go_wp2_with fail
    refine (HI.out _).mono ?_
    rintro x w3 ⟨rfl, hb⟩
    have K3 := Lib.hid (K1.out.on hb)
    clear hb c_p c_s
    have c_p : ∀ i : Nat, w3.cell? ⟨w.heap.size, i, none⟩ = #[.int .i64 e, .int .i64 o, .int .i64 m][i]? := by have h := K3.out.cell (.tail _ (.head _)); dsimp only at h; exact h
    have c_s : ∀ i : Nat, w3.cell? ⟨w.heap.size + 1, i, none⟩ = #[.int .u8 2, .int .i64 n][i]? := by have h := K3.out.cell (.head _); dsimp only at h; rw [size_of] at h; exact h
    go_wp2
    go_ret
    exact ⟨rfl, K3.out.below⟩
set_option maxHeartbeats 4000000 in
theorem dfits_later (e o m st n t : Int) (w : World) (hr : Du.right e o m = true) (ht : Du.tick t = true) (h : st = 1 ∨ st = 2) (hl : t < n) (hi : ∀ w, Calls Try.prog 21 #[.agg #[.int .i64 e, .int .i64 o, .int .i64 m], .int .i64 n] w fun x w' => x = .returned (.bool true) ∧ Below w.heap.size w w') :
    Calls Try.prog 18 #[.agg #[.int .i64 e, .int .i64 o, .int .i64 m], .agg #[.int .u8 st, .int .i64 n], .int .i64 t] w fun x w' => x = .returned (.bool false) ∧ Below w.heap.size w w' := by
  have K0 := Lib.hid (((Kp.start w).add 23 #[.int .i64 e, .int .i64 o, .int .i64 m]).add 25 #[.int .u8 st, .int .i64 n])
  have HI := Lib.hid hi
  clear hi
  rcases h with rfl | rfl
  · have d1 : decide (n ≤ t) = false := decide_eq_false (by omega)
    go_enter Try.func18, Try.ntmps18
    go_wp2_with fail
    refine (right_any e o m _).mono ?_
    rw [hr]
    rintro x w1 ⟨rfl, hb⟩
    have K1 := Lib.hid (K0.out.on hb)
    clear hb
    have c_p : ∀ i : Nat, w1.cell? ⟨w.heap.size, i, none⟩ = #[.int .i64 e, .int .i64 o, .int .i64 m][i]? := by have h := K1.out.cell (.tail _ (.head _)); dsimp only at h; exact h
    have c_s : ∀ i : Nat, w1.cell? ⟨w.heap.size + 1, i, none⟩ = #[.int .u8 1, .int .i64 n][i]? := by have h := K1.out.cell (.head _); dsimp only at h; rw [size_of] at h; exact h
    go_wp2_with fail
    refine (tick_any t _).mono ?_
    rw [ht]
    rintro x wx ⟨rfl, rfl⟩
    go_wp2_with fail
    refine (HI.out _).mono ?_
    rintro x w3 ⟨rfl, hb⟩
    have K3 := Lib.hid (K1.out.on hb)
    clear hb c_p c_s
    have c_p : ∀ i : Nat, w3.cell? ⟨w.heap.size, i, none⟩ = #[.int .i64 e, .int .i64 o, .int .i64 m][i]? := by have h := K3.out.cell (.tail _ (.head _)); dsimp only at h; exact h
    have c_s : ∀ i : Nat, w3.cell? ⟨w.heap.size + 1, i, none⟩ = #[.int .u8 1, .int .i64 n][i]? := by have h := K3.out.cell (.head _); dsimp only at h; rw [size_of] at h; exact h
    go_wp2
    go_ret
    exact ⟨rfl, K3.out.below⟩
  · have d1 : decide (n ≤ t) = false := decide_eq_false (by omega)
    go_enter Try.func18, Try.ntmps18
    go_wp2_with fail
    refine (right_any e o m _).mono ?_
    rw [hr]
    rintro x w1 ⟨rfl, hb⟩
    have K1 := Lib.hid (K0.out.on hb)
    clear hb
    have c_p : ∀ i : Nat, w1.cell? ⟨w.heap.size, i, none⟩ = #[.int .i64 e, .int .i64 o, .int .i64 m][i]? := by have h := K1.out.cell (.tail _ (.head _)); dsimp only at h; exact h
    have c_s : ∀ i : Nat, w1.cell? ⟨w.heap.size + 1, i, none⟩ = #[.int .u8 2, .int .i64 n][i]? := by have h := K1.out.cell (.head _); dsimp only at h; rw [size_of] at h; exact h
    go_wp2_with fail
    refine (tick_any t _).mono ?_
    rw [ht]
    rintro x wx ⟨rfl, rfl⟩
    go_wp2_with fail
    refine (HI.out _).mono ?_
    rintro x w3 ⟨rfl, hb⟩
    have K3 := Lib.hid (K1.out.on hb)
    clear hb c_p c_s
    have c_p : ∀ i : Nat, w3.cell? ⟨w.heap.size, i, none⟩ = #[.int .i64 e, .int .i64 o, .int .i64 m][i]? := by have h := K3.out.cell (.tail _ (.head _)); dsimp only at h; exact h
    have c_s : ∀ i : Nat, w3.cell? ⟨w.heap.size + 1, i, none⟩ = #[.int .u8 2, .int .i64 n][i]? := by have h := K3.out.cell (.head _); dsimp only at h; rw [size_of] at h; exact h
    go_wp2
    go_ret
    exact ⟨rfl, K3.out.below⟩
set_option maxHeartbeats 4000000 in
theorem dfits_past (e o m st n t : Int) (w : World) (hr : Du.right e o m = true) (ht : Du.tick t = true) (h : st = 1) (n0 : 0 ≤ n) (hl : n ≤ t) (hx : n + m ≤ t) (hi : ∀ w, Calls Try.prog 21 #[.agg #[.int .i64 e, .int .i64 o, .int .i64 m], .int .i64 n] w fun x w' => x = .returned (.bool true) ∧ Below w.heap.size w w') :
    Calls Try.prog 18 #[.agg #[.int .i64 e, .int .i64 o, .int .i64 m], .agg #[.int .u8 st, .int .i64 n], .int .i64 t] w fun x w' => x = .returned (.bool false) ∧ Below w.heap.size w w' := by
  subst h
  have K0 := Lib.hid (((Kp.start w).add 23 #[.int .i64 e, .int .i64 o, .int .i64 m]).add 25 #[.int .u8 1, .int .i64 n])
  have HI := Lib.hid hi
  clear hi
  have g1 : IntKind.i64.wrap (n + m) = n + m := IntWalk.i64_in _ (by have := Du.right_true.1 hr; have := Du.tick_true.1 ht; omega)
  have d1 : decide (n ≤ t) = true := decide_eq_true hl
  have d2 : decide (t < n + m) = false := decide_eq_false (by omega)
  go_enter Try.func18, Try.ntmps18
  go_wp2_with fail
  refine (right_any e o m _).mono ?_
  rw [hr]
  rintro x w1 ⟨rfl, hb⟩
  have K1 := Lib.hid (K0.out.on hb)
  clear hb
  have c_p : ∀ i : Nat, w1.cell? ⟨w.heap.size, i, none⟩ = #[.int .i64 e, .int .i64 o, .int .i64 m][i]? := by have h := K1.out.cell (.tail _ (.head _)); dsimp only at h; exact h
  have c_s : ∀ i : Nat, w1.cell? ⟨w.heap.size + 1, i, none⟩ = #[.int .u8 1, .int .i64 n][i]? := by have h := K1.out.cell (.head _); dsimp only at h; rw [size_of] at h; exact h
  go_wp2_with fail
  refine (tick_any t _).mono ?_
  rw [ht]
  rintro x wx ⟨rfl, rfl⟩
  go_wp2_with fail
  refine (HI.out _).mono ?_
  rintro x w3 ⟨rfl, hb⟩
  have K3 := Lib.hid (K1.out.on hb)
  clear hb c_p c_s
  have c_p : ∀ i : Nat, w3.cell? ⟨w.heap.size, i, none⟩ = #[.int .i64 e, .int .i64 o, .int .i64 m][i]? := by have h := K3.out.cell (.tail _ (.head _)); dsimp only at h; exact h
  have c_s : ∀ i : Nat, w3.cell? ⟨w.heap.size + 1, i, none⟩ = #[.int .u8 1, .int .i64 n][i]? := by have h := K3.out.cell (.head _); dsimp only at h; rw [size_of] at h; exact h
  go_wp2
  go_ret
  exact ⟨rfl, K3.out.below⟩
set_option maxHeartbeats 4000000 in
theorem dfits_open (e o m st n t : Int) (w : World) (hr : Du.right e o m = true) (ht : Du.tick t = true) (h : st = 1) (n0 : 0 ≤ n) (hl : n ≤ t) (hx : t < n + m) (hi : ∀ w, Calls Try.prog 21 #[.agg #[.int .i64 e, .int .i64 o, .int .i64 m], .int .i64 n] w fun x w' => x = .returned (.bool true) ∧ Below w.heap.size w w') :
    Calls Try.prog 18 #[.agg #[.int .i64 e, .int .i64 o, .int .i64 m], .agg #[.int .u8 st, .int .i64 n], .int .i64 t] w fun x w' => x = .returned (.bool true) ∧ Below w.heap.size w w' := by
  subst h
  have K0 := Lib.hid (((Kp.start w).add 23 #[.int .i64 e, .int .i64 o, .int .i64 m]).add 25 #[.int .u8 1, .int .i64 n])
  have HI := Lib.hid hi
  clear hi
  have g1 : IntKind.i64.wrap (n + m) = n + m := IntWalk.i64_in _ (by have := Du.right_true.1 hr; have := Du.tick_true.1 ht; omega)
  have d1 : decide (n ≤ t) = true := decide_eq_true hl
  have d2 : decide (t < n + m) = true := decide_eq_true hx
  go_enter Try.func18, Try.ntmps18
  go_wp2_with fail
  refine (right_any e o m _).mono ?_
  rw [hr]
  rintro x w1 ⟨rfl, hb⟩
  have K1 := Lib.hid (K0.out.on hb)
  clear hb
  have c_p : ∀ i : Nat, w1.cell? ⟨w.heap.size, i, none⟩ = #[.int .i64 e, .int .i64 o, .int .i64 m][i]? := by have h := K1.out.cell (.tail _ (.head _)); dsimp only at h; exact h
  have c_s : ∀ i : Nat, w1.cell? ⟨w.heap.size + 1, i, none⟩ = #[.int .u8 1, .int .i64 n][i]? := by have h := K1.out.cell (.head _); dsimp only at h; rw [size_of] at h; exact h
  go_wp2_with fail
  refine (tick_any t _).mono ?_
  rw [ht]
  rintro x wx ⟨rfl, rfl⟩
  go_wp2_with fail
  refine (HI.out _).mono ?_
  rintro x w3 ⟨rfl, hb⟩
  have K3 := Lib.hid (K1.out.on hb)
  clear hb c_p c_s
  have c_p : ∀ i : Nat, w3.cell? ⟨w.heap.size, i, none⟩ = #[.int .i64 e, .int .i64 o, .int .i64 m][i]? := by have h := K3.out.cell (.tail _ (.head _)); dsimp only at h; exact h
  have c_s : ∀ i : Nat, w3.cell? ⟨w.heap.size + 1, i, none⟩ = #[.int .u8 1, .int .i64 n][i]? := by have h := K3.out.cell (.head _); dsimp only at h; rw [size_of] at h; exact h
  go_wp2
  go_ret
  exact ⟨rfl, K3.out.below⟩
set_option maxHeartbeats 4000000 in
theorem dfits_wait (e o m st n t : Int) (w : World) (hr : Du.right e o m = true) (ht : Du.tick t = true) (h : st = 2) (hl : n ≤ t) (hi : ∀ w, Calls Try.prog 21 #[.agg #[.int .i64 e, .int .i64 o, .int .i64 m], .int .i64 n] w fun x w' => x = .returned (.bool true) ∧ Below w.heap.size w w') :
    Calls Try.prog 18 #[.agg #[.int .i64 e, .int .i64 o, .int .i64 m], .agg #[.int .u8 st, .int .i64 n], .int .i64 t] w fun x w' => x = .returned (.bool true) ∧ Below w.heap.size w w' := by
  subst h
  have K0 := Lib.hid (((Kp.start w).add 23 #[.int .i64 e, .int .i64 o, .int .i64 m]).add 25 #[.int .u8 2, .int .i64 n])
  have HI := Lib.hid hi
  clear hi
  have d1 : decide (n ≤ t) = true := decide_eq_true hl
  go_enter Try.func18, Try.ntmps18
  go_wp2_with fail
  refine (right_any e o m _).mono ?_
  rw [hr]
  rintro x w1 ⟨rfl, hb⟩
  have K1 := Lib.hid (K0.out.on hb)
  clear hb
  have c_p : ∀ i : Nat, w1.cell? ⟨w.heap.size, i, none⟩ = #[.int .i64 e, .int .i64 o, .int .i64 m][i]? := by have h := K1.out.cell (.tail _ (.head _)); dsimp only at h; exact h
  have c_s : ∀ i : Nat, w1.cell? ⟨w.heap.size + 1, i, none⟩ = #[.int .u8 2, .int .i64 n][i]? := by have h := K1.out.cell (.head _); dsimp only at h; rw [size_of] at h; exact h
  go_wp2_with fail
  refine (tick_any t _).mono ?_
  rw [ht]
  rintro x wx ⟨rfl, rfl⟩
  go_wp2_with fail
  refine (HI.out _).mono ?_
  rintro x w3 ⟨rfl, hb⟩
  have K3 := Lib.hid (K1.out.on hb)
  clear hb c_p c_s
  have c_p : ∀ i : Nat, w3.cell? ⟨w.heap.size, i, none⟩ = #[.int .i64 e, .int .i64 o, .int .i64 m][i]? := by have h := K3.out.cell (.tail _ (.head _)); dsimp only at h; exact h
  have c_s : ∀ i : Nat, w3.cell? ⟨w.heap.size + 1, i, none⟩ = #[.int .u8 2, .int .i64 n][i]? := by have h := K3.out.cell (.head _); dsimp only at h; rw [size_of] at h; exact h
  go_wp2
  go_ret
  exact ⟨rfl, K3.out.below⟩
end Go.Proofs.Ytpgdogcgdlijeaa
