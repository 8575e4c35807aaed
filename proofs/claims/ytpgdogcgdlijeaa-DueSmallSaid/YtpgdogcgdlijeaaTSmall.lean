/- DueSmall, walked. Conditions: none. -/
import Derived.Test.YtpgdogcgdlijeaaT4
import Derived.LoopTactic
namespace Go.Proofs.Ytpgdogcgdlijeaa
open Go.RowKit

/-- An array of n numbers. -/
def Nums (n : Nat) (arr : Array Value) : Prop := ∀ k, k < n → ∃ v : Int, arr[k]? = some (.int .i64 v)
theorem nums4 (a b c d : Int) : Nums 4 #[.int .i64 a, .int .i64 b, .int .i64 c, .int .i64 d] := fun k hk => by
  match k, hk with
  | 0, _ | 1, _ | 2, _ | 3, _ => exact ⟨_, rfl⟩
theorem nums6 (a b c d e f : Int) : Nums 6 #[.int .i64 a, .int .i64 b, .int .i64 c, .int .i64 d, .int .i64 e, .int .i64 f] := fun k hk => by
  match k, hk with
  | 0, _ | 1, _ | 2, _ | 3, _ | 4, _ | 5, _ => exact ⟨_, rfl⟩
theorem nums7 (a b c d e f g : Int) : Nums 7 #[.int .i64 a, .int .i64 b, .int .i64 c, .int .i64 d, .int .i64 e, .int .i64 f, .int .i64 g] := fun k hk => by
  match k, hk with
  | 0, _ | 1, _ | 2, _ | 3, _ | 4, _ | 5, _ | 6, _ => exact ⟨_, rfl⟩
/-- An array of six phases. -/
def Phs (arr : Array Value) : Prop := ∀ k, k < 6 → ∃ st n : Int, arr[k * 2]? = some (.int .u8 st) ∧ arr[k * 2 + 1]? = some (.int .i64 n) ∧ 0 ≤ st
theorem phs (o p : Int) : Phs #[.int .u8 0, .int .i64 0, .int .u8 1, .int .i64 o, .int .u8 2, .int .i64 p, .int .u8 1, .int .i64 281474976710655, .int .u8 0, .int .i64 1, .int .u8 3, .int .i64 0] := fun k hk => by
  match k, hk with
  | 0, _ | 1, _ | 2, _ | 3, _ | 4, _ | 5, _ => exact ⟨_, _, rfl, rfl, by decide⟩

set_option maxRecDepth 100000 in
set_option maxHeartbeats 40000000 in
theorem small_any (w : World) : Calls Try.prog 5 #[] w fun e w' => e = .returned (.bool true) ∧ Below w.heap.size w w' := by
  go_enter Try.func5, Try.ntmps5
  go_wp2
  go_loopw [21] (fun i wr => ∃ x : Int, 0 ≤ x ∧ x ≤ 6 ∧ i = .int .i64 x ∧ Below w.heap.size w wr) (fun i _ => (6 - intOf i).toNat)
  case atStart => exact ⟨0, by omega, by omega, rfl, Below.refl _ _⟩
  case round =>
    obtain ⟨x, x0, x1, rfl, hbl⟩ := hrel
    have HB1 := Lib.hid hbl
    clear hbl
    obtain ⟨v1, hv1⟩ : ∃ v1 : World, v1 = wr := ⟨_, rfl⟩
    rw [← hv1] at HB1 ⊢
    clear hv1
    by_cases hx : x < 6
    · have gx1 : IntKind.i64.wrap (x + 1) = x + 1 := IntWalk.i64_in _ (by omega)
      have gx2 : IntKind.i64.wrap (x + 2) = x + 2 := IntWalk.i64_in _ (by omega)
      go_wp2
      go_loopw [26] (fun i wr => ∃ y : Int, 0 ≤ y ∧ y ≤ x + 1 ∧ i = .int .i64 y ∧ Below v1.heap.size v1 wr) (fun i _ => (x + 1 - intOf i).toNat)
      case atStart => exact ⟨0, by omega, by omega, rfl, Below.refl _ _⟩
      case round =>
        obtain ⟨y, y0, y1, rfl, hbl⟩ := hrel
        have HB2 := Lib.hid hbl
        clear hbl
        obtain ⟨v2, hv2⟩ : ∃ v2 : World, v2 = wr := ⟨_, rfl⟩
        rw [← hv2] at HB2 ⊢
        clear hv2
        by_cases hy : y < x + 1
        · go_wp2
          go_loopw [31] (fun i wr => ∃ u : Int, 0 ≤ u ∧ u ≤ x + 2 ∧ i = .int .i64 u ∧ Below v2.heap.size v2 wr) (fun i _ => (x + 2 - intOf i).toNat)
          case atStart => exact ⟨0, by omega, by omega, rfl, Below.refl _ _⟩
          case round =>
            obtain ⟨u, u0, u1, rfl, hbl⟩ := hrel
            have HB3 := Lib.hid hbl
            clear hbl
            obtain ⟨v3, hv3⟩ : ∃ v3 : World, v3 = wr := ⟨_, rfl⟩
            rw [← hv3] at HB3 ⊢
            clear hv3
            by_cases hu : u < x + 2
            · have HQ3 := Lib.hid (Has.made v3 23 #[.int .i64 x, .int .i64 y, .int .i64 u])
              have HA3 := Lib.hid ((Below.refl v3.heap.size v3).alloc (Nat.le_refl _) (.cells #[.int .i64 x, .int .i64 y, .int .i64 u] 23))
              go_wp2
              go_loopw [38] (fun i wr => ∃ z : Int, 0 ≤ z ∧ z ≤ 4 ∧ i = .int .u8 z ∧ Below v3.heap.size v3 wr ∧ Has wr v3.heap.size 23 #[.int .i64 x, .int .i64 y, .int .i64 u]) (fun i _ => (4 - intOf i).toNat)
              case atStart => exact ⟨0, by omega, by omega, rfl, HA3.out, HQ3.out⟩
              case round =>
                obtain ⟨z, z0, z1, rfl, hbl, hq⟩ := hrel
                have HB4 := Lib.hid hbl
                have HP4 := Lib.hid hq
                clear hq
                clear hbl
                obtain ⟨v4, hv4⟩ : ∃ v4 : World, v4 = wr := ⟨_, rfl⟩
                rw [← hv4] at HB4 HP4 ⊢
                clear hv4
                have gz : IntKind.u8.wrap (z + 1) = z + 1 := IntWalk.u8_in _ (by omega)
                by_cases hz : z < 4
                · go_wp2
                  go_loopw [41] (fun i wr => ∃ s : Int, 0 ≤ s ∧ s ≤ 13 ∧ i = .int .i64 s ∧ Below v4.heap.size v4 wr) (fun i _ => (13 - intOf i).toNat)
                  case atStart => exact ⟨0, by omega, by omega, rfl, Below.refl _ _⟩
                  case round =>
                    obtain ⟨s, s0, s1, rfl, hbl⟩ := hrel
                    have HB5 := Lib.hid hbl
                    clear hbl
                    obtain ⟨v5, hv5⟩ : ∃ v5 : World, v5 = wr := ⟨_, rfl⟩
                    rw [← hv5] at HB5 ⊢
                    clear hv5
                    have HP5 := Lib.hid (HP4.out.below HB5.out (Has.lt HP4.out))
                    by_cases hs : s < 13
                    · go_wp2
                      go_loopw [44] (fun i wr => ∃ f : Int, 0 ≤ f ∧ f ≤ 13 ∧ i = .int .i64 f ∧ Below v5.heap.size v5 wr) (fun i _ => (13 - intOf i).toNat)
                      case atStart => exact ⟨0, by omega, by omega, rfl, Below.refl _ _⟩
                      case round =>
                        obtain ⟨f, f0, f1, rfl, hbl⟩ := hrel
                        have HB6 := Lib.hid hbl
                        clear hbl
                        obtain ⟨v6, hv6⟩ : ∃ v6 : World, v6 = wr := ⟨_, rfl⟩
                        rw [← hv6] at HB6 ⊢
                        clear hv6
                        have HP6 := Lib.hid (HP5.out.below HB6.out (Has.lt HP5.out))
                        by_cases hf : f < 13
                        · go_wp2
                          go_loopw [64] (fun i wr => ∃ (k : Nat) (arr : Array Value), k ≤ 6 ∧ i = .int .i64 k ∧ Below v6.heap.size v6 wr ∧ Nums 6 arr ∧ Has wr v6.heap.size 3 arr) (fun i _ => 6 - (intOf i).toNat)
                          case atStart => exact ⟨0, _, by omega, rfl, (Below.refl v6.heap.size v6).alloc (Nat.le_refl _) _, nums6 _ _ _ _ _ _, Has.made v6 3 _⟩
                          case round =>
                            obtain ⟨k, arr, hk, rfl, hbl, hnum, hrow⟩ := hrel
                            have HB7 := Lib.hid hbl
                            have HN7 := Lib.hid hnum
                            have HR7 := Lib.hid hrow
                            clear hbl hnum hrow
                            obtain ⟨v7, hv7⟩ : ∃ v7 : World, v7 = wr := ⟨_, rfl⟩
                            rw [← hv7] at HB7 HR7 ⊢
                            clear hv7
                            have HP7 := Lib.hid (HP6.out.below HB7.out (Has.lt HP6.out))
                            by_cases hk6 : k < 6
                            · have d7 : decide ((k : Int) < 6) = true := by simp; omega
                              have f7 : decide (k < 6) = true := by simp; omega
                              obtain ⟨v, hv⟩ := HN7.out k hk6
                              have hv' : v7.cell? ⟨v6.heap.size, k, none⟩ = some (.int .i64 v) := (HR7.out.cell k).trans hv
                              have hp : ∀ i : Nat, v7.cell? ⟨v3.heap.size, i, none⟩ = #[.int .i64 x, .int .i64 y, .int .i64 u][i]? := HP7.out.cell
                              clear hv
                              go_wp2_with fail
                              refine (tells_any x y u z s f v _ z0).mono ?_
                              rintro e wn ⟨rfl, hb⟩
                              have HBn := Lib.hid hb
                              clear hb hp hv'
                              go_wp2
                              go_roundw
                              case rel => exact ⟨k + 1, arr, by omega, by go_num, HB7.out.trans (HBn.out.mono HB7.out.size), HN7.out, HR7.out.below HBn.out (Has.lt HR7.out)⟩
                              case measure => simp [intOf]; omega
                            · go_wp2
                              go_roundw
                              case rel => exact ⟨f + 1, by omega, by omega, by first | rfl | go_num, HB6.out.trans (HB7.out.mono HB6.out.size)⟩
                              case measure => simp [intOf]; omega
                        · go_wp2
                          go_roundw
                          case rel => exact ⟨s + 1, by omega, by omega, by first | rfl | go_num, HB5.out.trans (HB6.out.mono HB5.out.size)⟩
                          case measure => simp [intOf]; omega
                    · go_wp2
                      go_roundw
                      case rel => exact ⟨z + 1, by omega, by omega, by first | rfl | go_num, HB4.out.trans (HB5.out.mono HB4.out.size), HP4.out.below HB5.out (Has.lt HP4.out)⟩
                      case measure => simp [intOf]; omega
                · go_wp2
                  go_roundw
                  case rel => exact ⟨u + 1, by omega, by omega, by first | rfl | go_num, HB3.out.trans (HB4.out.mono HB3.out.size)⟩
                  case measure => simp [intOf]; omega
            · go_wp2
              go_roundw
              case rel => exact ⟨y + 1, by omega, by omega, by first | rfl | go_num, HB2.out.trans (HB3.out.mono HB2.out.size)⟩
              case measure => simp [intOf]; omega
        · go_wp2
          go_roundw
          case rel => exact ⟨x + 1, by omega, by omega, by first | rfl | go_num, HB1.out.trans (HB2.out.mono HB1.out.size)⟩
          case measure => simp [intOf]; omega
    · go_wp2
      go_loopw [85] (fun i wr => ∃ (k : Nat) (arr : Array Value), k ≤ 6 ∧ i = .int .i64 k ∧ Below v1.heap.size v1 wr ∧ Nums 6 arr ∧ Has wr v1.heap.size 3 arr) (fun i _ => 6 - (intOf i).toNat)
      case atStart => exact ⟨0, _, by omega, rfl, (Below.refl v1.heap.size v1).alloc (Nat.le_refl _) _, nums6 _ _ _ _ _ _, Has.made v1 3 _⟩
      case round =>
        obtain ⟨k8, arr8, hk8, rfl, hbl, hnum, hrow⟩ := hrel
        have HB8 := Lib.hid hbl
        have HN8 := Lib.hid hnum
        have HR8 := Lib.hid hrow
        clear hbl hnum hrow
        obtain ⟨v8, hv8⟩ : ∃ v8 : World, v8 = wr := ⟨_, rfl⟩
        rw [← hv8] at HB8 HR8 ⊢
        clear hv8
        by_cases hl8 : k8 < 6
        · obtain ⟨e, hv8⟩ := HN8.out k8 hl8
          have hc8 : v8.cell? ⟨v1.heap.size, k8, none⟩ = some (.int .i64 e) := (HR8.out.cell k8).trans hv8
          clear hv8
          have d8 : decide ((k8 : Int) < 6) = true := by simp; omega
          have f8 : decide (k8 < 6) = true := by simp; omega
          go_wp2
          go_loopw [94] (fun i wr => ∃ (k : Nat) (arr : Array Value), k ≤ 4 ∧ i = .int .i64 k ∧ Below v8.heap.size v8 wr ∧ Nums 4 arr ∧ Has wr v8.heap.size 3 arr) (fun i _ => 4 - (intOf i).toNat)
          case atStart => exact ⟨0, _, by omega, rfl, (Below.refl v8.heap.size v8).alloc (Nat.le_refl _) _, nums4 _ _ _ _, Has.made v8 3 _⟩
          case round =>
            obtain ⟨k9, arr9, hk9, rfl, hbl, hnum, hrow⟩ := hrel
            have HB9 := Lib.hid hbl
            have HN9 := Lib.hid hnum
            have HR9 := Lib.hid hrow
            clear hbl hnum hrow
            obtain ⟨v9, hv9⟩ : ∃ v9 : World, v9 = wr := ⟨_, rfl⟩
            rw [← hv9] at HB9 HR9 ⊢
            clear hv9
            by_cases hl9 : k9 < 4
            · obtain ⟨o, hv9⟩ := HN9.out k9 hl9
              have hc9 : v9.cell? ⟨v8.heap.size, k9, none⟩ = some (.int .i64 o) := (HR9.out.cell k9).trans hv9
              clear hv9
              have d9 : decide ((k9 : Int) < 4) = true := by simp; omega
              have f9 : decide (k9 < 4) = true := by simp; omega
              go_wp2
              go_loopw [103] (fun i wr => ∃ (k : Nat) (arr : Array Value), k ≤ 4 ∧ i = .int .i64 k ∧ Below v9.heap.size v9 wr ∧ Nums 4 arr ∧ Has wr v9.heap.size 3 arr) (fun i _ => 4 - (intOf i).toNat)
              case atStart => exact ⟨0, _, by omega, rfl, (Below.refl v9.heap.size v9).alloc (Nat.le_refl _) _, nums4 _ _ _ _, Has.made v9 3 _⟩
              case round =>
                obtain ⟨k10, arr10, hk10, rfl, hbl, hnum, hrow⟩ := hrel
                have HB10 := Lib.hid hbl
                have HN10 := Lib.hid hnum
                have HR10 := Lib.hid hrow
                clear hbl hnum hrow
                obtain ⟨v10, hv10⟩ : ∃ v10 : World, v10 = wr := ⟨_, rfl⟩
                rw [← hv10] at HB10 HR10 ⊢
                clear hv10
                by_cases hl10 : k10 < 4
                · obtain ⟨m, hv10⟩ := HN10.out k10 hl10
                  have hc10 : v10.cell? ⟨v9.heap.size, k10, none⟩ = some (.int .i64 m) := (HR10.out.cell k10).trans hv10
                  clear hv10
                  have d10 : decide ((k10 : Int) < 4) = true := by simp; omega
                  have f10 : decide (k10 < 4) = true := by simp; omega
                  go_wp2
                  go_loopw [109] (fun i wr => ∃ (k : Nat) (arr : Array Value), k ≤ 7 ∧ i = .int .i64 k ∧ Below v10.heap.size v10 wr ∧ Nums 7 arr ∧ Has wr v10.heap.size 3 arr) (fun i _ => 7 - (intOf i).toNat)
                  case atStart => exact ⟨0, _, by omega, rfl, (Below.refl v10.heap.size v10).alloc (Nat.le_refl _) _, nums7 _ _ _ _ _ _ _, Has.made v10 3 _⟩
                  case round =>
                    obtain ⟨k11, arr11, hk11, rfl, hbl, hnum, hrow⟩ := hrel
                    have HB11 := Lib.hid hbl
                    have HN11 := Lib.hid hnum
                    have HR11 := Lib.hid hrow
                    clear hbl hnum hrow
                    obtain ⟨v11, hv11⟩ : ∃ v11 : World, v11 = wr := ⟨_, rfl⟩
                    rw [← hv11] at HB11 HR11 ⊢
                    clear hv11
                    by_cases hl11 : k11 < 7
                    · obtain ⟨t, hv11⟩ := HN11.out k11 hl11
                      have hc11 : v11.cell? ⟨v10.heap.size, k11, none⟩ = some (.int .i64 t) := (HR11.out.cell k11).trans hv11
                      clear hv11
                      have d11 : decide ((k11 : Int) < 7) = true := by simp; omega
                      have f11 : decide (k11 < 7) = true := by simp; omega
                      go_wp2
                      go_loopw [127] (fun i wr => ∃ (k : Nat) (arr : Array Value), k ≤ 6 ∧ i = .int .i64 k ∧ Below v11.heap.size v11 wr ∧ Phs arr ∧ Has wr v11.heap.size 23 #[.int .i64 e, .int .i64 o, .int .i64 m] ∧ Has wr (v11.heap.size + 1) 25 arr) (fun i _ => 6 - (intOf i).toNat)
                      case atStart => exact ⟨0, _, by omega, rfl, ((Below.refl v11.heap.size v11).alloc (Nat.le_refl _) _).alloc (by simp) _, phs _ _, (Has.made v11 23 _).alloc _, made_at _ _ (by simp)⟩
                      case round =>
                        obtain ⟨k12, arr12, hk12, rfl, hbl, hnum, hpl, hrow⟩ := hrel
                        have HB12 := Lib.hid hbl
                        have HN12 := Lib.hid hnum
                        have HP12 := Lib.hid hpl
                        have HR12 := Lib.hid hrow
                        clear hbl hnum hpl hrow
                        obtain ⟨v12, hv12⟩ : ∃ v12 : World, v12 = wr := ⟨_, rfl⟩
                        rw [← hv12] at HB12 HP12 HR12 ⊢
                        clear hv12
                        by_cases hl12 : k12 < 6
                        · have d12 : decide ((k12 : Int) < 6) = true := by simp; omega
                          have f12 : decide (k12 < 6) = true := by simp; omega
                          obtain ⟨st, n, hv1, hv2, s0⟩ := HN12.out k12 hl12
                          have hc1 : v12.cell? ⟨v11.heap.size + 1, k12 * 2, none⟩ = some (.int .u8 st) := (HR12.out.cell _).trans hv1
                          have hc2 : v12.cell? ⟨v11.heap.size + 1, k12 * 2 + 1, none⟩ = some (.int .i64 n) := (HR12.out.cell _).trans hv2
                          have hp : ∀ i : Nat, v12.cell? ⟨v11.heap.size, i, none⟩ = #[.int .i64 e, .int .i64 o, .int .i64 m][i]? := HP12.out.cell
                          have hz : v11.heap.size < v12.heap.size := Has.lt HP12.out
                          have HS := Lib.hid (Has.made v12 25 #[.int .u8 st, .int .i64 n])
                          have HA := Lib.hid ((Below.refl v12.heap.size v12).alloc (Nat.le_refl _) (.cells #[.int .u8 st, .int .i64 n] 25))
                          clear hv1 hv2
                          go_wp2_with fail
                          refine (tells_any e o m st n t 281474976710656 _ s0).mono ?_
                          rintro x wn ⟨rfl, hb⟩
                          have HS1 := Lib.hid (HS.out.below hb (Has.lt HS.out))
                          have HBn := Lib.hid (HA.out.trans (hb.mono HA.out.size))
                          clear hb hp hc1 hc2 hz
                          have HPn := Lib.hid (HP12.out.below HBn.out (Has.lt HP12.out))
                          have hp : ∀ i : Nat, wn.cell? ⟨v11.heap.size, i, none⟩ = #[.int .i64 e, .int .i64 o, .int .i64 m][i]? := HPn.out.cell
                          have hs : ∀ i : Nat, wn.cell? ⟨v12.heap.size, i, none⟩ = #[.int .u8 st, .int .i64 n][i]? := HS1.out.cell
                          go_wp2_with fail
                          refine (tells_any e o m st n t t _ s0).mono ?_
                          rintro x wn2 ⟨rfl, hb⟩
                          have HBm := Lib.hid (HBn.out.trans (hb.mono HBn.out.size))
                          clear hb hp hs
                          go_wp2
                          go_roundw
                          case rel => exact ⟨k12 + 1, arr12, by omega, by go_num, HB12.out.trans (HBm.out.mono HB12.out.size), HN12.out, HP12.out.below HBm.out (Has.lt HP12.out), HR12.out.below HBm.out (Has.lt HR12.out)⟩
                          case measure => simp [intOf]; omega
                        · go_wp2
                          go_roundw
                          case rel => exact ⟨k11 + 1, arr11, by omega, by go_num, HB11.out.trans (HB12.out.mono HB11.out.size), HN11.out, HR11.out.below HB12.out (Has.lt HR11.out)⟩
                          case measure => simp [intOf]; omega
                    · go_wp2
                      go_roundw
                      case rel => exact ⟨k10 + 1, arr10, by omega, by go_num, HB10.out.trans (HB11.out.mono HB10.out.size), HN10.out, HR10.out.below HB11.out (Has.lt HR10.out)⟩
                      case measure => simp [intOf]; omega
                · go_wp2
                  go_roundw
                  case rel => exact ⟨k9 + 1, arr9, by omega, by go_num, HB9.out.trans (HB10.out.mono HB9.out.size), HN9.out, HR9.out.below HB10.out (Has.lt HR9.out)⟩
                  case measure => simp [intOf]; omega
            · go_wp2
              go_roundw
              case rel => exact ⟨k8 + 1, arr8, by omega, by go_num, HB8.out.trans (HB9.out.mono HB8.out.size), HN8.out, HR8.out.below HB9.out (Has.lt HR8.out)⟩
              case measure => simp [intOf]; omega
        · go_wp2_with fail
          refine (awake_any _).mono ?_
          rintro e wd ⟨rfl, hb⟩
          have HBd := Lib.hid ((HB1.out.trans (HB8.out.mono HB1.out.size)).trans (hb.mono (HB1.out.trans (HB8.out.mono HB1.out.size)).size))
          clear hb
          go_wp2
          go_ret
          exact ⟨rfl, HBd.out⟩
end Go.Proofs.Ytpgdogcgdlijeaa
