/- What the laws of the Ask share: the form of 'played', the cells of what happened, how a list of steps that came in opens. Conditions: none beyond each theorem's own premises. -/
import Derived.Test.YtdbknbgomcabbaaPlayed
import Derived.Test.YtdbknbgomcabbaaAwake
import Derived.Test.YtdbknbgomcabbaaArg
import Derived.IntWalk
namespace Go.Proofs.Ytdbknbgomcabbaa
open Go.ChangeShapes Go.WideShapes Go.ChangeAt Go.RowKit Go.Deep

theorem Try.cells53 : Try.prog.cellsOf 53 = 3 := by kernel_rfl

theorem smalls_of {H : Type} {enc : TypeId × Value → H} {W : World} {r : Reach} {b0 : Nat} {v : Value} {d : DataW H} {p : List MemPlace} (hv : Value.okWide Try.prog W r b0 45 v) (h : DataW.Trod enc Try.prog W 0 (fun _ => true) true 45 v d p) :
    ∃ (A : Option Addr) (m c : Nat) (xs : List Ak.Step), v = .slice A m c ∧ Smalls W W.heap.size A m c xs := by
  obtain ⟨A, m, c, rfl, hmc, hcm, hrow⟩ := open_rows Try.underlying45 Try.cells53 (by omega) hv h
  obtain ⟨xs, hl, hx⟩ := list_of (α := Ak.Step) (m := m)
    (p := fun i x => Ak.Fit x ∧ ∃ b off, A = some ⟨b, off, none⟩ ∧ b < W.heap.size ∧ W.cell? ⟨b, off + i * 3, none⟩ = some (.int .u32 x.1) ∧ W.cell? ⟨b, off + i * 3 + 1, none⟩ = some (.int .u8 x.2.1) ∧ W.cell? ⟨b, off + i * 3 + 2, none⟩ = some (.bool x.2.2)) (by
    intro i hi
    obtain ⟨b, off, cs, rfl, hb, hcl, hcell, n, y, htr⟩ := hrow i hi
    have hf := open_fields Try.underlying53 (by kernel_rfl) htr
    obtain ⟨u0, n0, y0, hu0, ht0⟩ := hf 0 _ rfl (by omega)
    obtain ⟨u1, n1, y1, hu1, ht1⟩ := hf 1 _ rfl (by omega)
    obtain ⟨u2, n2, y2, hu2, ht2⟩ := hf 2 _ rfl (by omega)
    obtain ⟨a, ha, _, wa⟩ := DataW.trod_int Try.underlying44 ht0
    obtain ⟨k, hk, _, wk⟩ := DataW.trod_int Try.underlying5 ht1
    obtain ⟨g, hg, _⟩ := DataW.trod_bool Try.underlying4 ht2
    obtain rfl : u0 = .int .u32 a := by simpa using ha
    obtain rfl : u1 = .int .u8 k := by simpa using hk
    obtain rfl : u2 = .bool g := by simpa using hg
    have ba := bounds_u32 wa
    have bk := bounds_u8 wk
    exact ⟨(a, k, g), ⟨ba.1, ba.2, bk.1, bk.2⟩, b, off, rfl, hb, (hcell 0 (by omega)).trans hu0, (hcell 1 (by omega)).trans hu1, (hcell 2 (by omega)).trans hu2⟩)
  refine ⟨A, m, c, xs, rfl, hl, hmc, hcm, fun x hxm => ?_, fun k hk => (hx k hk).2⟩
  obtain ⟨i, hi, rfl⟩ := List.getElem_of_mem hxm
  exact (hx i hi).1

theorem good_of {start wid : Int} (h0 : 0 ≤ start) (h1 : start ≤ 4294967295) (h2 : 0 ≤ wid) (h3 : wid ≤ 4294967295) (xs : List Ak.Step) (hx : ∀ x ∈ xs, Ak.Fit x) :
    Ak.Good start (1 + wid) 301 (Ak.lates (xs.take 150)) 700000000000 (Ak.after start (1 + wid) (xs.take 150)) := by
  have hl : (xs.take 150).length ≤ 150 := by simp; omega
  obtain ⟨k, hk⟩ : ∃ k, k = (xs.take 150).length := ⟨_, rfl⟩
  have := Ak.good_after start (1 + wid) h0 h1 (by omega) (by omega) (xs.take 150) (fun x hx' => hx x (List.mem_of_mem_take hx')) k (by omega) (by omega)
  rw [List.take_of_length_le (by omega)] at this
  obtain ⟨ok, stp, st, wd, clk, one, op, s1, s2, s3, s4, ev, len, rng⟩ := this
  exact ⟨ok.more (by omega), stp, st, wd, by omega, one, op, s1, s2, s3, s4, ev, by omega, fun y hy => by have := rng y hy; omega⟩

theorem own_form {w : World} {base : Nat} {e : TypeId} {size n : Nat} {v : Value} {xs : List Value} (h : w.ownsRow base e size v n xs) : ∃ A c, v = .slice A n c := by
  rcases h.2 with ⟨rfl, rfl⟩ | ⟨g, cap, cur, rfl, _⟩
  · exact ⟨none, 0, rfl⟩
  · exact ⟨_, cap, rfl⟩

/-- 'played', its list's value written out. -/
theorem played_form (start wid : Int) (A : Option Addr) (m c : Nat) (xs : List Ak.Step) (w : World) (h0 : 0 ≤ start) (h1 : start ≤ 4294967295) (h2 : 0 ≤ wid) (h3 : wid ≤ 4294967295) (hs : Smalls w w.heap.size A m c xs) :
    Calls Try.prog 20 #[.int .u32 start, .int .u32 wid, .slice A m c] w fun e w' => ∃ A' c', e = .returned (.tuple #[.pointer (some ⟨w.heap.size, 0, none⟩), .slice A' (Ak.after start (1 + wid) (xs.take 150)).out.length c', .bool true]) ∧
      Run w w' w.heap.size 1000 (Ak.after start (1 + wid) (xs.take 150)).st ∧ w'.ownsRow (w.heap.size + 1) 50 3 (.slice A' (Ak.after start (1 + wid) (xs.take 150)).out.length c') (Ak.after start (1 + wid) (xs.take 150)).out.length (outCells (Ak.after start (1 + wid) (xs.take 150)).out) :=
  (played_any start wid A m c xs w h0 h1 h2 h3 hs).mono fun _ _ ⟨v, he, hr, ho⟩ => by
    obtain ⟨A', c', rfl⟩ := own_form ho
    exact ⟨A', c', he, hr, ho⟩

theorem ite_min (a b : Int) : ∃ m : Int, (if a < b then a else b) = m ∧ m ≤ a ∧ m ≤ b := by
  refine ⟨_, rfl, ?_⟩
  split <;> omega
theorem ite_max (a b : Int) : ∃ m : Int, (if b < a then a else b) = m ∧ a ≤ m ∧ b ≤ m := by
  refine ⟨_, rfl, ?_⟩
  split <;> omega

theorem outCells_length (l : List (Int × Int × Bool)) : (outCells l).length = l.length * 3 := by
  induction l with
  | nil => rfl
  | cons x l ih => simp [outCells] at ih ⊢; omega
theorem outCells_get (l : List (Int × Int × Bool)) (i : Nat) (h : i < l.length) : (outCells l)[i * 3]? = some (.int .i64 l[i].1) ∧ (outCells l)[i * 3 + 1]? = some (.int .i64 l[i].2.1) ∧ (outCells l)[i * 3 + 2]? = some (.bool l[i].2.2) := by
  induction l generalizing i with
  | nil => simp at h
  | cons x l ih =>
    cases i with
    | zero => simp [outCells]
    | succ i =>
      have := ih i (by simpa using h)
      have e : outCells (x :: l) = [.int .i64 x.1, .int .i64 x.2.1, .bool x.2.2] ++ outCells l := by simp [outCells]
      rw [e]
      have e1 : ((i + 1) * 3) = i * 3 + 3 := by omega
      rw [e1]
      refine ⟨?_, ?_, ?_⟩
      · rw [List.getElem?_append_right (by simp)]; simpa using this.1
      · rw [List.getElem?_append_right (by simp)]; simpa using this.2.1
      · rw [List.getElem?_append_right (by simp)]; simpa using this.2.2

/-- The cells of the list of what happened. -/
theorem out_cells {w : World} {base : Nat} {A : Option Addr} {c : Nat} {l : List (Int × Int × Bool)} (h : w.ownsRow base 50 3 (.slice A l.length c) l.length (outCells l)) (i : Nat) (hi : i < l.length) :
    ∃ g, A = some ⟨g, 0, none⟩ ∧ g < w.heap.size ∧ ∀ j (hj : j < l.length), w.cell? ⟨g, j * 3, none⟩ = some (.int .i64 l[j].1) ∧ w.cell? ⟨g, j * 3 + 1, none⟩ = some (.int .i64 l[j].2.1) ∧ w.cell? ⟨g, j * 3 + 2, none⟩ = some (.bool l[j].2.2) := by
  rcases h.2 with ⟨_, h0⟩ | ⟨g, cap, cur, hv, hg, hh, hn, hcap, hsz, htake⟩
  · omega
  · have hA : A = some ⟨g, 0, none⟩ := by injection hv
    subst hA
    refine ⟨g, rfl, lt_of_block hh, fun j hj => ?_⟩
    have hc : ∀ q, q < l.length * 3 → w.cell? ⟨g, q, none⟩ = (outCells l)[q]? := by
      intro q hq
      rw [← htake, List.getElem?_take_of_lt hq]
      simp [World.cell?, hh]
    obtain ⟨a, b, d⟩ := outCells_get l j hj
    exact ⟨(hc _ (by omega)).trans a, (hc _ (by omega)).trans b, (hc _ (by omega)).trans d⟩
end Go.Proofs.Ytdbknbgomcabbaa
