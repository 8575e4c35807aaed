/- DueWrong: the given statement, proved: the call returns true for every input, and each argument reads as it did. Conditions: none beyond the statement itself. -/
import Derived.Test.YtpgdogcgdlijeaaArg
import Derived.Test.YtpgdogcgdlijeaaLWrongs
namespace Go.Proofs.Ytpgdogcgdlijeaa
open Go.ChangeShapes Go.WideShapes Go.ChangeAt Go.RowKit Go.Deep

set_option maxRecDepth 100000 in
theorem dueWrong_lifted (os : Os) (started : os.Started) (H : Type) (enc : TypeId × Value → H) :
    ReturnsInHanded {} Try.checked os 11 .any (Rows.dueWrongSpec.pre6 enc Try.prog Try.f11 Rows.dueWrongRow.domain false) (Rows.dueWrongSpec.post enc Try.prog Try.f11 false true false false) := by
  refine returnsInHanded_of_change (C := Try.checked) Try.own started (by kernel_rfl) Try.func11
    (ChangeSpec.witness6 (enc := enc) (C := Try.checked) false ⟨#[], #[.int .u64 0, .int .u64 0, .int .u64 0, .int .u8 0, .int .i64 0], []⟩ 8 (by kernel_rfl) (by kernel_rfl) (by kernel_rfl) (by kernel_rfl)) ?_
  intro W base args ds gs before hval0 hW _ _
  have hval : ∀ (j : Nat) t v, Try.f11.params[j]? = some t → args[j]? = some v → Value.okWide Try.prog W .any base t v := hval0
  have hW' := hW
  obtain ⟨p, q, hA0, hV, rfl, _, _⟩ := hW
  have hA : DataW.TrodAll enc Try.prog W 0 (fun _ => true) true Try.f11.params.toList args.toList ds p := hA0
  rw [Try.params11] at hA hval
  obtain ⟨v0, vs0, d0, ds0, p0, q0, hg0, rfl, hp0, h0, r0⟩ := trodAll_cons hA
  obtain ⟨v1, vs1, d1, ds1, p1, q1, hg1, rfl, hp1, h1, r1⟩ := trodAll_cons r0
  obtain ⟨v2, vs2, d2, ds2, p2, q2, hg2, rfl, hp2, h2, r2⟩ := trodAll_cons r1
  obtain ⟨v3, vs3, d3, ds3, p3, q3, hg3, rfl, hp3, h3, r3⟩ := trodAll_cons r2
  obtain ⟨v4, vs4, d4, ds4, p4, q4, hg4, rfl, hp4, h4, r4⟩ := trodAll_cons r3
  obtain ⟨hg5, rfl, _⟩ := trodAll_nil r4
  obtain rfl : args = #[v0, v1, v2, v3, v4] := by cases args; simp_all
  obtain ⟨rfl, rfl⟩ := trodVars_none hV
  clear hA0 hval0
  simp only [List.append_nil] at hW'
  have hlt : ∀ x ∈ p, x.block < W.heap.size := fun x hx => by simpa using hW'.lt x hx
  have hback : ∀ W1 : World, Below W.heap.size W W1 → DataW.TrodAll enc Try.prog W1 0 (fun b => decide (b < W.heap.size)) true [28, 28, 28, 5, 3] [v0, v1, v2, v3, v4] [d0, d1, d2, d3, d4] p := fun W1 hb =>
    args_below Try.laidOut hb _ _ _ _ (by
      intro t ht
      simp only [List.mem_cons, List.not_mem_nil, or_false] at ht
      rcases ht with rfl | rfl | rfl | rfl | rfl <;> exact ⟨by kernel_rfl, of_decide_eq_true (by kernel_rfl)⟩) hA hlt
  clear hA
  obtain ⟨x, rfl, _, _, wn0⟩ := open_int Try.underlying28 (hval 0 28 v0 rfl rfl) h0
  have hn0 := bounds_u64 wn0
  obtain ⟨y, rfl, _, _, wn1⟩ := open_int Try.underlying28 (hval 1 28 v1 rfl rfl) h1
  have hn1 := bounds_u64 wn1
  obtain ⟨z, rfl, _, _, wn2⟩ := open_int Try.underlying28 (hval 2 28 v2 rfl rfl) h2
  have hn2 := bounds_u64 wn2
  obtain ⟨h, rfl, _, _, wn3⟩ := open_int Try.underlying5 (hval 3 5 v3 rfl rfl) h3
  have hn3 := bounds_u8 wn3
  obtain ⟨n, rfl, _, _, _⟩ := open_int Try.underlying3 (hval 4 3 v4 rfl rfl) h4
  refine (wrong_any x y z h n W hn0.1 hn1.1 hn2.1 hn3.1 hn3.2).mono fun e W1 ⟨he, hb⟩ => ?_
  subst he
  refine ⟨_, rfl, _, _, _, [], p, [], hW', trodAll_mk1 (shut_bool Try.underlying4 true), ?_, rfl, hb.frame _, fun h => by cases h⟩
  rw [Try.params11]
  exact hback W1 hb

theorem dueWrong_holds : Rows.DueWrongSaid :=
  OpenClaim.holds_of_wide 11 Try.f11 rfl rfl rfl rfl rfl rfl rfl ⟨rfl, rfl, rfl, rfl, rfl⟩ rfl rfl rfl rfl rfl (by kernel_rfl) Try.func11 (by kernel_rfl)
    (of_decide_eq_true (by kernel_rfl)) (by unfold Func.isWrapper; rw [if_neg (by decide +kernel)]; exact ⟨rfl, rfl⟩)
    (fun os started H enc _ => dueWrong_lifted os started H enc)

#print axioms dueWrong_holds
end Go.Proofs.Ytpgdogcgdlijeaa
