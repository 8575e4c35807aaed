/- DueWrong, walked. Conditions: numbers of their types. -/
import Derived.Test.YtpgdogcgdlijeaaLWrong0
import Derived.Test.YtpgdogcgdlijeaaLWrong1
import Derived.Test.YtpgdogcgdlijeaaLWrong2
import Derived.Test.YtpgdogcgdlijeaaLWrong3
import Derived.Test.YtpgdogcgdlijeaaLWrong4
import Derived.Test.YtpgdogcgdlijeaaLWrong5
namespace Go.Proofs.Ytpgdogcgdlijeaa
open Go.RowKit

theorem wrong_any (x y z h n : Int) (W : World) (hx : 0 ≤ x) (hy : 0 ≤ y) (hz : 0 ≤ z) (h0 : 0 ≤ h) (h255 : h ≤ 255) :
    Calls Try.prog 11 #[.int .u64 x, .int .u64 y, .int .u64 z, .int .u8 h, .int .i64 n] W fun v w' => v = .returned (.bool true) ∧ Below W.heap.size W w' := by
  have e : h.tmod 6 = h % 6 := Int.tmod_eq_emod_of_nonneg h0
  rcases (show h % 6 = 0 ∨ h % 6 = 1 ∨ h % 6 = 2 ∨ h % 6 = 3 ∨ h % 6 = 4 ∨ h % 6 = 5 by omega) with c | c | c | c | c | c
  · exact wrong_0 x y z h n W hx hy hz h0 h255 (e.trans c)
  · exact wrong_1 x y z h n W hx hy hz h0 h255 (e.trans c)
  · exact wrong_2 x y z h n W hx hy hz h0 h255 (e.trans c)
  · exact wrong_3 x y z h n W hx hy hz h0 h255 (e.trans c)
  · exact wrong_4 x y z h n W hx hy hz h0 h255 (e.trans c)
  · exact wrong_5 x y z h n W hx hy hz h0 h255 (e.trans c)
end Go.Proofs.Ytpgdogcgdlijeaa
