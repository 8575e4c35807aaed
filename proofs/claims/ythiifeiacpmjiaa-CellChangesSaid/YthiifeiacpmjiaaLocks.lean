/- The numbers under which this translation holds sync.Mutex's functions and types, and that it holds them. Conditions: none. -/
import Derived.Test.YthiifeiacpmjiaaRows
import Derived.Conc.MuLone
import Derived.KernelRfl
namespace Go.Proofs.Ythiifeiacpmjiaa

abbrev Try.muLink : Go.Conc.Locks.MuLink := { lock := 37, unlock := 38, ilock := 46, iunlock := 47, lockSlow := 52, unlockSlow := 55, disable := 48, enable := 50, acquire := 51, relMerge := 53, cas32 := 49, add32 := 54, tMutex := 46, tIMutex := 44, tPMutex := 75, tPIMutex := 76, tPI32 := 78, tUP := 80, tNoCopy := 41, tU32 := 42 }
theorem Try.muLib : Go.Conc.Locks.MuLib Try.prog Try.muLink :=
  ⟨Try.func37, Try.func38, Try.func46, Try.func47, Try.func48, Try.func50, Try.func51, Try.func53, Try.func49, Try.func54, Try.underlying44, Try.runUnderlying44, Try.sizeOf44, Try.isAgg44, Try.zeroValue44, Try.underlying46, Try.runUnderlying46, Try.sizeOf46, Try.isAgg46, Try.zeroValue46, Try.underlying75, Try.runUnderlying75, Try.sizeOf75, Try.isAgg75, Try.zeroValue75, Try.underlying76, Try.runUnderlying76, Try.sizeOf76, Try.isAgg76, Try.zeroValue76, Try.underlying78, Try.runUnderlying78, Try.sizeOf78, Try.isAgg78, Try.zeroValue78, Try.underlying80, Try.runUnderlying80, Try.sizeOf80, Try.isAgg80, Try.zeroValue80, Try.underlying41, Try.runUnderlying41, Try.sizeOf41, Try.isAgg41, Try.zeroValue41, Try.underlying21, Try.runUnderlying21, Try.sizeOf21, Try.isAgg21, Try.zeroValue21, (by kernel_rfl)⟩
end Go.Proofs.Ythiifeiacpmjiaa
