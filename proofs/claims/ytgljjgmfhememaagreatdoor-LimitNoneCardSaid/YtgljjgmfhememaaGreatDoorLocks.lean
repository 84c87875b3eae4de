/- The numbers under which this translation holds sync.Mutex's functions and types, and that it holds them. Conditions: none. -/
import Derived.Test.YtgljjgmfhememaaGreatDoorProg
import Derived.Conc.MuLone
import Derived.KernelRfl
namespace Go.Proofs.YtgljjgmfhememaaGreatDoor
open Go.Proofs
abbrev muLink : Go.Conc.Locks.MuLink := { lock := 141, unlock := 142, ilock := 189, iunlock := 190, lockSlow := 208, unlockSlow := 210, disable := 150, enable := 151, acquire := 164, relMerge := 149, cas32 := 207, add32 := 209, tMutex := 170, tIMutex := 168, tPMutex := 307, tPIMutex := 326, tPI32 := 328, tUP := 230, tNoCopy := 92, tU32 := 98 }
theorem muLib : Go.Conc.Locks.MuLib Tryz.prog muLink :=
  ⟨Tryz.func141, Tryz.func142, Tryz.func189, Tryz.func190, Tryz.func150, Tryz.func151, Tryz.func164, Tryz.func149, Tryz.func207, Tryz.func209,
   Tryz.underlying168, Tryz.runUnderlying168, Tryz.sizeOf168, Tryz.isAgg168, Tryz.zeroValue168,
   Tryz.underlying170, Tryz.runUnderlying170, Tryz.sizeOf170, Tryz.isAgg170, Tryz.zeroValue170,
   Tryz.underlying307, Tryz.runUnderlying307, Tryz.sizeOf307, Tryz.isAgg307, Tryz.zeroValue307,
   Tryz.underlying326, Tryz.runUnderlying326, Tryz.sizeOf326, Tryz.isAgg326, Tryz.zeroValue326,
   Tryz.underlying328, Tryz.runUnderlying328, Tryz.sizeOf328, Tryz.isAgg328, Tryz.zeroValue328,
   Tryz.underlying230, Tryz.runUnderlying230, Tryz.sizeOf230, Tryz.isAgg230, Tryz.zeroValue230,
   Tryz.underlying92, Tryz.runUnderlying92, Tryz.sizeOf92, Tryz.isAgg92, Tryz.zeroValue92,
   Tryz.underlying21, Tryz.runUnderlying21, Tryz.sizeOf21, Tryz.isAgg21, Tryz.zeroValue21, (by kernel_rfl)⟩
end Go.Proofs.YtgljjgmfhememaaGreatDoor
