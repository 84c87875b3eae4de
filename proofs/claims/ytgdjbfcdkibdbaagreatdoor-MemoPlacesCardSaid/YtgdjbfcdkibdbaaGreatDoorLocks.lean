/- The numbers under which this translation holds sync.Mutex's functions and types, and that it holds them. Conditions: none. -/
import Derived.Test.YtgdjbfcdkibdbaaGreatDoorProg
import Derived.Conc.MuLone
import Derived.KernelRfl
namespace Go.Proofs.YtgdjbfcdkibdbaaGreatDoor
open Go.Proofs
abbrev muLink : Go.Conc.Locks.MuLink := { lock := 154, unlock := 155, ilock := 195, iunlock := 196, lockSlow := 208, unlockSlow := 210, disable := 166, enable := 167, acquire := 178, relMerge := 165, cas32 := 207, add32 := 209, tMutex := 176, tIMutex := 174, tPMutex := 292, tPIMutex := 305, tPI32 := 307, tUP := 222, tNoCopy := 112, tU32 := 116 }
theorem muLib : Go.Conc.Locks.MuLib Tryz.prog muLink :=
  ⟨Tryz.func154, Tryz.func155, Tryz.func195, Tryz.func196, Tryz.func166, Tryz.func167, Tryz.func178, Tryz.func165, Tryz.func207, Tryz.func209,
   Tryz.underlying174, Tryz.runUnderlying174, Tryz.sizeOf174, Tryz.isAgg174, Tryz.zeroValue174,
   Tryz.underlying176, Tryz.runUnderlying176, Tryz.sizeOf176, Tryz.isAgg176, Tryz.zeroValue176,
   Tryz.underlying292, Tryz.runUnderlying292, Tryz.sizeOf292, Tryz.isAgg292, Tryz.zeroValue292,
   Tryz.underlying305, Tryz.runUnderlying305, Tryz.sizeOf305, Tryz.isAgg305, Tryz.zeroValue305,
   Tryz.underlying307, Tryz.runUnderlying307, Tryz.sizeOf307, Tryz.isAgg307, Tryz.zeroValue307,
   Tryz.underlying222, Tryz.runUnderlying222, Tryz.sizeOf222, Tryz.isAgg222, Tryz.zeroValue222,
   Tryz.underlying112, Tryz.runUnderlying112, Tryz.sizeOf112, Tryz.isAgg112, Tryz.zeroValue112,
   Tryz.underlying21, Tryz.runUnderlying21, Tryz.sizeOf21, Tryz.isAgg21, Tryz.zeroValue21, (by kernel_rfl)⟩
end Go.Proofs.YtgdjbfcdkibdbaaGreatDoor
