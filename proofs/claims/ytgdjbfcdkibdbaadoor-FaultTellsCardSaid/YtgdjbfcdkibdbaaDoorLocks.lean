/- The numbers under which this translation holds sync.Mutex's functions and types, and that it holds them. Conditions: none. -/
import Derived.Test.YtgdjbfcdkibdbaaDoorProg
import Derived.Conc.MuLone
import Derived.KernelRfl
namespace Go.Proofs.YtgdjbfcdkibdbaaDoor
open Go.Proofs
abbrev muLink : Go.Conc.Locks.MuLink := { lock := 114, unlock := 115, ilock := 122, iunlock := 123, lockSlow := 133, unlockSlow := 136, disable := 129, enable := 131, acquire := 132, relMerge := 134, cas32 := 130, add32 := 135, tMutex := 160, tIMutex := 158, tPMutex := 213, tPIMutex := 221, tPI32 := 223, tUP := 131, tNoCopy := 155, tU32 := 156 }
theorem muLib : Go.Conc.Locks.MuLib Tryd.prog muLink :=
  ⟨Tryd.func114, Tryd.func115, Tryd.func122, Tryd.func123, Tryd.func129, Tryd.func131, Tryd.func132, Tryd.func134, Tryd.func130, Tryd.func135,
   Tryd.underlying158, Tryd.runUnderlying158, Tryd.sizeOf158, Tryd.isAgg158, Tryd.zeroValue158,
   Tryd.underlying160, Tryd.runUnderlying160, Tryd.sizeOf160, Tryd.isAgg160, Tryd.zeroValue160,
   Tryd.underlying213, Tryd.runUnderlying213, Tryd.sizeOf213, Tryd.isAgg213, Tryd.zeroValue213,
   Tryd.underlying221, Tryd.runUnderlying221, Tryd.sizeOf221, Tryd.isAgg221, Tryd.zeroValue221,
   Tryd.underlying223, Tryd.runUnderlying223, Tryd.sizeOf223, Tryd.isAgg223, Tryd.zeroValue223,
   Tryd.underlying131, Tryd.runUnderlying131, Tryd.sizeOf131, Tryd.isAgg131, Tryd.zeroValue131,
   Tryd.underlying155, Tryd.runUnderlying155, Tryd.sizeOf155, Tryd.isAgg155, Tryd.zeroValue155,
   Tryd.underlying21, Tryd.runUnderlying21, Tryd.sizeOf21, Tryd.isAgg21, Tryd.zeroValue21, (by kernel_rfl)⟩
end Go.Proofs.YtgdjbfcdkibdbaaDoor
