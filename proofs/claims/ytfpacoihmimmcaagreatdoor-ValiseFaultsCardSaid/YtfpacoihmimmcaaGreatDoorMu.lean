/- The numbers under which this program holds sync.Mutex, and that it is the library's text. -/
import Derived.Test.YtfpacoihmimmcaaGreatDoorProg
import Derived.Conc.MuLone
import Derived.KernelRfl
namespace Go.Proofs.YtfpacoihmimmcaaGreatDoor.Mu
open Go
abbrev link : Go.Conc.Locks.MuLink := { lock := 23, unlock := 24, ilock := 34, iunlock := 35, lockSlow := 52, unlockSlow := 55, disable := 48, enable := 50, acquire := 51, relMerge := 53, cas32 := 49, add32 := 54, tMutex := 84, tIMutex := 82, tPMutex := 113, tPIMutex := 156, tPI32 := 158, tUP := 160, tNoCopy := 80, tU32 := 44 }
theorem lib : Go.Conc.Locks.MuLib Tryz.prog link :=
  ⟨Tryz.func23, Tryz.func24, Tryz.func34, Tryz.func35, Tryz.func48, Tryz.func50, Tryz.func51, Tryz.func53, Tryz.func49, Tryz.func54, Tryz.underlying82, (fun w => run_underlying Tryz.underlying82 w), (fun w => by kernel_rfl), (fun w => by kernel_rfl), (fun w => by kernel_rfl), Tryz.underlying84, (fun w => run_underlying Tryz.underlying84 w), (fun w => by kernel_rfl), (fun w => by kernel_rfl), (fun w => by kernel_rfl), Tryz.underlying113, (fun w => run_underlying Tryz.underlying113 w), (fun w => by kernel_rfl), (fun w => by kernel_rfl), (fun w => by kernel_rfl), Tryz.underlying156, (fun w => run_underlying Tryz.underlying156 w), (fun w => by kernel_rfl), (fun w => by kernel_rfl), (fun w => by kernel_rfl), Tryz.underlying158, (fun w => run_underlying Tryz.underlying158 w), (fun w => by kernel_rfl), (fun w => by kernel_rfl), (fun w => by kernel_rfl), Tryz.underlying160, (fun w => run_underlying Tryz.underlying160 w), (fun w => by kernel_rfl), (fun w => by kernel_rfl), (fun w => by kernel_rfl), Tryz.underlying80, (fun w => run_underlying Tryz.underlying80 w), (fun w => by kernel_rfl), (fun w => by kernel_rfl), (fun w => by kernel_rfl), Tryz.underlying21, (fun w => run_underlying Tryz.underlying21 w), (fun w => by kernel_rfl), (fun w => by kernel_rfl), (fun w => by kernel_rfl), (by kernel_rfl)⟩
end Go.Proofs.YtfpacoihmimmcaaGreatDoor.Mu
