import Derived.Test.YtlkhoaoodgebjaaGreatDoorLsWl0
import Derived.KernelRfl
namespace Go.Proofs.YtlkhoaoodgebjaaGreatDoor
open Go Go.LS
theorem Wl_c1 : RunsE lp 7 Wl_e1 := runsMTE TabOk.nil 900 (by kernel_rfl)
theorem Wl_c2 : RunsE lp 7 Wl_e2 := runsMTE TabOk.nil 900 (by kernel_rfl)
theorem Wl_c3 : RunsE lp 7 Wl_e3 := runsMTE TabOk.nil 900 (by kernel_rfl)
theorem Wl_c4 : RunsE lp 7 Wl_e4 := runsMTE TabOk.nil 900 (by kernel_rfl)
theorem Wl_c5 : RunsE lp 7 Wl_e5 := runsMTE TabOk.nil 900 (by kernel_rfl)
theorem Wl_c6 : RunsE lp 7 Wl_e6 := runsMTE TabOk.nil 900 (by kernel_rfl)
end Go.Proofs.YtlkhoaoodgebjaaGreatDoor
