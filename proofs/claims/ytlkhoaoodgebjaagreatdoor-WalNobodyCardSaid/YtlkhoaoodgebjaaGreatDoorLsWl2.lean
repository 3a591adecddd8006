import Derived.Test.YtlkhoaoodgebjaaGreatDoorLsWl0
import Derived.Test.YtlkhoaoodgebjaaGreatDoorLsWl1
import Derived.KernelRfl
namespace Go.Proofs.YtlkhoaoodgebjaaGreatDoor
open Go Go.LS
theorem Wl_c7 : RunsE lp 7 Wl_e7 := runsMTE TabOk.nil 900 (by kernel_rfl)
theorem Wl_c8 : RunsE lp 7 Wl_e8 := runsMTE TabOk.nil 900 (by kernel_rfl)
theorem Wl_c9 : RunsE lp 7 Wl_e9 := runsMTE TabOk.nil 900 (by kernel_rfl)
theorem Wl_c10 : RunsE lp 14 Wl_e10 := runsMTE TabOk.nil 900 (by kernel_rfl)
theorem wl8 : Runs lp 8 [] [] (bT, []) := runsMT (TabOk.cons (RowOk.cons Wl_c1 (RowOk.cons Wl_c2 (RowOk.cons Wl_c3 (RowOk.cons Wl_c4 (RowOk.cons Wl_c5 (RowOk.cons Wl_c6 (RowOk.cons Wl_c7 (RowOk.cons Wl_c8 (RowOk.cons Wl_c9 RowOk.nil))))))))) (TabOk.cons (RowOk.cons Wl_c10 RowOk.nil) TabOk.nil)) 900 (by kernel_rfl)
end Go.Proofs.YtlkhoaoodgebjaaGreatDoor
