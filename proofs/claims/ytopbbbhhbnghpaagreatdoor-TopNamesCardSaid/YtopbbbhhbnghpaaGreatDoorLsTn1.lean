import Derived.Test.YtopbbbhhbnghpaaGreatDoorLsTn0
import Derived.KernelRfl
namespace Go.Proofs.YtopbbbhhbnghpaaGreatDoor
open Go Go.LS
theorem Tn_c1 : RunsE lp 84 Tn_e1 := runsMTE TabOk.nil 900 (by kernel_rfl)
theorem Tn_c2 : RunsE lp 402 Tn_e2 := runsMTE TabOk.nil 900 (by kernel_rfl)
theorem Tn_c3 : RunsE lp 407 Tn_e3 := runsMTE TabOk.nil 900 (by kernel_rfl)
theorem Tn_c4 : RunsE lp 244 Tn_e4 := runsMTE (TabOk.cons (RowOk.cons Tn_c2 RowOk.nil) (TabOk.cons (RowOk.cons Tn_c3 RowOk.nil) TabOk.nil)) 900 (by kernel_rfl)
theorem Tn_c5 : RunsE lp 485 Tn_e5 := runsMTE TabOk.nil 900 (by kernel_rfl)
theorem Tn_c6 : RunsE lp 413 Tn_e6 := runsMTE (TabOk.cons (RowOk.cons Tn_c5 RowOk.nil) TabOk.nil) 900 (by kernel_rfl)
theorem Tn_c7 : RunsE lp 318 Tn_e7 := runsMTE (TabOk.cons (RowOk.cons Tn_c6 RowOk.nil) TabOk.nil) 900 (by kernel_rfl)
theorem Tn_c8 : RunsE lp 229 Tn_e8 := runsMTE (TabOk.cons (RowOk.cons Tn_c7 RowOk.nil) TabOk.nil) 900 (by kernel_rfl)
theorem Tn_c9 : RunsE lp 49 Tn_e9 := runsMTE TabOk.nil 900 (by kernel_rfl)
end Go.Proofs.YtopbbbhhbnghpaaGreatDoor
