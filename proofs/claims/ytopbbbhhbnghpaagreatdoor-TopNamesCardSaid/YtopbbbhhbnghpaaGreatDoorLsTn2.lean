import Derived.Test.YtopbbbhhbnghpaaGreatDoorLsTn0
import Derived.Test.YtopbbbhhbnghpaaGreatDoorLsTn1
import Derived.KernelRfl
namespace Go.Proofs.YtopbbbhhbnghpaaGreatDoor
open Go Go.LS
theorem Tn_c10 : RunsE lp 49 Tn_e10 := runsMTE TabOk.nil 900 (by kernel_rfl)
theorem Tn_c11 : RunsE lp 49 Tn_e11 := runsMTE TabOk.nil 900 (by kernel_rfl)
theorem Tn_c12 : RunsE lp 49 Tn_e12 := runsMTE TabOk.nil 900 (by kernel_rfl)
theorem Tn_c13 : RunsE lp 49 Tn_e13 := runsMTE TabOk.nil 900 (by kernel_rfl)
theorem Tn_c14 : RunsE lp 26 Tn_e14 := runsMTE (TabOk.cons (RowOk.cons Tn_c9 (RowOk.cons Tn_c10 (RowOk.cons Tn_c11 (RowOk.cons Tn_c12 (RowOk.cons Tn_c13 RowOk.nil))))) (TabOk.cons (RowOk.cons Tn_c8 RowOk.nil) (TabOk.cons (RowOk.cons Tn_c4 RowOk.nil) TabOk.nil))) 900 (by kernel_rfl)
theorem Tn_c15 : RunsE lp 128 Tn_e15 := runsMTE TabOk.nil 900 (by kernel_rfl)
theorem Tn_c16 : RunsE lp 71 Tn_e16 := runsMTE TabOk.nil 900 (by kernel_rfl)
theorem Tn_c17 : RunsE lp 415 Tn_e17 := runsMTE (TabOk.cons (RowOk.cons Tn_c16 RowOk.nil) TabOk.nil) 900 (by kernel_rfl)
theorem Tn_c18 : RunsE lp 244 Tn_e18 := runsMTE (TabOk.cons (RowOk.cons Tn_c16 RowOk.nil) (TabOk.cons (RowOk.cons Tn_c15 RowOk.nil) (TabOk.cons (RowOk.cons Tn_c17 RowOk.nil) TabOk.nil))) 900 (by kernel_rfl)
end Go.Proofs.YtopbbbhhbnghpaaGreatDoor
