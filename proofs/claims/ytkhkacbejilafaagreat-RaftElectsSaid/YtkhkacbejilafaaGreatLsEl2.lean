import Derived.Test.YtkhkacbejilafaaGreatLsEl0
import Derived.Test.YtkhkacbejilafaaGreatLsEl1
import Derived.KernelRfl
namespace Go.Proofs.YtkhkacbejilafaaGreat
open Go Go.LS
theorem El_c19 : RunsE lp 106 El_e19 := runsMTE TabOk.nil 900 (by kernel_rfl)
theorem El_c20 : RunsE lp 46 El_e20 := runsMTE TabOk.nil 900 (by kernel_rfl)
theorem El_c21 : RunsE lp 46 El_e21 := runsMTE TabOk.nil 900 (by kernel_rfl)
theorem El_c22 : RunsE lp 16 El_e22 := runsMTE (TabOk.cons (RowOk.cons El_c10 RowOk.nil) TabOk.nil) 900 (by kernel_rfl)
theorem El_c23 : RunsE lp 102 El_e23 := runsMTE TabOk.nil 900 (by kernel_rfl)
theorem El_c24 : RunsE lp 77 El_e24 := runsMTE (TabOk.cons (RowOk.cons El_c23 RowOk.nil) TabOk.nil) 900 (by kernel_rfl)
theorem El_c25 : RunsE lp 77 El_e25 := runsMTE TabOk.nil 900 (by kernel_rfl)
theorem El_c26 : RunsE lp 77 El_e26 := runsMTE TabOk.nil 900 (by kernel_rfl)
theorem El_c27 : RunsE lp 35 El_e27 := runsMTE (TabOk.cons (RowOk.cons El_c22 RowOk.nil) (TabOk.cons (RowOk.cons El_c20 (RowOk.cons El_c21 RowOk.nil)) (TabOk.cons (RowOk.cons El_c2 RowOk.nil) (TabOk.cons (RowOk.cons El_c12 (RowOk.cons El_c24 (RowOk.cons El_c13 (RowOk.cons El_c25 (RowOk.cons El_c26 RowOk.nil))))) (TabOk.cons (RowOk.cons El_c19 RowOk.nil) TabOk.nil))))) 900 (by kernel_rfl)
theorem El_c28 : RunsE lp 16 El_e28 := runsMTE TabOk.nil 900 (by kernel_rfl)
theorem El_c29 : RunsE lp 16 El_e29 := runsMTE TabOk.nil 900 (by kernel_rfl)
theorem El_c30 : RunsE lp 21 El_e30 := runsMTE (TabOk.cons (RowOk.cons El_c28 (RowOk.cons El_c29 RowOk.nil)) (TabOk.cons (RowOk.cons El_c27 RowOk.nil) (TabOk.cons (RowOk.cons El_c10 (RowOk.cons El_c26 RowOk.nil)) TabOk.nil))) 900 (by kernel_rfl)
theorem El_c31 : RunsE lp 24 El_e31 := runsMTE (TabOk.cons (RowOk.cons El_c2 RowOk.nil) TabOk.nil) 900 (by kernel_rfl)
theorem El_c32 : RunsE lp 21 El_e32 := runsMTE TabOk.nil 900 (by kernel_rfl)
end Go.Proofs.YtkhkacbejilafaaGreat
