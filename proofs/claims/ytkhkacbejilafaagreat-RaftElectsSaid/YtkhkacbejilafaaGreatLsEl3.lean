import Derived.Test.YtkhkacbejilafaaGreatLsEl0
import Derived.Test.YtkhkacbejilafaaGreatLsEl1
import Derived.Test.YtkhkacbejilafaaGreatLsEl2
import Derived.KernelRfl
namespace Go.Proofs.YtkhkacbejilafaaGreat
open Go Go.LS
theorem El_c33 : RunsE lp 106 El_e33 := runsMTE TabOk.nil 900 (by kernel_rfl)
theorem El_c34 : RunsE lp 46 El_e34 := runsMTE TabOk.nil 900 (by kernel_rfl)
theorem El_c35 : RunsE lp 46 El_e35 := runsMTE TabOk.nil 900 (by kernel_rfl)
theorem El_c36 : RunsE lp 46 El_e36 := runsMTE TabOk.nil 900 (by kernel_rfl)
theorem El_c37 : RunsE lp 16 El_e37 := runsMTE (TabOk.cons (RowOk.cons El_c10 RowOk.nil) TabOk.nil) 900 (by kernel_rfl)
theorem El_c38 : RunsE lp 16 El_e38 := runsMTE (TabOk.cons (RowOk.cons El_c26 RowOk.nil) TabOk.nil) 900 (by kernel_rfl)
theorem El_c39 : RunsE lp 102 El_e39 := runsMTE TabOk.nil 900 (by kernel_rfl)
theorem El_c40 : RunsE lp 77 El_e40 := runsMTE (TabOk.cons (RowOk.cons El_c39 RowOk.nil) TabOk.nil) 900 (by kernel_rfl)
theorem El_c41 : RunsE lp 77 El_e41 := runsMTE TabOk.nil 900 (by kernel_rfl)
theorem El_c42 : RunsE lp 77 El_e42 := runsMTE TabOk.nil 900 (by kernel_rfl)
theorem El_c43 : RunsE lp 35 El_e43 := runsMTE (TabOk.cons (RowOk.cons El_c37 (RowOk.cons El_c38 RowOk.nil)) (TabOk.cons (RowOk.cons El_c34 (RowOk.cons El_c35 (RowOk.cons El_c36 RowOk.nil))) (TabOk.cons (RowOk.cons El_c2 RowOk.nil) (TabOk.cons (RowOk.cons El_c12 (RowOk.cons El_c24 (RowOk.cons El_c40 (RowOk.cons El_c13 (RowOk.cons El_c25 (RowOk.cons El_c41 (RowOk.cons El_c42 RowOk.nil))))))) (TabOk.cons (RowOk.cons El_c33 RowOk.nil) TabOk.nil))))) 900 (by kernel_rfl)
theorem El_c44 : RunsE lp 35 El_e44 := runsMTE (TabOk.cons (RowOk.cons El_c10 (RowOk.cons El_c26 (RowOk.cons El_c42 RowOk.nil))) TabOk.nil) 900 (by kernel_rfl)
theorem El_c45 : RunsE lp 21 El_e45 := runsMTE (TabOk.cons (RowOk.cons El_c43 (RowOk.cons El_c44 RowOk.nil)) TabOk.nil) 900 (by kernel_rfl)
end Go.Proofs.YtkhkacbejilafaaGreat
