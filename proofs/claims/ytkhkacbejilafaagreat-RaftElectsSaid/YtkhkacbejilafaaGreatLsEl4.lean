import Derived.Test.YtkhkacbejilafaaGreatLsEl0
import Derived.Test.YtkhkacbejilafaaGreatLsEl1
import Derived.Test.YtkhkacbejilafaaGreatLsEl2
import Derived.Test.YtkhkacbejilafaaGreatLsEl3
import Derived.KernelRfl
namespace Go.Proofs.YtkhkacbejilafaaGreat
open Go Go.LS
theorem El_c46 : RunsE lp 24 El_e46 := runsMTE (TabOk.cons (RowOk.cons El_c2 RowOk.nil) TabOk.nil) 900 (by kernel_rfl)
theorem El_c47 : RunsE lp 21 El_e47 := runsMTE TabOk.nil 900 (by kernel_rfl)
theorem El_c48 : RunsE lp 106 El_e48 := runsMTE TabOk.nil 900 (by kernel_rfl)
theorem El_c49 : RunsE lp 46 El_e49 := runsMTE TabOk.nil 900 (by kernel_rfl)
theorem El_c50 : RunsE lp 46 El_e50 := runsMTE TabOk.nil 900 (by kernel_rfl)
theorem El_c51 : RunsE lp 46 El_e51 := runsMTE TabOk.nil 900 (by kernel_rfl)
theorem El_c52 : RunsE lp 46 El_e52 := runsMTE TabOk.nil 900 (by kernel_rfl)
theorem El_c53 : RunsE lp 16 El_e53 := runsMTE (TabOk.cons (RowOk.cons El_c10 RowOk.nil) TabOk.nil) 900 (by kernel_rfl)
theorem El_c54 : RunsE lp 16 El_e54 := runsMTE (TabOk.cons (RowOk.cons El_c26 RowOk.nil) TabOk.nil) 900 (by kernel_rfl)
theorem El_c55 : RunsE lp 77 El_e55 := runsMTE TabOk.nil 900 (by kernel_rfl)
theorem El_c56 : RunsE lp 77 El_e56 := runsMTE TabOk.nil 900 (by kernel_rfl)
theorem El_c57 : RunsE lp 102 El_e57 := runsMTE TabOk.nil 900 (by kernel_rfl)
theorem El_c58 : RunsE lp 77 El_e58 := runsMTE (TabOk.cons (RowOk.cons El_c57 RowOk.nil) TabOk.nil) 900 (by kernel_rfl)
theorem El_c59 : RunsE lp 35 El_e59 := runsMTE (TabOk.cons (RowOk.cons El_c53 (RowOk.cons El_c54 RowOk.nil)) (TabOk.cons (RowOk.cons El_c49 (RowOk.cons El_c50 (RowOk.cons El_c51 (RowOk.cons El_c52 RowOk.nil)))) (TabOk.cons (RowOk.cons El_c2 RowOk.nil) (TabOk.cons (RowOk.cons El_c12 (RowOk.cons El_c24 (RowOk.cons El_c40 (RowOk.cons El_c58 (RowOk.cons El_c13 (RowOk.cons El_c25 (RowOk.cons El_c41 (RowOk.cons El_c56 (RowOk.cons El_c42 (RowOk.cons El_c55 RowOk.nil)))))))))) (TabOk.cons (RowOk.cons El_c48 RowOk.nil) TabOk.nil))))) 900 (by kernel_rfl)
end Go.Proofs.YtkhkacbejilafaaGreat
