import Derived.Test.YtkhkacbejilafaaGreatLsEl0
import Derived.Test.YtkhkacbejilafaaGreatLsEl1
import Derived.Test.YtkhkacbejilafaaGreatLsEl2
import Derived.Test.YtkhkacbejilafaaGreatLsEl3
import Derived.Test.YtkhkacbejilafaaGreatLsEl4
import Derived.KernelRfl
namespace Go.Proofs.YtkhkacbejilafaaGreat
open Go Go.LS
theorem El_c64 : RunsE lp 40 El_e64 := runsMTE TabOk.nil 900 (by kernel_rfl)
theorem El_c65 : RunsE lp 106 El_e65 := runsMTE TabOk.nil 900 (by kernel_rfl)
theorem El_c66 : RunsE lp 46 El_e66 := runsMTE TabOk.nil 900 (by kernel_rfl)
theorem El_c67 : RunsE lp 46 El_e67 := runsMTE TabOk.nil 900 (by kernel_rfl)
theorem El_c68 : RunsE lp 46 El_e68 := runsMTE TabOk.nil 900 (by kernel_rfl)
theorem El_c69 : RunsE lp 46 El_e69 := runsMTE TabOk.nil 900 (by kernel_rfl)
theorem El_c70 : RunsE lp 46 El_e70 := runsMTE TabOk.nil 900 (by kernel_rfl)
theorem El_c71 : RunsE lp 16 El_e71 := runsMTE (TabOk.cons (RowOk.cons El_c10 RowOk.nil) TabOk.nil) 900 (by kernel_rfl)
theorem El_c72 : RunsE lp 16 El_e72 := runsMTE (TabOk.cons (RowOk.cons El_c26 RowOk.nil) TabOk.nil) 900 (by kernel_rfl)
theorem El_c73 : RunsE lp 102 El_e73 := runsMTE TabOk.nil 900 (by kernel_rfl)
theorem El_c74 : RunsE lp 77 El_e74 := runsMTE (TabOk.cons (RowOk.cons El_c73 RowOk.nil) TabOk.nil) 900 (by kernel_rfl)
theorem El_c75 : RunsE lp 102 El_e75 := runsMTE TabOk.nil 900 (by kernel_rfl)
theorem El_c76 : RunsE lp 77 El_e76 := runsMTE (TabOk.cons (RowOk.cons El_c75 RowOk.nil) TabOk.nil) 900 (by kernel_rfl)
theorem El_c77 : RunsE lp 102 El_e77 := runsMTE TabOk.nil 900 (by kernel_rfl)
theorem El_c78 : RunsE lp 77 El_e78 := runsMTE (TabOk.cons (RowOk.cons El_c77 RowOk.nil) TabOk.nil) 900 (by kernel_rfl)
theorem El_c79 : RunsE lp 16 El_e79 := runsMTE (TabOk.cons (RowOk.cons El_c42 RowOk.nil) TabOk.nil) 900 (by kernel_rfl)
theorem El_c80 : RunsE lp 16 El_e80 := runsMTE (TabOk.cons (RowOk.cons El_c66 RowOk.nil) (TabOk.cons (RowOk.cons El_c2 RowOk.nil) TabOk.nil)) 900 (by kernel_rfl)
theorem El_c81 : RunsE lp 35 El_e81 := runsMTE (TabOk.cons (RowOk.cons El_c80 (RowOk.cons El_c71 (RowOk.cons El_c72 (RowOk.cons El_c79 RowOk.nil)))) (TabOk.cons (RowOk.cons El_c67 (RowOk.cons El_c68 (RowOk.cons El_c69 (RowOk.cons El_c70 RowOk.nil)))) (TabOk.cons (RowOk.cons El_c2 RowOk.nil) (TabOk.cons (RowOk.cons El_c12 (RowOk.cons El_c24 (RowOk.cons El_c40 (RowOk.cons El_c58 (RowOk.cons El_c78 (RowOk.cons El_c13 (RowOk.cons El_c25 (RowOk.cons El_c41 (RowOk.cons El_c56 (RowOk.cons El_c76 (RowOk.cons El_c55 (RowOk.cons El_c74 RowOk.nil)))))))))))) (TabOk.cons (RowOk.cons El_c65 RowOk.nil) TabOk.nil))))) 900 (by kernel_rfl)
theorem El_c82 : RunsE lp 35 El_e82 := runsMTE (TabOk.cons (RowOk.cons El_c10 (RowOk.cons El_c26 (RowOk.cons El_c42 (RowOk.cons El_c55 (RowOk.cons El_c74 RowOk.nil))))) TabOk.nil) 900 (by kernel_rfl)
end Go.Proofs.YtkhkacbejilafaaGreat
