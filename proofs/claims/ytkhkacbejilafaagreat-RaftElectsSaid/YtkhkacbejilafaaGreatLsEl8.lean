import Derived.Test.YtkhkacbejilafaaGreatLsEl0
import Derived.Test.YtkhkacbejilafaaGreatLsEl1
import Derived.Test.YtkhkacbejilafaaGreatLsEl2
import Derived.Test.YtkhkacbejilafaaGreatLsEl3
import Derived.Test.YtkhkacbejilafaaGreatLsEl4
import Derived.Test.YtkhkacbejilafaaGreatLsEl6
import Derived.Test.YtkhkacbejilafaaGreatLsEl7
import Derived.KernelRfl
namespace Go.Proofs.YtkhkacbejilafaaGreat
open Go Go.LS
theorem El_c93 : RunsE lp 16 El_e93 := runsMTE (TabOk.cons (RowOk.cons El_c10 RowOk.nil) TabOk.nil) 900 (by kernel_rfl)
theorem El_c94 : RunsE lp 16 El_e94 := runsMTE (TabOk.cons (RowOk.cons El_c26 RowOk.nil) TabOk.nil) 900 (by kernel_rfl)
theorem El_c95 : RunsE lp 102 El_e95 := runsMTE TabOk.nil 900 (by kernel_rfl)
theorem El_c96 : RunsE lp 77 El_e96 := runsMTE (TabOk.cons (RowOk.cons El_c95 RowOk.nil) TabOk.nil) 900 (by kernel_rfl)
theorem El_c97 : RunsE lp 102 El_e97 := runsMTE TabOk.nil 900 (by kernel_rfl)
theorem El_c98 : RunsE lp 77 El_e98 := runsMTE (TabOk.cons (RowOk.cons El_c97 RowOk.nil) TabOk.nil) 900 (by kernel_rfl)
theorem El_c99 : RunsE lp 102 El_e99 := runsMTE TabOk.nil 900 (by kernel_rfl)
theorem El_c100 : RunsE lp 77 El_e100 := runsMTE (TabOk.cons (RowOk.cons El_c99 RowOk.nil) TabOk.nil) 900 (by kernel_rfl)
theorem El_c101 : RunsE lp 106 El_e101 := runsMTE (TabOk.cons (RowOk.cons El_c86 RowOk.nil) TabOk.nil) 900 (by kernel_rfl)
theorem El_c102 : RunsE lp 79 El_e102 := runsMTE (TabOk.cons (RowOk.cons El_c101 RowOk.nil) TabOk.nil) 900 (by kernel_rfl)
theorem El_c103 : RunsE lp 16 El_e103 := runsMTE (TabOk.cons (RowOk.cons El_c41 RowOk.nil) (TabOk.cons (RowOk.cons El_c102 RowOk.nil) TabOk.nil)) 900 (by kernel_rfl)
theorem El_c104 : RunsE lp 16 El_e104 := runsMTE (TabOk.cons (RowOk.cons El_c42 RowOk.nil) TabOk.nil) 900 (by kernel_rfl)
theorem El_c105 : RunsE lp 16 El_e105 := runsMTE (TabOk.cons (RowOk.cons El_c87 RowOk.nil) (TabOk.cons (RowOk.cons El_c2 RowOk.nil) TabOk.nil)) 900 (by kernel_rfl)
theorem El_c106 : RunsE lp 16 El_e106 := runsMTE (TabOk.cons (RowOk.cons El_c88 RowOk.nil) (TabOk.cons (RowOk.cons El_c2 RowOk.nil) TabOk.nil)) 900 (by kernel_rfl)
theorem El_c107 : RunsE lp 16 El_e107 := runsMTE (TabOk.cons (RowOk.cons El_c89 RowOk.nil) (TabOk.cons (RowOk.cons El_c2 RowOk.nil) TabOk.nil)) 900 (by kernel_rfl)
theorem El_c108 : RunsE lp 16 El_e108 := runsMTE (TabOk.cons (RowOk.cons El_c90 RowOk.nil) (TabOk.cons (RowOk.cons El_c2 RowOk.nil) TabOk.nil)) 900 (by kernel_rfl)
theorem El_c109 : RunsE lp 35 El_e109 := runsMTE (TabOk.cons (RowOk.cons El_c103 (RowOk.cons El_c105 (RowOk.cons El_c106 (RowOk.cons El_c107 (RowOk.cons El_c108 (RowOk.cons El_c93 (RowOk.cons El_c94 (RowOk.cons El_c104 RowOk.nil)))))))) (TabOk.cons (RowOk.cons El_c91 (RowOk.cons El_c92 RowOk.nil)) (TabOk.cons (RowOk.cons El_c2 RowOk.nil) (TabOk.cons (RowOk.cons El_c12 (RowOk.cons El_c24 (RowOk.cons El_c40 (RowOk.cons El_c58 (RowOk.cons El_c78 (RowOk.cons El_c100 (RowOk.cons El_c13 (RowOk.cons El_c25 (RowOk.cons El_c56 (RowOk.cons El_c76 (RowOk.cons El_c98 (RowOk.cons El_c55 (RowOk.cons El_c74 (RowOk.cons El_c96 RowOk.nil)))))))))))))) TabOk.nil)))) 900 (by kernel_rfl)
theorem El_c110 : RunsE lp 35 El_e110 := runsMTE (TabOk.cons (RowOk.cons El_c10 (RowOk.cons El_c26 (RowOk.cons El_c42 (RowOk.cons El_c55 (RowOk.cons El_c74 (RowOk.cons El_c96 RowOk.nil)))))) TabOk.nil) 900 (by kernel_rfl)
end Go.Proofs.YtkhkacbejilafaaGreat
