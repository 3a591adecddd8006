import Derived.Test.YtkhkacbejilafaaGreatLsEl0
import Derived.Test.YtkhkacbejilafaaGreatLsEl1
import Derived.Test.YtkhkacbejilafaaGreatLsEl2
import Derived.Test.YtkhkacbejilafaaGreatLsEl3
import Derived.Test.YtkhkacbejilafaaGreatLsEl4
import Derived.KernelRfl
namespace Go.Proofs.YtkhkacbejilafaaGreat
open Go Go.LS
theorem El_c60 : RunsE lp 35 El_e60 := runsMTE (TabOk.cons (RowOk.cons El_c10 (RowOk.cons El_c26 (RowOk.cons El_c42 (RowOk.cons El_c55 RowOk.nil)))) TabOk.nil) 900 (by kernel_rfl)
theorem El_c61 : RunsE lp 21 El_e61 := runsMTE (TabOk.cons (RowOk.cons El_c59 (RowOk.cons El_c60 RowOk.nil)) TabOk.nil) 900 (by kernel_rfl)
theorem El_c62 : RunsE lp 24 El_e62 := runsMTE (TabOk.cons (RowOk.cons El_c2 RowOk.nil) TabOk.nil) 900 (by kernel_rfl)
theorem El_c63 : RunsE lp 21 El_e63 := runsMTE TabOk.nil 900 (by kernel_rfl)
end Go.Proofs.YtkhkacbejilafaaGreat
