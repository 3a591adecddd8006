import Derived.Test.YtkhkacbejilafaaGreatLsEl0
import Derived.Test.YtkhkacbejilafaaGreatLsEl1
import Derived.KernelRfl
namespace Go.Proofs.YtkhkacbejilafaaGreat
open Go Go.LS
theorem El_c83 : RunsE lp 24 El_e83 := runsMTE (TabOk.cons (RowOk.cons El_c2 RowOk.nil) TabOk.nil) 900 (by kernel_rfl)
theorem El_c84 : RunsE lp 21 El_e84 := runsMTE TabOk.nil 900 (by kernel_rfl)
theorem El_c85 : RunsE lp 71 El_e85 := runsMTE TabOk.nil 900 (by kernel_rfl)
theorem El_c86 : RunsE lp 68 El_e86 := runsMTE TabOk.nil 900 (by kernel_rfl)
theorem El_c87 : RunsE lp 46 El_e87 := runsMTE TabOk.nil 900 (by kernel_rfl)
theorem El_c88 : RunsE lp 46 El_e88 := runsMTE TabOk.nil 900 (by kernel_rfl)
theorem El_c89 : RunsE lp 46 El_e89 := runsMTE TabOk.nil 900 (by kernel_rfl)
theorem El_c90 : RunsE lp 46 El_e90 := runsMTE TabOk.nil 900 (by kernel_rfl)
theorem El_c91 : RunsE lp 46 El_e91 := runsMTE TabOk.nil 900 (by kernel_rfl)
theorem El_c92 : RunsE lp 46 El_e92 := runsMTE TabOk.nil 900 (by kernel_rfl)
end Go.Proofs.YtkhkacbejilafaaGreat
