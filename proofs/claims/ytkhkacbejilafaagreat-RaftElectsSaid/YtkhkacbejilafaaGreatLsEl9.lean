import Derived.Test.YtkhkacbejilafaaGreatLsEl0
import Derived.Test.YtkhkacbejilafaaGreatLsEl1
import Derived.Test.YtkhkacbejilafaaGreatLsEl2
import Derived.Test.YtkhkacbejilafaaGreatLsEl3
import Derived.Test.YtkhkacbejilafaaGreatLsEl4
import Derived.Test.YtkhkacbejilafaaGreatLsEl5
import Derived.Test.YtkhkacbejilafaaGreatLsEl6
import Derived.Test.YtkhkacbejilafaaGreatLsEl7
import Derived.Test.YtkhkacbejilafaaGreatLsEl8
import Derived.KernelRfl
namespace Go.Proofs.YtkhkacbejilafaaGreat
open Go Go.LS
theorem El_c111 : RunsE lp 24 El_e111 := runsMTE (TabOk.cons (RowOk.cons El_c2 RowOk.nil) TabOk.nil) 900 (by kernel_rfl)
theorem el_1 : Runs lp 4 [zi 1] [] (bT, []) := runsMT (TabOk.cons (RowOk.cons El_c3 RowOk.nil) (TabOk.cons (RowOk.cons El_c4 (RowOk.cons El_c5 RowOk.nil)) (TabOk.cons (RowOk.cons El_c6 RowOk.nil) (TabOk.cons (RowOk.cons El_c2 RowOk.nil) TabOk.nil)))) 900 (by kernel_rfl)
theorem el_2 : Runs lp 4 [zi 2] [] (bT, []) := runsMT (TabOk.cons (RowOk.cons El_c3 RowOk.nil) (TabOk.cons (RowOk.cons El_c7 (RowOk.cons El_c16 RowOk.nil)) (TabOk.cons (RowOk.cons El_c17 RowOk.nil) (TabOk.cons (RowOk.cons El_c2 RowOk.nil) TabOk.nil)))) 900 (by kernel_rfl)
theorem el_3 : Runs lp 4 [zi 3] [] (bT, []) := runsMT (TabOk.cons (RowOk.cons El_c3 RowOk.nil) (TabOk.cons (RowOk.cons El_c18 (RowOk.cons El_c30 RowOk.nil)) (TabOk.cons (RowOk.cons El_c31 RowOk.nil) (TabOk.cons (RowOk.cons El_c2 RowOk.nil) TabOk.nil)))) 900 (by kernel_rfl)
theorem el_4 : Runs lp 4 [zi 4] [] (bT, []) := runsMT (TabOk.cons (RowOk.cons El_c3 RowOk.nil) (TabOk.cons (RowOk.cons El_c32 (RowOk.cons El_c45 RowOk.nil)) (TabOk.cons (RowOk.cons El_c46 RowOk.nil) (TabOk.cons (RowOk.cons El_c2 RowOk.nil) TabOk.nil)))) 900 (by kernel_rfl)
theorem el_5 : Runs lp 4 [zi 5] [] (bT, []) := runsMT (TabOk.cons (RowOk.cons El_c3 RowOk.nil) (TabOk.cons (RowOk.cons El_c47 (RowOk.cons El_c61 RowOk.nil)) (TabOk.cons (RowOk.cons El_c62 RowOk.nil) (TabOk.cons (RowOk.cons El_c2 RowOk.nil) TabOk.nil)))) 900 (by kernel_rfl)
theorem el_6 : Runs lp 4 [zi 6] [] (bT, []) := runsMT (TabOk.cons (RowOk.cons El_c3 RowOk.nil) (TabOk.cons (RowOk.cons El_c63 RowOk.nil) (TabOk.cons (RowOk.cons El_c83 RowOk.nil) (TabOk.cons (RowOk.cons El_c81 (RowOk.cons El_c82 RowOk.nil)) (TabOk.cons (RowOk.cons El_c64 RowOk.nil) (TabOk.cons (RowOk.cons El_c2 RowOk.nil) TabOk.nil)))))) 900 (by kernel_rfl)
theorem el_7 : Runs lp 4 [zi 7] [] (bT, []) := runsMT (TabOk.cons (RowOk.cons El_c3 RowOk.nil) (TabOk.cons (RowOk.cons El_c84 RowOk.nil) (TabOk.cons (RowOk.cons El_c111 RowOk.nil) (TabOk.cons (RowOk.cons El_c109 (RowOk.cons El_c110 RowOk.nil)) (TabOk.cons (RowOk.cons El_c2 RowOk.nil) (TabOk.cons (RowOk.cons El_c85 RowOk.nil) TabOk.nil)))))) 900 (by kernel_rfl)
end Go.Proofs.YtkhkacbejilafaaGreat
