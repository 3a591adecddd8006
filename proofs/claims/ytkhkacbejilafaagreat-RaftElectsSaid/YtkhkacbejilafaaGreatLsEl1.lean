import Derived.Test.YtkhkacbejilafaaGreatLsEl0
import Derived.KernelRfl
namespace Go.Proofs.YtkhkacbejilafaaGreat
open Go Go.LS
theorem El_c1 : RunsE lp 36 El_e1 := runsMTE TabOk.nil 900 (by kernel_rfl)
theorem El_c2 : RunsE lp 58 El_e2 := runsMTE TabOk.nil 900 (by kernel_rfl)
theorem El_c3 : RunsE lp 12 El_e3 := runsMTE (TabOk.cons (RowOk.cons El_c1 RowOk.nil) (TabOk.cons (RowOk.cons El_c2 RowOk.nil) TabOk.nil)) 900 (by kernel_rfl)
theorem El_c4 : RunsE lp 21 El_e4 := runsMTE TabOk.nil 900 (by kernel_rfl)
theorem El_c5 : RunsE lp 21 El_e5 := runsMTE TabOk.nil 900 (by kernel_rfl)
theorem El_c6 : RunsE lp 55 El_e6 := runsMTE (TabOk.cons (RowOk.cons El_c2 RowOk.nil) TabOk.nil) 900 (by kernel_rfl)
theorem El_c7 : RunsE lp 21 El_e7 := runsMTE TabOk.nil 900 (by kernel_rfl)
theorem El_c8 : RunsE lp 106 El_e8 := runsMTE TabOk.nil 900 (by kernel_rfl)
theorem El_c9 : RunsE lp 46 El_e9 := runsMTE TabOk.nil 900 (by kernel_rfl)
theorem El_c10 : RunsE lp 77 El_e10 := runsMTE TabOk.nil 900 (by kernel_rfl)
theorem El_c11 : RunsE lp 16 El_e11 := runsMTE (TabOk.cons (RowOk.cons El_c10 RowOk.nil) TabOk.nil) 900 (by kernel_rfl)
theorem El_c12 : RunsE lp 77 El_e12 := runsMTE TabOk.nil 900 (by kernel_rfl)
theorem El_c13 : RunsE lp 77 El_e13 := runsMTE TabOk.nil 900 (by kernel_rfl)
theorem El_c14 : RunsE lp 35 El_e14 := runsMTE (TabOk.cons (RowOk.cons El_c11 RowOk.nil) (TabOk.cons (RowOk.cons El_c9 RowOk.nil) (TabOk.cons (RowOk.cons El_c2 RowOk.nil) (TabOk.cons (RowOk.cons El_c12 (RowOk.cons El_c13 RowOk.nil)) (TabOk.cons (RowOk.cons El_c8 RowOk.nil) TabOk.nil))))) 900 (by kernel_rfl)
theorem El_c15 : RunsE lp 16 El_e15 := runsMTE TabOk.nil 900 (by kernel_rfl)
theorem El_c16 : RunsE lp 21 El_e16 := runsMTE (TabOk.cons (RowOk.cons El_c15 RowOk.nil) (TabOk.cons (RowOk.cons El_c14 RowOk.nil) (TabOk.cons (RowOk.cons El_c10 RowOk.nil) TabOk.nil))) 900 (by kernel_rfl)
theorem El_c17 : RunsE lp 24 El_e17 := runsMTE (TabOk.cons (RowOk.cons El_c2 RowOk.nil) TabOk.nil) 900 (by kernel_rfl)
theorem El_c18 : RunsE lp 21 El_e18 := runsMTE TabOk.nil 900 (by kernel_rfl)
end Go.Proofs.YtkhkacbejilafaaGreat
