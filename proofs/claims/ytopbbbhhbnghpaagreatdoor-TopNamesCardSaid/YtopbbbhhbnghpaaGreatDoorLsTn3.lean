import Derived.Test.YtopbbbhhbnghpaaGreatDoorLsTn0
import Derived.Test.YtopbbbhhbnghpaaGreatDoorLsTn1
import Derived.Test.YtopbbbhhbnghpaaGreatDoorLsTn2
import Derived.KernelRfl
namespace Go.Proofs.YtopbbbhhbnghpaaGreatDoor
open Go Go.LS
theorem Tn_c19 : RunsE lp 15 Tn_e19 := runsMTE (TabOk.cons (RowOk.cons Tn_c16 RowOk.nil) (TabOk.cons (RowOk.cons Tn_c18 RowOk.nil) (TabOk.cons (RowOk.cons Tn_c17 RowOk.nil) TabOk.nil))) 900 (by kernel_rfl)
theorem Tn_c20 : RunsE lp 6 Tn_e20 := runsMTE (TabOk.cons (RowOk.cons Tn_c19 RowOk.nil) (TabOk.cons (RowOk.cons Tn_c14 RowOk.nil) (TabOk.cons (RowOk.cons Tn_c1 RowOk.nil) TabOk.nil))) 900 (by kernel_rfl)
theorem topNames4 : Runs lp 4 [] [] (bT, []) := runsMT (TabOk.cons (RowOk.cons Tn_c20 RowOk.nil) TabOk.nil) 900 (by kernel_rfl)
end Go.Proofs.YtopbbbhhbnghpaaGreatDoor
