/- Frames that are put: ways, printed by symex.py. -/
import Derived.Test.YthiilhepneddpaaLsPuts4
import Derived.Test.YthiilhepneddpaaLsEq
import Derived.Test.YthiilhepneddpaaLsRd4
set_option linter.unusedVariables false
set_option maxRecDepth 100000
namespace Go.Proofs.Ythiilhepneddpaa
open Go Go.LS

theorem clone0 {L : List UInt8} (h1 : L ≠ []) (h2 : List.length (α := UInt8) [] + List.length (α := UInt8) L ≤ 200000000000000) :
    Runs lp 32 [(.p (.sl (bs L)))] [] ((.sl (bs (([] : List UInt8) ++ L)) 0 (List.length (([] : List UInt8) ++ L))), [.spare 1 (List.length (([] : List UInt8) ++ L))]) :=
  runO_sound (N := 100) (os := [(2, .op (.p (.bool false)) []), (3, .op (.sl (bs (([] : List UInt8) ++ L)) 0 (List.length (([] : List UInt8) ++ L))) [.spare 1 (List.length (([] : List UInt8) ++ L))])])
    (ps := [(opStep noCall [] [] (.nileq false .slice (.const (.p (.sl (bs L))))) = some ((.p (.bool false)), [])), (opStep noCall [] [] (.append false 1 1 (.const (.tight [])) (.const (.p (.sl (bs L))))) = some ((.sl (bs (([] : List UInt8) ++ L)) 0 (List.length (([] : List UInt8) ++ L))), [.spare 1 (List.length (([] : List UInt8) ++ L))]))])
    (by kernel_rfl) ⟨(opIs_nileq h1), (opIs_appT rfl rfl rfl h1 h2), trivial⟩


theorem vCloneE {L : List UInt8} (c : (decide (L = [])) = true) : Runs lp 32 [.p (.sl (bs L))] [] (.tight [], []) := by
  have : L = [] := of_decide_eq_true c
  subst this
  exact ⟨20, by kernel_rfl⟩
theorem vClone {L : List UInt8} (c : (decide (L = [])) = false) (h : L.length ≤ 140737488355328) : Runs lp 32 [.p (.sl (bs L))] [] (.sl (bs L) 0 L.length, [.spare 1 L.length]) := by
  have hn : L ≠ [] := of_decide_eq_false c
  exact clone0 hn (by simp only [List.length_nil]; omega)
theorem vEq_t {A B : List UInt8} (hA : A.length ≤ 140737488355328) : Runs lp 31 [.tight (bs A), .p (.sl (bs B))] [] (.p (.bool (decide (A = B))), []) := by
  obtain ⟨n, hn⟩ := vEq (A := A) (B := B) hA
  exact ⟨n, by cases n with
    | zero => exact hn
    | succ n => exact hn⟩

end Go.Proofs.Ythiilhepneddpaa
