import Derived.Test.YtjafokipeodmfaaDoorLsLawsW
set_option linter.unusedVariables false
set_option maxRecDepth 100000
set_option linter.unusedSimpArgs false
namespace Go.Proofs.YtjafokipeodmfaaDoor
open Go Go.LS
theorem lives : Runs lp 8 [] [] (.p (.bool true), []) := ⟨30, by kernel_rfl⟩
theorem lawMt {ns ms : List (List UInt8)} (hn : ns.length ≤ 140737488355328) (hm : ms.length ≤ 140737488355328) : Runs lp 6 [.p (.sl (rowsN ns)), .p (.sl (rowsN ms))] [] (.p (.bool true), []) := by
  refine ifE (lawM (fun _ => lives) (fun _ _ => lives) (fun _ _ => rpBeg hn) (fun _ _ => rpBeg hm) (fun _ _ => lives) (fun _ _ => pBegins hn) (fun _ _ => pBegins hm) (fun _ _ => pMeet hn hm) (fun _ _ _ _ => pMeet hm hn) (fun _ _ _ _ => pMeet hm hn)) ?_
  cases List.isPrefixOf ns ms <;> cases List.isPrefixOf ms ns <;> simp
theorem checked {ns : List (List UInt8)} (hl : ns.length ≤ 140737488355328) : Runs lp 22 [.p (.sl (rowsN ns))] [] (if pathB ns = true then (.tup [.p (.sl (rowsN ns)), .p (.int .i64 0)], []) else (.tup [.p (.sl []), .p (.int .i64 40)], [])) := chk0 (pMay hl)
end Go.Proofs.YtjafokipeodmfaaDoor
