/-
  NARROWER THAN 'FOR EVERY INPUT', by the rows' own cells (each row's printed sentence says how): TokenMoves: loops.
  DERIVED. THE GIVEN ROWS OF THIS SEAT. 3 by the template 'for every input the law returns true; each argument reads behind the call as it read before'; 0 by the template 'total and deterministic' (their statements: YtmfdjhflhhaodaaTotals.lean).
  GIVEN WITH THE SEED: the statements are not yours to turn. If you find one false, say at which input.
  Laid BY PROGRAM, IN A SANDBOX (cutbox-rows.mjs): the forced cells as the released guide's own fill.sh prints them over the translation e41a9f0bf8619937… (all of the seat's roots in one cut). By AI agents, Wed Nov 11 2026. No macro, syntax, notation, axiom, sorry.
-/
import Derived.Test.YtmfdjhflhhaodaaChecked
import GoSem.Claim
import GoSem.ClaimJoined
import GoSem.ClaimMapViews
import Derived.JoinedTies
import Derived.KernelRfl
namespace Go.Proofs.Ytmfdjhflhhaodaa
/- THE CELL 'sum', in the pinned program and in every row, IS THE sha256 OF THE DUMP (.gsa) THAT YtmfdjhflhhaodaaProg.lean LOADS. Nothing in Lean hashes anything: it is a label: what it is worth is what the hold of that sum in a sandbox is worth. -/
noncomputable def Try.pinned : Pinned := { name := "ytmfdjhflhhaodaa", sum := "e41a9f0bf861993786432d2972488338b39aaf1632e872d89096916e960dc577", checked := Try.checked }
namespace Rows
def none {H : Type} : Left H := { results := [], args := [] }

/-- 'tributarylaw18.TokenCodes': WHATEVER THE INPUT: true; the input reads as it did. -/
def tokenCodesSpec : ChangeSpec := { name := "tokenCodes", fn := fun _ => fun
  | [d] => { results := [.lit (.bool true)], args := [d] }
  | _ => none }
def tokenCodesRow : OpenClaim := { program := "ytmfdjhflhhaodaa", sum := "e41a9f0bf861993786432d2972488338b39aaf1632e872d89096916e960dc577", func := "tributary/tributarylaw18.TokenCodes", spec := "tokenCodes", unfollowed := true, recurses := true, apart := false }
def TokenCodesSaid : Prop := tokenCodesRow.holds Try.pinned (OpenSpec.ofChange tokenCodesSpec)

/-- ITS FALSE NEIGHBOUR: 'it returns false'. Refute it at one input. -/
def tokenCodesWrong : ChangeSpec := { name := "tokenCodes", fn := fun _ => fun
  | [d] => { results := [.lit (.bool false)], args := [d] }
  | _ => none }
def TokenCodesWrongFalsely : Prop := tokenCodesRow.holds Try.pinned (OpenSpec.ofChange tokenCodesWrong)

/-- 'tributarylaw18.TokenDecodes': WHATEVER THE INPUT: true; the input reads as it did. -/
def tokenDecodesSpec : ChangeSpec := { name := "tokenDecodes", fn := fun _ => fun
  | [d] => { results := [.lit (.bool true)], args := [d] }
  | _ => none }
def tokenDecodesRow : OpenClaim := { program := "ytmfdjhflhhaodaa", sum := "e41a9f0bf861993786432d2972488338b39aaf1632e872d89096916e960dc577", func := "tributary/tributarylaw18.TokenDecodes", spec := "tokenDecodes", unfollowed := true, recurses := true, apart := false }
def TokenDecodesSaid : Prop := tokenDecodesRow.holds Try.pinned (OpenSpec.ofChange tokenDecodesSpec)

/-- ITS FALSE NEIGHBOUR: 'it returns false'. Refute it at one input. -/
def tokenDecodesWrong : ChangeSpec := { name := "tokenDecodes", fn := fun _ => fun
  | [d] => { results := [.lit (.bool false)], args := [d] }
  | _ => none }
def TokenDecodesWrongFalsely : Prop := tokenDecodesRow.holds Try.pinned (OpenSpec.ofChange tokenDecodesWrong)

/-- 'tributarylaw18.TokenMoves': WHATEVER THE INPUT: true; the input reads as it did. -/
def tokenMovesSpec : ChangeSpec := { name := "tokenMoves", fn := fun _ => fun
  | [d1, d2, d3, d4] => { results := [.lit (.bool true)], args := [d1, d2, d3, d4] }
  | _ => none }
def tokenMovesRow : OpenClaim := { program := "ytmfdjhflhhaodaa", sum := "e41a9f0bf861993786432d2972488338b39aaf1632e872d89096916e960dc577", func := "tributary/tributarylaw18.TokenMoves", spec := "tokenMoves", unfollowed := true, recurses := true, loops := true, apart := false }
def TokenMovesSaid : Prop := tokenMovesRow.holds Try.pinned (OpenSpec.ofChange tokenMovesSpec)

/-- ITS FALSE NEIGHBOUR: 'it returns false'. Refute it at one input. -/
def tokenMovesWrong : ChangeSpec := { name := "tokenMoves", fn := fun _ => fun
  | [d1, d2, d3, d4] => { results := [.lit (.bool false)], args := [d1, d2, d3, d4] }
  | _ => none }
def TokenMovesWrongFalsely : Prop := tokenMovesRow.holds Try.pinned (OpenSpec.ofChange tokenMovesWrong)

/- THE SECOND FORM. 'bulk': how many values and letters a reading holds, each counted each time it is reached (what is shared counts as often as it is met; a slice's spare places count too). A statement '..UptoSaid' is the law's where the arguments, and the package variables that the reading takes, are together of bulk at most 1048576: NARROWER than '..Said'. Prove '..Said' where nothing that the law and all that it calls make is longer than what came in: it says more and counts as full. Else prove '..UptoSaid'. A law counts once. -/
mutual
def uptoBulk {H : Type} : DataW H → Nat
  | .lit (.string bytes) => bytes.length + 1
  | .lit _ => 1
  | .nil => 1
  | .ptr d => uptoBulk d + 1
  | .slice elems spare => uptoBulkAll elems + uptoBulkAll spare + 1
  | .agg parts => uptoBulkAll parts + 1
  | .iface _ d => uptoBulk d + 1
  | .map entries => uptoBulkEntries entries + 1
  | .held _ => 1
def uptoBulkAll {H : Type} : List (DataW H) → Nat
  | [] => 0
  | d :: r => uptoBulk d + uptoBulkAll r
def uptoBulkEntries {H : Type} : List (Lit × DataW H) → Nat
  | [] => 0
  | x :: r => uptoBulkEntry x + uptoBulkEntries r
def uptoBulkEntry {H : Type} : Lit × DataW H → Nat
  | (.string bytes, d) => bytes.length + uptoBulk d + 1
  | (_, d) => uptoBulk d + 1
 end
def uptoSmall : (H : Type) → List (DataW H) → Bool := fun _ ds => decide (uptoBulkAll ds ≤ 1048576)
def OpenSpec.upto (s : _root_.Go.ChangeSpec) : _root_.Go.OpenSpec := { _root_.Go.OpenSpec.ofChange s with cond := some uptoSmall }

/-- 'tributarylaw18.TokenCodes', WHERE WHAT IT READS IS OF BULK AT MOST 1048576: true; the input reads as it did. -/
def tokenCodesUptoRow : OpenClaim := { program := "ytmfdjhflhhaodaa", sum := "e41a9f0bf861993786432d2972488338b39aaf1632e872d89096916e960dc577", func := "tributary/tributarylaw18.TokenCodes", spec := "tokenCodes", unfollowed := true, recurses := true, apart := false, narrowed := true }
def TokenCodesUptoSaid : Prop := tokenCodesUptoRow.holds Try.pinned (OpenSpec.upto tokenCodesSpec)

/-- 'tributarylaw18.TokenDecodes', WHERE WHAT IT READS IS OF BULK AT MOST 1048576: true; the input reads as it did. -/
def tokenDecodesUptoRow : OpenClaim := { program := "ytmfdjhflhhaodaa", sum := "e41a9f0bf861993786432d2972488338b39aaf1632e872d89096916e960dc577", func := "tributary/tributarylaw18.TokenDecodes", spec := "tokenDecodes", unfollowed := true, recurses := true, apart := false, narrowed := true }
def TokenDecodesUptoSaid : Prop := tokenDecodesUptoRow.holds Try.pinned (OpenSpec.upto tokenDecodesSpec)

/-- 'tributarylaw18.TokenMoves', WHERE WHAT IT READS IS OF BULK AT MOST 1048576: true; the input reads as it did. -/
def tokenMovesUptoRow : OpenClaim := { program := "ytmfdjhflhhaodaa", sum := "e41a9f0bf861993786432d2972488338b39aaf1632e872d89096916e960dc577", func := "tributary/tributarylaw18.TokenMoves", spec := "tokenMoves", unfollowed := true, recurses := true, loops := true, apart := false, narrowed := true }
def TokenMovesUptoSaid : Prop := tokenMovesUptoRow.holds Try.pinned (OpenSpec.upto tokenMovesSpec)

end Rows
end Go.Proofs.Ytmfdjhflhhaodaa
