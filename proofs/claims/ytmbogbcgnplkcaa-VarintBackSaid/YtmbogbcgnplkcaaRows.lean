/-
  No cell of these rows narrows 'for every input' (looked for: loops, veiled, ifaces, maps, wideKeys, modest, calm, conditions, laid).
  DERIVED. THE GIVEN ROWS OF THIS SEAT. 5 by the template 'for every input the law returns true; each argument reads behind the call as it read before'; 0 by the template 'total and deterministic' (their statements: YtmbogbcgnplkcaaTotals.lean).
  GIVEN WITH THE SEED: the statements are not yours to turn. If you find one false, say at which input.
  Laid BY PROGRAM, IN A SANDBOX (cutbox-rows.mjs): the forced cells as the released guide's own fill.sh prints them over the translation b6992556d98b44ea… (all of the seat's roots in one cut). By AI agents, Wed Nov 11 2026. No macro, syntax, notation, axiom, sorry.
-/
import Derived.Test.YtmbogbcgnplkcaaChecked
import GoSem.Claim
import GoSem.ClaimJoined
import GoSem.ClaimMapViews
import Derived.JoinedTies
import Derived.KernelRfl
namespace Go.Proofs.Ytmbogbcgnplkcaa
/- THE CELL 'sum', in the pinned program and in every row, IS THE sha256 OF THE DUMP (.gsa) THAT YtmbogbcgnplkcaaProg.lean LOADS. Nothing in Lean hashes anything: it is a label: what it is worth is what the hold of that sum in a sandbox is worth. -/
noncomputable def Try.pinned : Pinned := { name := "ytmbogbcgnplkcaa", sum := "b6992556d98b44ea29e2a3c4fedc55c6e72af5bcce8fbb20e90cd6f89f1eaf51", checked := Try.checked }
namespace Rows
def none {H : Type} : Left H := { results := [], args := [] }

/-- 'tributarylaw01.VarintCodes': WHATEVER THE INPUT: true; the input reads as it did. -/
def varintCodesSpec : ChangeSpec := { name := "varintCodes", fn := fun _ => fun
  | [d1, d2] => { results := [.lit (.bool true)], args := [d1, d2] }
  | _ => none }
def varintCodesRow : OpenClaim := { program := "ytmbogbcgnplkcaa", sum := "b6992556d98b44ea29e2a3c4fedc55c6e72af5bcce8fbb20e90cd6f89f1eaf51", func := "tributary/tributarylaw01.VarintCodes", spec := "varintCodes", apart := false }
def VarintCodesSaid : Prop := varintCodesRow.holds Try.pinned (OpenSpec.ofChange varintCodesSpec)

/-- ITS FALSE NEIGHBOUR: 'it returns false'. Refute it at one input. -/
def varintCodesWrong : ChangeSpec := { name := "varintCodes", fn := fun _ => fun
  | [d1, d2] => { results := [.lit (.bool false)], args := [d1, d2] }
  | _ => none }
def VarintCodesWrongFalsely : Prop := varintCodesRow.holds Try.pinned (OpenSpec.ofChange varintCodesWrong)

/-- 'tributarylaw01.VarintApart': WHATEVER THE INPUT: true; the input reads as it did. -/
def varintApartSpec : ChangeSpec := { name := "varintApart", fn := fun _ => fun
  | [d1, d2] => { results := [.lit (.bool true)], args := [d1, d2] }
  | _ => none }
def varintApartRow : OpenClaim := { program := "ytmbogbcgnplkcaa", sum := "b6992556d98b44ea29e2a3c4fedc55c6e72af5bcce8fbb20e90cd6f89f1eaf51", func := "tributary/tributarylaw01.VarintApart", spec := "varintApart", apart := false }
def VarintApartSaid : Prop := varintApartRow.holds Try.pinned (OpenSpec.ofChange varintApartSpec)

/-- ITS FALSE NEIGHBOUR: 'it returns false'. Refute it at one input. -/
def varintApartWrong : ChangeSpec := { name := "varintApart", fn := fun _ => fun
  | [d1, d2] => { results := [.lit (.bool false)], args := [d1, d2] }
  | _ => none }
def VarintApartWrongFalsely : Prop := varintApartRow.holds Try.pinned (OpenSpec.ofChange varintApartWrong)

/-- 'tributarylaw01.VarintReads': WHATEVER THE INPUT: true; the input reads as it did. -/
def varintReadsSpec : ChangeSpec := { name := "varintReads", fn := fun _ => fun
  | [d1, d2] => { results := [.lit (.bool true)], args := [d1, d2] }
  | _ => none }
def varintReadsRow : OpenClaim := { program := "ytmbogbcgnplkcaa", sum := "b6992556d98b44ea29e2a3c4fedc55c6e72af5bcce8fbb20e90cd6f89f1eaf51", func := "tributary/tributarylaw01.VarintReads", spec := "varintReads", apart := false }
def VarintReadsSaid : Prop := varintReadsRow.holds Try.pinned (OpenSpec.ofChange varintReadsSpec)

/-- ITS FALSE NEIGHBOUR: 'it returns false'. Refute it at one input. -/
def varintReadsWrong : ChangeSpec := { name := "varintReads", fn := fun _ => fun
  | [d1, d2] => { results := [.lit (.bool false)], args := [d1, d2] }
  | _ => none }
def VarintReadsWrongFalsely : Prop := varintReadsRow.holds Try.pinned (OpenSpec.ofChange varintReadsWrong)

/-- 'tributarylaw01.VarintBack': WHATEVER THE INPUT: true; the input reads as it did. -/
def varintBackSpec : ChangeSpec := { name := "varintBack", fn := fun _ => fun
  | [d1, d2, d3] => { results := [.lit (.bool true)], args := [d1, d2, d3] }
  | _ => none }
def varintBackRow : OpenClaim := { program := "ytmbogbcgnplkcaa", sum := "b6992556d98b44ea29e2a3c4fedc55c6e72af5bcce8fbb20e90cd6f89f1eaf51", func := "tributary/tributarylaw01.VarintBack", spec := "varintBack", apart := false }
def VarintBackSaid : Prop := varintBackRow.holds Try.pinned (OpenSpec.ofChange varintBackSpec)

/-- ITS FALSE NEIGHBOUR: 'it returns false'. Refute it at one input. -/
def varintBackWrong : ChangeSpec := { name := "varintBack", fn := fun _ => fun
  | [d1, d2, d3] => { results := [.lit (.bool false)], args := [d1, d2, d3] }
  | _ => none }
def VarintBackWrongFalsely : Prop := varintBackRow.holds Try.pinned (OpenSpec.ofChange varintBackWrong)

/-- 'tributarylaw01.VarintNobody': WHATEVER THE INPUT: true; the input reads as it did. -/
def varintNobodySpec : ChangeSpec := { name := "varintNobody", fn := fun _ => fun
  | [d] => { results := [.lit (.bool true)], args := [d] }
  | _ => none }
def varintNobodyRow : OpenClaim := { program := "ytmbogbcgnplkcaa", sum := "b6992556d98b44ea29e2a3c4fedc55c6e72af5bcce8fbb20e90cd6f89f1eaf51", func := "tributary/tributarylaw01.VarintNobody", spec := "varintNobody", apart := false }
def VarintNobodySaid : Prop := varintNobodyRow.holds Try.pinned (OpenSpec.ofChange varintNobodySpec)

/-- ITS FALSE NEIGHBOUR: 'it returns false'. Refute it at one input. -/
def varintNobodyWrong : ChangeSpec := { name := "varintNobody", fn := fun _ => fun
  | [d] => { results := [.lit (.bool false)], args := [d] }
  | _ => none }
def VarintNobodyWrongFalsely : Prop := varintNobodyRow.holds Try.pinned (OpenSpec.ofChange varintNobodyWrong)

/- THE SECOND FORM. 'bulk': how many values and letters a reading holds, each counted each time it is reached (what is shared counts as often as it is met; a slice's spare places count too). A statement '..UptoSaid' is the law's where the arguments, and the package variables that the reading takes, are together of bulk at most 1048576: NARROWER than '..Said'. Prove '..Said' where nothing that the law and all that it calls make is longer than what came in: it says more and counts as full. Else prove '..UptoSaid'. A law counts once. -/
mutual
def uptoBulk {H : Type} : DataW H → Nat
  | .lit (.string bytes) => bytes.length + 1
  | .lit _ => 1
  | .nil => 1
  | .ptr d => uptoBulk d + 1
  | .slice elems spare => uptoBulkAll elems + uptoBulkAll spare + 1
  | .agg parts => uptoBulkAll parts + 1
  | .iface _ d => uptoBulk d + 1
  | .map entries => uptoBulkEntries entries + 1
  | .held _ => 1
def uptoBulkAll {H : Type} : List (DataW H) → Nat
  | [] => 0
  | d :: r => uptoBulk d + uptoBulkAll r
def uptoBulkEntries {H : Type} : List (Lit × DataW H) → Nat
  | [] => 0
  | x :: r => uptoBulkEntry x + uptoBulkEntries r
def uptoBulkEntry {H : Type} : Lit × DataW H → Nat
  | (.string bytes, d) => bytes.length + uptoBulk d + 1
  | (_, d) => uptoBulk d + 1
 end
def uptoSmall : (H : Type) → List (DataW H) → Bool := fun _ ds => decide (uptoBulkAll ds ≤ 1048576)
def OpenSpec.upto (s : _root_.Go.ChangeSpec) : _root_.Go.OpenSpec := { _root_.Go.OpenSpec.ofChange s with cond := some uptoSmall }

/-- 'tributarylaw01.VarintCodes', WHERE WHAT IT READS IS OF BULK AT MOST 1048576: true; the input reads as it did. -/
def varintCodesUptoRow : OpenClaim := { program := "ytmbogbcgnplkcaa", sum := "b6992556d98b44ea29e2a3c4fedc55c6e72af5bcce8fbb20e90cd6f89f1eaf51", func := "tributary/tributarylaw01.VarintCodes", spec := "varintCodes", apart := false, narrowed := true }
def VarintCodesUptoSaid : Prop := varintCodesUptoRow.holds Try.pinned (OpenSpec.upto varintCodesSpec)

/-- 'tributarylaw01.VarintApart', WHERE WHAT IT READS IS OF BULK AT MOST 1048576: true; the input reads as it did. -/
def varintApartUptoRow : OpenClaim := { program := "ytmbogbcgnplkcaa", sum := "b6992556d98b44ea29e2a3c4fedc55c6e72af5bcce8fbb20e90cd6f89f1eaf51", func := "tributary/tributarylaw01.VarintApart", spec := "varintApart", apart := false, narrowed := true }
def VarintApartUptoSaid : Prop := varintApartUptoRow.holds Try.pinned (OpenSpec.upto varintApartSpec)

/-- 'tributarylaw01.VarintReads', WHERE WHAT IT READS IS OF BULK AT MOST 1048576: true; the input reads as it did. -/
def varintReadsUptoRow : OpenClaim := { program := "ytmbogbcgnplkcaa", sum := "b6992556d98b44ea29e2a3c4fedc55c6e72af5bcce8fbb20e90cd6f89f1eaf51", func := "tributary/tributarylaw01.VarintReads", spec := "varintReads", apart := false, narrowed := true }
def VarintReadsUptoSaid : Prop := varintReadsUptoRow.holds Try.pinned (OpenSpec.upto varintReadsSpec)

/-- 'tributarylaw01.VarintBack', WHERE WHAT IT READS IS OF BULK AT MOST 1048576: true; the input reads as it did. -/
def varintBackUptoRow : OpenClaim := { program := "ytmbogbcgnplkcaa", sum := "b6992556d98b44ea29e2a3c4fedc55c6e72af5bcce8fbb20e90cd6f89f1eaf51", func := "tributary/tributarylaw01.VarintBack", spec := "varintBack", apart := false, narrowed := true }
def VarintBackUptoSaid : Prop := varintBackUptoRow.holds Try.pinned (OpenSpec.upto varintBackSpec)

/-- 'tributarylaw01.VarintNobody', WHERE WHAT IT READS IS OF BULK AT MOST 1048576: true; the input reads as it did. -/
def varintNobodyUptoRow : OpenClaim := { program := "ytmbogbcgnplkcaa", sum := "b6992556d98b44ea29e2a3c4fedc55c6e72af5bcce8fbb20e90cd6f89f1eaf51", func := "tributary/tributarylaw01.VarintNobody", spec := "varintNobody", apart := false, narrowed := true }
def VarintNobodyUptoSaid : Prop := varintNobodyUptoRow.holds Try.pinned (OpenSpec.upto varintNobodySpec)

end Rows
end Go.Proofs.Ytmbogbcgnplkcaa
