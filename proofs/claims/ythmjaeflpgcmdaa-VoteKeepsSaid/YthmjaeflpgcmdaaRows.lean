/-
  No cell of these rows narrows 'for every input' (looked for: loops, veiled, ifaces, maps, wideKeys, modest, calm, conditions, laid).
  DERIVED. THE GIVEN ROWS OF THIS SEAT. 3 by the template 'for every input the law returns true; each argument reads behind the call as it read before'; 0 by the template 'total and deterministic' (their statements: YthmjaeflpgcmdaaTotals.lean).
  GIVEN WITH THE SEED: the statements are not yours to turn. If you find one false, say at which input.
  Laid BY PROGRAM, IN A SANDBOX (cutbox-rows.mjs): the forced cells as the released guide's own fill.sh prints them over the translation 221cd60fcefcc9c7… (all of the seat's roots in one cut). By AI agents, Wed Nov 11 2026. No macro, syntax, notation, axiom, sorry.
-/
import Derived.Test.YthmjaeflpgcmdaaChecked
import GoSem.Claim
import GoSem.ClaimJoined
import GoSem.ClaimMapViews
import Derived.JoinedTies
import Derived.KernelRfl
namespace Go.Proofs.Ythmjaeflpgcmdaa
/- THE CELL 'sum', in the pinned program and in every row, IS THE sha256 OF THE DUMP (.gsa) THAT YthmjaeflpgcmdaaProg.lean LOADS. Nothing in Lean hashes anything: it is a label: what it is worth is what the hold of that sum in a sandbox is worth. -/
noncomputable def Try.pinned : Pinned := { name := "ythmjaeflpgcmdaa", sum := "221cd60fcefcc9c7ea0ee0ccd2590f2f6a56cf4caf2f0f6f8c7a757ecb5b4db1", checked := Try.checked }
namespace Rows
def none {H : Type} : Left H := { results := [], args := [] }

/-- 'tributarylaw12.VoteNobody': WHATEVER THE INPUT: true; the input reads as it did. -/
def voteNobodySpec : ChangeSpec := { name := "voteNobody", fn := fun _ => fun
  | [d] => { results := [.lit (.bool true)], args := [d] }
  | _ => none }
def voteNobodyRow : OpenClaim := { program := "ythmjaeflpgcmdaa", sum := "221cd60fcefcc9c7ea0ee0ccd2590f2f6a56cf4caf2f0f6f8c7a757ecb5b4db1", func := "tributary/tributarylaw12.VoteNobody", spec := "voteNobody", unfollowed := true, recurses := true, apart := false }
def VoteNobodySaid : Prop := voteNobodyRow.holds Try.pinned (OpenSpec.ofChange voteNobodySpec)

/-- ITS FALSE NEIGHBOUR: 'it returns false'. Refute it at one input. -/
def voteNobodyWrong : ChangeSpec := { name := "voteNobody", fn := fun _ => fun
  | [d] => { results := [.lit (.bool false)], args := [d] }
  | _ => none }
def VoteNobodyWrongFalsely : Prop := voteNobodyRow.holds Try.pinned (OpenSpec.ofChange voteNobodyWrong)

/-- 'tributarylaw12.VoteKeeps': WHATEVER THE INPUT: true; the input reads as it did. -/
def voteKeepsSpec : ChangeSpec := { name := "voteKeeps", fn := fun _ => fun
  | [d1, d2, d3, d4] => { results := [.lit (.bool true)], args := [d1, d2, d3, d4] }
  | _ => none }
def voteKeepsRow : OpenClaim := { program := "ythmjaeflpgcmdaa", sum := "221cd60fcefcc9c7ea0ee0ccd2590f2f6a56cf4caf2f0f6f8c7a757ecb5b4db1", func := "tributary/tributarylaw12.VoteKeeps", spec := "voteKeeps", unfollowed := true, recurses := true, apart := false }
def VoteKeepsSaid : Prop := voteKeepsRow.holds Try.pinned (OpenSpec.ofChange voteKeepsSpec)

/-- ITS FALSE NEIGHBOUR: 'it returns false'. Refute it at one input. -/
def voteKeepsWrong : ChangeSpec := { name := "voteKeeps", fn := fun _ => fun
  | [d1, d2, d3, d4] => { results := [.lit (.bool false)], args := [d1, d2, d3, d4] }
  | _ => none }
def VoteKeepsWrongFalsely : Prop := voteKeepsRow.holds Try.pinned (OpenSpec.ofChange voteKeepsWrong)

/-- 'tributarylaw12.VoteSnaps': WHATEVER THE INPUT: true; the input reads as it did. -/
def voteSnapsSpec : ChangeSpec := { name := "voteSnaps", fn := fun _ => fun
  | [d1, d2, d3, d4] => { results := [.lit (.bool true)], args := [d1, d2, d3, d4] }
  | _ => none }
def voteSnapsRow : OpenClaim := { program := "ythmjaeflpgcmdaa", sum := "221cd60fcefcc9c7ea0ee0ccd2590f2f6a56cf4caf2f0f6f8c7a757ecb5b4db1", func := "tributary/tributarylaw12.VoteSnaps", spec := "voteSnaps", unfollowed := true, recurses := true, apart := false }
def VoteSnapsSaid : Prop := voteSnapsRow.holds Try.pinned (OpenSpec.ofChange voteSnapsSpec)

/-- ITS FALSE NEIGHBOUR: 'it returns false'. Refute it at one input. -/
def voteSnapsWrong : ChangeSpec := { name := "voteSnaps", fn := fun _ => fun
  | [d1, d2, d3, d4] => { results := [.lit (.bool false)], args := [d1, d2, d3, d4] }
  | _ => none }
def VoteSnapsWrongFalsely : Prop := voteSnapsRow.holds Try.pinned (OpenSpec.ofChange voteSnapsWrong)

/- THE SECOND FORM. 'bulk': how many values and letters a reading holds, each counted each time it is reached (what is shared counts as often as it is met; a slice's spare places count too). A statement '..UptoSaid' is the law's where the arguments, and the package variables that the reading takes, are together of bulk at most 1048576: NARROWER than '..Said'. Prove '..Said' where nothing that the law and all that it calls make is longer than what came in: it says more and counts as full. Else prove '..UptoSaid'. A law counts once. -/
mutual
def uptoBulk {H : Type} : DataW H → Nat
  | .lit (.string bytes) => bytes.length + 1
  | .lit _ => 1
  | .nil => 1
  | .ptr d => uptoBulk d + 1
  | .slice elems spare => uptoBulkAll elems + uptoBulkAll spare + 1
  | .agg parts => uptoBulkAll parts + 1
  | .iface _ d => uptoBulk d + 1
  | .map entries => uptoBulkEntries entries + 1
  | .held _ => 1
def uptoBulkAll {H : Type} : List (DataW H) → Nat
  | [] => 0
  | d :: r => uptoBulk d + uptoBulkAll r
def uptoBulkEntries {H : Type} : List (Lit × DataW H) → Nat
  | [] => 0
  | x :: r => uptoBulkEntry x + uptoBulkEntries r
def uptoBulkEntry {H : Type} : Lit × DataW H → Nat
  | (.string bytes, d) => bytes.length + uptoBulk d + 1
  | (_, d) => uptoBulk d + 1
 end
def uptoSmall : (H : Type) → List (DataW H) → Bool := fun _ ds => decide (uptoBulkAll ds ≤ 1048576)
def OpenSpec.upto (s : _root_.Go.ChangeSpec) : _root_.Go.OpenSpec := { _root_.Go.OpenSpec.ofChange s with cond := some uptoSmall }

/-- 'tributarylaw12.VoteNobody', WHERE WHAT IT READS IS OF BULK AT MOST 1048576: true; the input reads as it did. -/
def voteNobodyUptoRow : OpenClaim := { program := "ythmjaeflpgcmdaa", sum := "221cd60fcefcc9c7ea0ee0ccd2590f2f6a56cf4caf2f0f6f8c7a757ecb5b4db1", func := "tributary/tributarylaw12.VoteNobody", spec := "voteNobody", unfollowed := true, recurses := true, apart := false, narrowed := true }
def VoteNobodyUptoSaid : Prop := voteNobodyUptoRow.holds Try.pinned (OpenSpec.upto voteNobodySpec)

/-- 'tributarylaw12.VoteKeeps', WHERE WHAT IT READS IS OF BULK AT MOST 1048576: true; the input reads as it did. -/
def voteKeepsUptoRow : OpenClaim := { program := "ythmjaeflpgcmdaa", sum := "221cd60fcefcc9c7ea0ee0ccd2590f2f6a56cf4caf2f0f6f8c7a757ecb5b4db1", func := "tributary/tributarylaw12.VoteKeeps", spec := "voteKeeps", unfollowed := true, recurses := true, apart := false, narrowed := true }
def VoteKeepsUptoSaid : Prop := voteKeepsUptoRow.holds Try.pinned (OpenSpec.upto voteKeepsSpec)

/-- 'tributarylaw12.VoteSnaps', WHERE WHAT IT READS IS OF BULK AT MOST 1048576: true; the input reads as it did. -/
def voteSnapsUptoRow : OpenClaim := { program := "ythmjaeflpgcmdaa", sum := "221cd60fcefcc9c7ea0ee0ccd2590f2f6a56cf4caf2f0f6f8c7a757ecb5b4db1", func := "tributary/tributarylaw12.VoteSnaps", spec := "voteSnaps", unfollowed := true, recurses := true, apart := false, narrowed := true }
def VoteSnapsUptoSaid : Prop := voteSnapsUptoRow.holds Try.pinned (OpenSpec.upto voteSnapsSpec)

end Rows
end Go.Proofs.Ythmjaeflpgcmdaa
