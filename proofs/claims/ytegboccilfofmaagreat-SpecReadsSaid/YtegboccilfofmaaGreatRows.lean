/-
  NARROWER THAN 'FOR EVERY INPUT', by the rows' own cells (each row's printed sentence says how): SpecCodes: loops.
  DERIVED. THE GIVEN ROWS OF THIS SEAT. 2 by the template 'for every input the law returns true; each argument reads behind the call as it read before'; 0 by the template 'total and deterministic' (their statements: YtegboccilfofmaaGreatTotals.lean).
  GIVEN WITH THE SEED: the statements are not yours to turn. If you find one false, say at which input.
  Laid BY PROGRAM, IN A SANDBOX (cutbox-rows.mjs): the forced cells as the released guide's own fill.sh prints them over the translation 8e9927ac115afc8c… (all of the seat's roots in one cut). By AI agents, Wed Nov 11 2026. No macro, syntax, notation, axiom, sorry.
-/
import Derived.Test.YtegboccilfofmaaGreatChecked
import GoSem.Claim
import GoSem.ClaimJoined
import GoSem.ClaimMapViews
import Derived.JoinedTies
import Derived.KernelRfl
namespace Go.Proofs.YtegboccilfofmaaGreat
/- THE CELL 'sum', in the pinned program and in every row, IS THE sha256 OF THE DUMP (.gsa) THAT YtegboccilfofmaaGreatProg.lean LOADS. Nothing in Lean hashes anything: it is a label: what it is worth is what the hold of that sum in a sandbox is worth. -/
noncomputable def Tryz.pinned : Pinned := { name := "ytegboccilfofmaagreat", sum := "8e9927ac115afc8cb21ff96b091e278b780cb6e1bf25d97e1a410769c5df2016", checked := Tryz.checked }
namespace Rows
def none {H : Type} : Left H := { results := [], args := [] }

/-- 'tributarylaw07.SpecCodes': WHATEVER THE INPUT: true; the input reads as it did. -/
def specCodesSpec : ChangeSpec := { name := "specCodes", fn := fun _ => fun
  | [d1, d2] => { results := [.lit (.bool true)], args := [d1, d2] }
  | _ => none }
def specCodesRow : OpenClaim := { program := "ytegboccilfofmaagreat", sum := "8e9927ac115afc8cb21ff96b091e278b780cb6e1bf25d97e1a410769c5df2016", func := "tributary/tributarylaw07.SpecCodes", spec := "specCodes", inPlace := ["internal/bytealg.IndexByteString", "internal/bytealg.IndexString"], unfollowed := true, recurses := true, named := ["internal/bytealg.MaxLen"], loops := true, apart := false }
def SpecCodesSaid : Prop := specCodesRow.holds Tryz.pinned (OpenSpec.ofChange specCodesSpec)

/-- ITS FALSE NEIGHBOUR: 'it returns false'. Refute it at one input. -/
def specCodesWrong : ChangeSpec := { name := "specCodes", fn := fun _ => fun
  | [d1, d2] => { results := [.lit (.bool false)], args := [d1, d2] }
  | _ => none }
def SpecCodesWrongFalsely : Prop := specCodesRow.holds Tryz.pinned (OpenSpec.ofChange specCodesWrong)

/-- 'tributarylaw07.SpecReads': WHATEVER THE INPUT: true; the input reads as it did. -/
def specReadsSpec : ChangeSpec := { name := "specReads", fn := fun _ => fun
  | [d1, d2] => { results := [.lit (.bool true)], args := [d1, d2] }
  | _ => none }
def specReadsRow : OpenClaim := { program := "ytegboccilfofmaagreat", sum := "8e9927ac115afc8cb21ff96b091e278b780cb6e1bf25d97e1a410769c5df2016", func := "tributary/tributarylaw07.SpecReads", spec := "specReads", inPlace := ["internal/bytealg.IndexByteString", "internal/bytealg.IndexString"], unfollowed := true, recurses := true, named := ["internal/bytealg.MaxLen"], apart := false }
def SpecReadsSaid : Prop := specReadsRow.holds Tryz.pinned (OpenSpec.ofChange specReadsSpec)

/-- ITS FALSE NEIGHBOUR: 'it returns false'. Refute it at one input. -/
def specReadsWrong : ChangeSpec := { name := "specReads", fn := fun _ => fun
  | [d1, d2] => { results := [.lit (.bool false)], args := [d1, d2] }
  | _ => none }
def SpecReadsWrongFalsely : Prop := specReadsRow.holds Tryz.pinned (OpenSpec.ofChange specReadsWrong)

/- THE SECOND FORM. 'bulk': how many values and letters a reading holds, each counted each time it is reached (what is shared counts as often as it is met; a slice's spare places count too). A statement '..UptoSaid' is the law's where the arguments, and the package variables that the reading takes, are together of bulk at most 1048576: NARROWER than '..Said'. Prove '..Said' where nothing that the law and all that it calls make is longer than what came in: it says more and counts as full. Else prove '..UptoSaid'. A law counts once. -/
mutual
def uptoBulk {H : Type} : DataW H → Nat
  | .lit (.string bytes) => bytes.length + 1
  | .lit _ => 1
  | .nil => 1
  | .ptr d => uptoBulk d + 1
  | .slice elems spare => uptoBulkAll elems + uptoBulkAll spare + 1
  | .agg parts => uptoBulkAll parts + 1
  | .iface _ d => uptoBulk d + 1
  | .map entries => uptoBulkEntries entries + 1
  | .held _ => 1
def uptoBulkAll {H : Type} : List (DataW H) → Nat
  | [] => 0
  | d :: r => uptoBulk d + uptoBulkAll r
def uptoBulkEntries {H : Type} : List (Lit × DataW H) → Nat
  | [] => 0
  | x :: r => uptoBulkEntry x + uptoBulkEntries r
def uptoBulkEntry {H : Type} : Lit × DataW H → Nat
  | (.string bytes, d) => bytes.length + uptoBulk d + 1
  | (_, d) => uptoBulk d + 1
 end
def uptoSmall : (H : Type) → List (DataW H) → Bool := fun _ ds => decide (uptoBulkAll ds ≤ 1048576)
def OpenSpec.upto (s : _root_.Go.ChangeSpec) : _root_.Go.OpenSpec := { _root_.Go.OpenSpec.ofChange s with cond := some uptoSmall }

/-- 'tributarylaw07.SpecCodes', WHERE WHAT IT READS IS OF BULK AT MOST 1048576: true; the input reads as it did. -/
def specCodesUptoRow : OpenClaim := { program := "ytegboccilfofmaagreat", sum := "8e9927ac115afc8cb21ff96b091e278b780cb6e1bf25d97e1a410769c5df2016", func := "tributary/tributarylaw07.SpecCodes", spec := "specCodes", inPlace := ["internal/bytealg.IndexByteString", "internal/bytealg.IndexString"], unfollowed := true, recurses := true, named := ["internal/bytealg.MaxLen"], loops := true, apart := false, narrowed := true }
def SpecCodesUptoSaid : Prop := specCodesUptoRow.holds Tryz.pinned (OpenSpec.upto specCodesSpec)

/-- 'tributarylaw07.SpecReads', WHERE WHAT IT READS IS OF BULK AT MOST 1048576: true; the input reads as it did. -/
def specReadsUptoRow : OpenClaim := { program := "ytegboccilfofmaagreat", sum := "8e9927ac115afc8cb21ff96b091e278b780cb6e1bf25d97e1a410769c5df2016", func := "tributary/tributarylaw07.SpecReads", spec := "specReads", inPlace := ["internal/bytealg.IndexByteString", "internal/bytealg.IndexString"], unfollowed := true, recurses := true, named := ["internal/bytealg.MaxLen"], apart := false, narrowed := true }
def SpecReadsUptoSaid : Prop := specReadsUptoRow.holds Tryz.pinned (OpenSpec.upto specReadsSpec)

end Rows
end Go.Proofs.YtegboccilfofmaaGreat
