/-
  NARROWER THAN 'FOR EVERY INPUT', by the rows' own cells (each row's printed sentence says how): ImageDoes: loops · ImageCodes: loops · ImageExpires: loops · ImageNobody: loops.
  DERIVED. THE GIVEN ROWS OF THIS SEAT. 5 by the template 'for every input the law returns true; each argument reads behind the call as it read before'; 0 by the template 'total and deterministic' (their statements: YtmbjojnldbeicaaTotals.lean).
  GIVEN WITH THE SEED: the statements are not yours to turn. If you find one false, say at which input.
  Laid BY PROGRAM, IN A SANDBOX (cutbox-rows.mjs): the forced cells as the released guide's own fill.sh prints them over the translation a671a372f9fa84e0… (all of the seat's roots in one cut). By AI agents, Wed Nov 11 2026. No macro, syntax, notation, axiom, sorry.
-/
import Derived.Test.YtmbjojnldbeicaaChecked
import GoSem.Claim
import GoSem.ClaimJoined
import GoSem.ClaimMapViews
import Derived.JoinedTies
import Derived.KernelRfl
namespace Go.Proofs.Ytmbjojnldbeicaa
/- THE CELL 'sum', in the pinned program and in every row, IS THE sha256 OF THE DUMP (.gsa) THAT YtmbjojnldbeicaaProg.lean LOADS. Nothing in Lean hashes anything: it is a label: what it is worth is what the hold of that sum in a sandbox is worth. -/
noncomputable def Try.pinned : Pinned := { name := "ytmbjojnldbeicaa", sum := "a671a372f9fa84e096bfb5ee8d4a775ba84f555c6905daf23c4a838251147ce4", checked := Try.checked }
namespace Rows
def none {H : Type} : Left H := { results := [], args := [] }

/-- 'tributarylaw16.ImageDoes': WHATEVER THE INPUT: true; the input reads as it did. -/
def imageDoesSpec : ChangeSpec := { name := "imageDoes", fn := fun _ => fun
  | [d1, d2, d3, d4] => { results := [.lit (.bool true)], args := [d1, d2, d3, d4] }
  | _ => none }
def imageDoesRow : OpenClaim := { program := "ytmbjojnldbeicaa", sum := "a671a372f9fa84e096bfb5ee8d4a775ba84f555c6905daf23c4a838251147ce4", func := "tributary/tributarylaw16.ImageDoes", spec := "imageDoes", inPlace := ["internal/bytealg.IndexByteString", "internal/bytealg.IndexString"], unfollowed := true, recurses := true, named := ["internal/bytealg.MaxLen"], loops := true, apart := false }
def ImageDoesSaid : Prop := imageDoesRow.holds Try.pinned (OpenSpec.ofChange imageDoesSpec)

/-- ITS FALSE NEIGHBOUR: 'it returns false'. Refute it at one input. -/
def imageDoesWrong : ChangeSpec := { name := "imageDoes", fn := fun _ => fun
  | [d1, d2, d3, d4] => { results := [.lit (.bool false)], args := [d1, d2, d3, d4] }
  | _ => none }
def ImageDoesWrongFalsely : Prop := imageDoesRow.holds Try.pinned (OpenSpec.ofChange imageDoesWrong)

/-- 'tributarylaw16.ImageCodes': WHATEVER THE INPUT: true; the input reads as it did. -/
def imageCodesSpec : ChangeSpec := { name := "imageCodes", fn := fun _ => fun
  | [d1, d2, d3] => { results := [.lit (.bool true)], args := [d1, d2, d3] }
  | _ => none }
def imageCodesRow : OpenClaim := { program := "ytmbjojnldbeicaa", sum := "a671a372f9fa84e096bfb5ee8d4a775ba84f555c6905daf23c4a838251147ce4", func := "tributary/tributarylaw16.ImageCodes", spec := "imageCodes", inPlace := ["internal/bytealg.IndexByteString", "internal/bytealg.IndexString"], unfollowed := true, recurses := true, named := ["internal/bytealg.MaxLen"], loops := true, apart := false }
def ImageCodesSaid : Prop := imageCodesRow.holds Try.pinned (OpenSpec.ofChange imageCodesSpec)

/-- ITS FALSE NEIGHBOUR: 'it returns false'. Refute it at one input. -/
def imageCodesWrong : ChangeSpec := { name := "imageCodes", fn := fun _ => fun
  | [d1, d2, d3] => { results := [.lit (.bool false)], args := [d1, d2, d3] }
  | _ => none }
def ImageCodesWrongFalsely : Prop := imageCodesRow.holds Try.pinned (OpenSpec.ofChange imageCodesWrong)

/-- 'tributarylaw16.ImageReads': WHATEVER THE INPUT: true; the input reads as it did. -/
def imageReadsSpec : ChangeSpec := { name := "imageReads", fn := fun _ => fun
  | [d1, d2] => { results := [.lit (.bool true)], args := [d1, d2] }
  | _ => none }
def imageReadsRow : OpenClaim := { program := "ytmbjojnldbeicaa", sum := "a671a372f9fa84e096bfb5ee8d4a775ba84f555c6905daf23c4a838251147ce4", func := "tributary/tributarylaw16.ImageReads", spec := "imageReads", inPlace := ["internal/bytealg.IndexByteString", "internal/bytealg.IndexString"], unfollowed := true, recurses := true, named := ["internal/bytealg.MaxLen"], apart := false }
def ImageReadsSaid : Prop := imageReadsRow.holds Try.pinned (OpenSpec.ofChange imageReadsSpec)

/-- ITS FALSE NEIGHBOUR: 'it returns false'. Refute it at one input. -/
def imageReadsWrong : ChangeSpec := { name := "imageReads", fn := fun _ => fun
  | [d1, d2] => { results := [.lit (.bool false)], args := [d1, d2] }
  | _ => none }
def ImageReadsWrongFalsely : Prop := imageReadsRow.holds Try.pinned (OpenSpec.ofChange imageReadsWrong)

/-- 'tributarylaw16.ImageExpires': WHATEVER THE INPUT: true; the input reads as it did. -/
def imageExpiresSpec : ChangeSpec := { name := "imageExpires", fn := fun _ => fun
  | [d1, d2, d3] => { results := [.lit (.bool true)], args := [d1, d2, d3] }
  | _ => none }
def imageExpiresRow : OpenClaim := { program := "ytmbjojnldbeicaa", sum := "a671a372f9fa84e096bfb5ee8d4a775ba84f555c6905daf23c4a838251147ce4", func := "tributary/tributarylaw16.ImageExpires", spec := "imageExpires", inPlace := ["internal/bytealg.IndexByteString", "internal/bytealg.IndexString"], unfollowed := true, recurses := true, named := ["internal/bytealg.MaxLen"], loops := true, apart := false }
def ImageExpiresSaid : Prop := imageExpiresRow.holds Try.pinned (OpenSpec.ofChange imageExpiresSpec)

/-- ITS FALSE NEIGHBOUR: 'it returns false'. Refute it at one input. -/
def imageExpiresWrong : ChangeSpec := { name := "imageExpires", fn := fun _ => fun
  | [d1, d2, d3] => { results := [.lit (.bool false)], args := [d1, d2, d3] }
  | _ => none }
def ImageExpiresWrongFalsely : Prop := imageExpiresRow.holds Try.pinned (OpenSpec.ofChange imageExpiresWrong)

/-- 'tributarylaw16.ImageNobody': WHATEVER THE INPUT: true; the input reads as it did. -/
def imageNobodySpec : ChangeSpec := { name := "imageNobody", fn := fun _ => fun
  | [d1, d2] => { results := [.lit (.bool true)], args := [d1, d2] }
  | _ => none }
def imageNobodyRow : OpenClaim := { program := "ytmbjojnldbeicaa", sum := "a671a372f9fa84e096bfb5ee8d4a775ba84f555c6905daf23c4a838251147ce4", func := "tributary/tributarylaw16.ImageNobody", spec := "imageNobody", inPlace := ["internal/bytealg.IndexByteString", "internal/bytealg.IndexString"], unfollowed := true, recurses := true, named := ["internal/bytealg.MaxLen"], loops := true, apart := false }
def ImageNobodySaid : Prop := imageNobodyRow.holds Try.pinned (OpenSpec.ofChange imageNobodySpec)

/-- ITS FALSE NEIGHBOUR: 'it returns false'. Refute it at one input. -/
def imageNobodyWrong : ChangeSpec := { name := "imageNobody", fn := fun _ => fun
  | [d1, d2] => { results := [.lit (.bool false)], args := [d1, d2] }
  | _ => none }
def ImageNobodyWrongFalsely : Prop := imageNobodyRow.holds Try.pinned (OpenSpec.ofChange imageNobodyWrong)

/- THE SECOND FORM. 'bulk': how many values and letters a reading holds, each counted each time it is reached (what is shared counts as often as it is met; a slice's spare places count too). A statement '..UptoSaid' is the law's where the arguments, and the package variables that the reading takes, are together of bulk at most 1048576: NARROWER than '..Said'. Prove '..Said' where nothing that the law and all that it calls make is longer than what came in: it says more and counts as full. Else prove '..UptoSaid'. A law counts once. -/
mutual
def uptoBulk {H : Type} : DataW H → Nat
  | .lit (.string bytes) => bytes.length + 1
  | .lit _ => 1
  | .nil => 1
  | .ptr d => uptoBulk d + 1
  | .slice elems spare => uptoBulkAll elems + uptoBulkAll spare + 1
  | .agg parts => uptoBulkAll parts + 1
  | .iface _ d => uptoBulk d + 1
  | .map entries => uptoBulkEntries entries + 1
  | .held _ => 1
def uptoBulkAll {H : Type} : List (DataW H) → Nat
  | [] => 0
  | d :: r => uptoBulk d + uptoBulkAll r
def uptoBulkEntries {H : Type} : List (Lit × DataW H) → Nat
  | [] => 0
  | x :: r => uptoBulkEntry x + uptoBulkEntries r
def uptoBulkEntry {H : Type} : Lit × DataW H → Nat
  | (.string bytes, d) => bytes.length + uptoBulk d + 1
  | (_, d) => uptoBulk d + 1
 end
def uptoSmall : (H : Type) → List (DataW H) → Bool := fun _ ds => decide (uptoBulkAll ds ≤ 1048576)
def OpenSpec.upto (s : _root_.Go.ChangeSpec) : _root_.Go.OpenSpec := { _root_.Go.OpenSpec.ofChange s with cond := some uptoSmall }

/-- 'tributarylaw16.ImageDoes', WHERE WHAT IT READS IS OF BULK AT MOST 1048576: true; the input reads as it did. -/
def imageDoesUptoRow : OpenClaim := { program := "ytmbjojnldbeicaa", sum := "a671a372f9fa84e096bfb5ee8d4a775ba84f555c6905daf23c4a838251147ce4", func := "tributary/tributarylaw16.ImageDoes", spec := "imageDoes", inPlace := ["internal/bytealg.IndexByteString", "internal/bytealg.IndexString"], unfollowed := true, recurses := true, named := ["internal/bytealg.MaxLen"], loops := true, apart := false, narrowed := true }
def ImageDoesUptoSaid : Prop := imageDoesUptoRow.holds Try.pinned (OpenSpec.upto imageDoesSpec)

/-- 'tributarylaw16.ImageCodes', WHERE WHAT IT READS IS OF BULK AT MOST 1048576: true; the input reads as it did. -/
def imageCodesUptoRow : OpenClaim := { program := "ytmbjojnldbeicaa", sum := "a671a372f9fa84e096bfb5ee8d4a775ba84f555c6905daf23c4a838251147ce4", func := "tributary/tributarylaw16.ImageCodes", spec := "imageCodes", inPlace := ["internal/bytealg.IndexByteString", "internal/bytealg.IndexString"], unfollowed := true, recurses := true, named := ["internal/bytealg.MaxLen"], loops := true, apart := false, narrowed := true }
def ImageCodesUptoSaid : Prop := imageCodesUptoRow.holds Try.pinned (OpenSpec.upto imageCodesSpec)

/-- 'tributarylaw16.ImageReads', WHERE WHAT IT READS IS OF BULK AT MOST 1048576: true; the input reads as it did. -/
def imageReadsUptoRow : OpenClaim := { program := "ytmbjojnldbeicaa", sum := "a671a372f9fa84e096bfb5ee8d4a775ba84f555c6905daf23c4a838251147ce4", func := "tributary/tributarylaw16.ImageReads", spec := "imageReads", inPlace := ["internal/bytealg.IndexByteString", "internal/bytealg.IndexString"], unfollowed := true, recurses := true, named := ["internal/bytealg.MaxLen"], apart := false, narrowed := true }
def ImageReadsUptoSaid : Prop := imageReadsUptoRow.holds Try.pinned (OpenSpec.upto imageReadsSpec)

/-- 'tributarylaw16.ImageExpires', WHERE WHAT IT READS IS OF BULK AT MOST 1048576: true; the input reads as it did. -/
def imageExpiresUptoRow : OpenClaim := { program := "ytmbjojnldbeicaa", sum := "a671a372f9fa84e096bfb5ee8d4a775ba84f555c6905daf23c4a838251147ce4", func := "tributary/tributarylaw16.ImageExpires", spec := "imageExpires", inPlace := ["internal/bytealg.IndexByteString", "internal/bytealg.IndexString"], unfollowed := true, recurses := true, named := ["internal/bytealg.MaxLen"], loops := true, apart := false, narrowed := true }
def ImageExpiresUptoSaid : Prop := imageExpiresUptoRow.holds Try.pinned (OpenSpec.upto imageExpiresSpec)

/-- 'tributarylaw16.ImageNobody', WHERE WHAT IT READS IS OF BULK AT MOST 1048576: true; the input reads as it did. -/
def imageNobodyUptoRow : OpenClaim := { program := "ytmbjojnldbeicaa", sum := "a671a372f9fa84e096bfb5ee8d4a775ba84f555c6905daf23c4a838251147ce4", func := "tributary/tributarylaw16.ImageNobody", spec := "imageNobody", inPlace := ["internal/bytealg.IndexByteString", "internal/bytealg.IndexString"], unfollowed := true, recurses := true, named := ["internal/bytealg.MaxLen"], loops := true, apart := false, narrowed := true }
def ImageNobodyUptoSaid : Prop := imageNobodyUptoRow.holds Try.pinned (OpenSpec.upto imageNobodySpec)

end Rows
end Go.Proofs.Ytmbjojnldbeicaa
