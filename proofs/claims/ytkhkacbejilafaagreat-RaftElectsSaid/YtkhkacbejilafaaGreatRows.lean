/-
  NARROWER THAN 'FOR EVERY INPUT', by the rows' own cells (each row's printed sentence says how): RaftSteps: loops · RaftStarts: loops · RaftCompacts: loops · RaftNobody: loops.
  DERIVED. THE GIVEN ROWS OF THIS SEAT. 7 by the template 'for every input the law returns true; each argument reads behind the call as it read before'; 0 by the template 'total and deterministic' (their statements: YtkhkacbejilafaaGreatTotals.lean).
  GIVEN WITH THE SEED: the statements are not yours to turn. If you find one false, say at which input.
  Laid BY PROGRAM, IN A SANDBOX (cutbox-rows.mjs): the forced cells as the released guide's own fill.sh prints them over the translation cb99f0d324f5ce83… (all of the seat's roots in one cut). By AI agents, Wed Nov 11 2026. No macro, syntax, notation, axiom, sorry.
-/
import Derived.Test.YtkhkacbejilafaaGreatChecked
import GoSem.Claim
import GoSem.ClaimJoined
import GoSem.ClaimMapViews
import Derived.JoinedTies
import Derived.KernelRfl
namespace Go.Proofs.YtkhkacbejilafaaGreat
/- THE CELL 'sum', in the pinned program and in every row, IS THE sha256 OF THE DUMP (.gsa) THAT YtkhkacbejilafaaGreatProg.lean LOADS. Nothing in Lean hashes anything: it is a label: what it is worth is what the hold of that sum in a sandbox is worth. -/
noncomputable def Tryz.pinned : Pinned := { name := "ytkhkacbejilafaagreat", sum := "cb99f0d324f5ce8332d40e8de527226486498206ab081afd2ca758074e14b0f5", checked := Tryz.checked }
namespace Rows
def none {H : Type} : Left H := { results := [], args := [] }

/-- 'tributarylaw23.RaftSteps': WHATEVER THE INPUT: true; the input reads as it did. -/
def raftStepsSpec : ChangeSpec := { name := "raftSteps", fn := fun _ => fun
  | [d1, d2] => { results := [.lit (.bool true)], args := [d1, d2] }
  | _ => none }
def raftStepsRow : OpenClaim := { program := "ytkhkacbejilafaagreat", sum := "cb99f0d324f5ce8332d40e8de527226486498206ab081afd2ca758074e14b0f5", func := "tributary/tributarylaw23.RaftSteps", spec := "raftSteps", inPlace := ["internal/bytealg.IndexByteString", "internal/bytealg.IndexString", "internal/bytealg.abigen_runtime_cmpstring"], unfollowed := true, recurses := true, named := ["internal/bytealg.MaxLen"], loops := true, apart := false }
def RaftStepsSaid : Prop := raftStepsRow.holds Tryz.pinned (OpenSpec.ofChange raftStepsSpec)

/-- ITS FALSE NEIGHBOUR: 'it returns false'. Refute it at one input. -/
def raftStepsWrong : ChangeSpec := { name := "raftSteps", fn := fun _ => fun
  | [d1, d2] => { results := [.lit (.bool false)], args := [d1, d2] }
  | _ => none }
def RaftStepsWrongFalsely : Prop := raftStepsRow.holds Tryz.pinned (OpenSpec.ofChange raftStepsWrong)

/-- 'tributarylaw23.RaftElects': WHATEVER THE INPUT: true; the input reads as it did. -/
def raftElectsSpec : ChangeSpec := { name := "raftElects", fn := fun _ => fun
  | [d] => { results := [.lit (.bool true)], args := [d] }
  | _ => none }
def raftElectsRow : OpenClaim := { program := "ytkhkacbejilafaagreat", sum := "cb99f0d324f5ce8332d40e8de527226486498206ab081afd2ca758074e14b0f5", func := "tributary/tributarylaw23.RaftElects", spec := "raftElects", inPlace := ["internal/bytealg.IndexByteString", "internal/bytealg.IndexString", "internal/bytealg.abigen_runtime_cmpstring"], unfollowed := true, recurses := true, named := ["internal/bytealg.MaxLen"], apart := false }
def RaftElectsSaid : Prop := raftElectsRow.holds Tryz.pinned (OpenSpec.ofChange raftElectsSpec)

/-- ITS FALSE NEIGHBOUR: 'it returns false'. Refute it at one input. -/
def raftElectsWrong : ChangeSpec := { name := "raftElects", fn := fun _ => fun
  | [d] => { results := [.lit (.bool false)], args := [d] }
  | _ => none }
def RaftElectsWrongFalsely : Prop := raftElectsRow.holds Tryz.pinned (OpenSpec.ofChange raftElectsWrong)

/-- 'tributarylaw23.RaftStarts': WHATEVER THE INPUT: true; the input reads as it did. -/
def raftStartsSpec : ChangeSpec := { name := "raftStarts", fn := fun _ => fun
  | [d1, d2] => { results := [.lit (.bool true)], args := [d1, d2] }
  | _ => none }
def raftStartsRow : OpenClaim := { program := "ytkhkacbejilafaagreat", sum := "cb99f0d324f5ce8332d40e8de527226486498206ab081afd2ca758074e14b0f5", func := "tributary/tributarylaw23.RaftStarts", spec := "raftStarts", inPlace := ["internal/bytealg.IndexByteString", "internal/bytealg.IndexString", "internal/bytealg.abigen_runtime_cmpstring"], unfollowed := true, recurses := true, named := ["internal/bytealg.MaxLen"], loops := true, apart := false }
def RaftStartsSaid : Prop := raftStartsRow.holds Tryz.pinned (OpenSpec.ofChange raftStartsSpec)

/-- ITS FALSE NEIGHBOUR: 'it returns false'. Refute it at one input. -/
def raftStartsWrong : ChangeSpec := { name := "raftStarts", fn := fun _ => fun
  | [d1, d2] => { results := [.lit (.bool false)], args := [d1, d2] }
  | _ => none }
def RaftStartsWrongFalsely : Prop := raftStartsRow.holds Tryz.pinned (OpenSpec.ofChange raftStartsWrong)

/-- 'tributarylaw23.RaftCompacts': WHATEVER THE INPUT: true; the input reads as it did. -/
def raftCompactsSpec : ChangeSpec := { name := "raftCompacts", fn := fun _ => fun
  | [d1, d2, d3] => { results := [.lit (.bool true)], args := [d1, d2, d3] }
  | _ => none }
def raftCompactsRow : OpenClaim := { program := "ytkhkacbejilafaagreat", sum := "cb99f0d324f5ce8332d40e8de527226486498206ab081afd2ca758074e14b0f5", func := "tributary/tributarylaw23.RaftCompacts", spec := "raftCompacts", inPlace := ["internal/bytealg.IndexByteString", "internal/bytealg.IndexString", "internal/bytealg.abigen_runtime_cmpstring"], unfollowed := true, recurses := true, named := ["internal/bytealg.MaxLen"], loops := true, apart := false }
def RaftCompactsSaid : Prop := raftCompactsRow.holds Tryz.pinned (OpenSpec.ofChange raftCompactsSpec)

/-- ITS FALSE NEIGHBOUR: 'it returns false'. Refute it at one input. -/
def raftCompactsWrong : ChangeSpec := { name := "raftCompacts", fn := fun _ => fun
  | [d1, d2, d3] => { results := [.lit (.bool false)], args := [d1, d2, d3] }
  | _ => none }
def RaftCompactsWrongFalsely : Prop := raftCompactsRow.holds Tryz.pinned (OpenSpec.ofChange raftCompactsWrong)

/-- 'tributarylaw23.RaftSafe': WHATEVER THE INPUT: true; the input reads as it did. -/
def raftSafeSpec : ChangeSpec := { name := "raftSafe", fn := fun _ => fun
  | [d1, d2] => { results := [.lit (.bool true)], args := [d1, d2] }
  | _ => none }
def raftSafeRow : OpenClaim := { program := "ytkhkacbejilafaagreat", sum := "cb99f0d324f5ce8332d40e8de527226486498206ab081afd2ca758074e14b0f5", func := "tributary/tributarylaw23.RaftSafe", spec := "raftSafe", inPlace := ["internal/bytealg.IndexByteString", "internal/bytealg.IndexString", "internal/bytealg.abigen_runtime_cmpstring"], unfollowed := true, recurses := true, named := ["internal/bytealg.MaxLen"], apart := false }
def RaftSafeSaid : Prop := raftSafeRow.holds Tryz.pinned (OpenSpec.ofChange raftSafeSpec)

/-- ITS FALSE NEIGHBOUR: 'it returns false'. Refute it at one input. -/
def raftSafeWrong : ChangeSpec := { name := "raftSafe", fn := fun _ => fun
  | [d1, d2] => { results := [.lit (.bool false)], args := [d1, d2] }
  | _ => none }
def RaftSafeWrongFalsely : Prop := raftSafeRow.holds Tryz.pinned (OpenSpec.ofChange raftSafeWrong)

/-- 'tributarylaw23.RaftCommits': WHATEVER THE INPUT: true; the input reads as it did. -/
def raftCommitsSpec : ChangeSpec := { name := "raftCommits", fn := fun _ => fun
  | [d1, d2, d3] => { results := [.lit (.bool true)], args := [d1, d2, d3] }
  | _ => none }
def raftCommitsRow : OpenClaim := { program := "ytkhkacbejilafaagreat", sum := "cb99f0d324f5ce8332d40e8de527226486498206ab081afd2ca758074e14b0f5", func := "tributary/tributarylaw23.RaftCommits", spec := "raftCommits", inPlace := ["internal/bytealg.IndexByteString", "internal/bytealg.IndexString", "internal/bytealg.abigen_runtime_cmpstring"], unfollowed := true, recurses := true, named := ["internal/bytealg.MaxLen"], apart := false }
def RaftCommitsSaid : Prop := raftCommitsRow.holds Tryz.pinned (OpenSpec.ofChange raftCommitsSpec)

/-- ITS FALSE NEIGHBOUR: 'it returns false'. Refute it at one input. -/
def raftCommitsWrong : ChangeSpec := { name := "raftCommits", fn := fun _ => fun
  | [d1, d2, d3] => { results := [.lit (.bool false)], args := [d1, d2, d3] }
  | _ => none }
def RaftCommitsWrongFalsely : Prop := raftCommitsRow.holds Tryz.pinned (OpenSpec.ofChange raftCommitsWrong)

/-- 'tributarylaw23.RaftNobody': WHATEVER THE INPUT: true; the input reads as it did. -/
def raftNobodySpec : ChangeSpec := { name := "raftNobody", fn := fun _ => fun
  | [d1, d2, d3] => { results := [.lit (.bool true)], args := [d1, d2, d3] }
  | _ => none }
def raftNobodyRow : OpenClaim := { program := "ytkhkacbejilafaagreat", sum := "cb99f0d324f5ce8332d40e8de527226486498206ab081afd2ca758074e14b0f5", func := "tributary/tributarylaw23.RaftNobody", spec := "raftNobody", inPlace := ["internal/bytealg.IndexByteString", "internal/bytealg.IndexString", "internal/bytealg.abigen_runtime_cmpstring"], unfollowed := true, recurses := true, named := ["internal/bytealg.MaxLen"], loops := true, apart := false }
def RaftNobodySaid : Prop := raftNobodyRow.holds Tryz.pinned (OpenSpec.ofChange raftNobodySpec)

/-- ITS FALSE NEIGHBOUR: 'it returns false'. Refute it at one input. -/
def raftNobodyWrong : ChangeSpec := { name := "raftNobody", fn := fun _ => fun
  | [d1, d2, d3] => { results := [.lit (.bool false)], args := [d1, d2, d3] }
  | _ => none }
def RaftNobodyWrongFalsely : Prop := raftNobodyRow.holds Tryz.pinned (OpenSpec.ofChange raftNobodyWrong)

/- THE SECOND FORM. 'bulk': how many values and letters a reading holds, each counted each time it is reached (what is shared counts as often as it is met; a slice's spare places count too). A statement '..UptoSaid' is the law's where the arguments, and the package variables that the reading takes, are together of bulk at most 1048576: NARROWER than '..Said'. Prove '..Said' where nothing that the law and all that it calls make is longer than what came in: it says more and counts as full. Else prove '..UptoSaid'. A law counts once. -/
mutual
def uptoBulk {H : Type} : DataW H → Nat
  | .lit (.string bytes) => bytes.length + 1
  | .lit _ => 1
  | .nil => 1
  | .ptr d => uptoBulk d + 1
  | .slice elems spare => uptoBulkAll elems + uptoBulkAll spare + 1
  | .agg parts => uptoBulkAll parts + 1
  | .iface _ d => uptoBulk d + 1
  | .map entries => uptoBulkEntries entries + 1
  | .held _ => 1
def uptoBulkAll {H : Type} : List (DataW H) → Nat
  | [] => 0
  | d :: r => uptoBulk d + uptoBulkAll r
def uptoBulkEntries {H : Type} : List (Lit × DataW H) → Nat
  | [] => 0
  | x :: r => uptoBulkEntry x + uptoBulkEntries r
def uptoBulkEntry {H : Type} : Lit × DataW H → Nat
  | (.string bytes, d) => bytes.length + uptoBulk d + 1
  | (_, d) => uptoBulk d + 1
 end
def uptoSmall : (H : Type) → List (DataW H) → Bool := fun _ ds => decide (uptoBulkAll ds ≤ 1048576)
def OpenSpec.upto (s : _root_.Go.ChangeSpec) : _root_.Go.OpenSpec := { _root_.Go.OpenSpec.ofChange s with cond := some uptoSmall }

/-- 'tributarylaw23.RaftSteps', WHERE WHAT IT READS IS OF BULK AT MOST 1048576: true; the input reads as it did. -/
def raftStepsUptoRow : OpenClaim := { program := "ytkhkacbejilafaagreat", sum := "cb99f0d324f5ce8332d40e8de527226486498206ab081afd2ca758074e14b0f5", func := "tributary/tributarylaw23.RaftSteps", spec := "raftSteps", inPlace := ["internal/bytealg.IndexByteString", "internal/bytealg.IndexString", "internal/bytealg.abigen_runtime_cmpstring"], unfollowed := true, recurses := true, named := ["internal/bytealg.MaxLen"], loops := true, apart := false, narrowed := true }
def RaftStepsUptoSaid : Prop := raftStepsUptoRow.holds Tryz.pinned (OpenSpec.upto raftStepsSpec)

/-- 'tributarylaw23.RaftElects', WHERE WHAT IT READS IS OF BULK AT MOST 1048576: true; the input reads as it did. -/
def raftElectsUptoRow : OpenClaim := { program := "ytkhkacbejilafaagreat", sum := "cb99f0d324f5ce8332d40e8de527226486498206ab081afd2ca758074e14b0f5", func := "tributary/tributarylaw23.RaftElects", spec := "raftElects", inPlace := ["internal/bytealg.IndexByteString", "internal/bytealg.IndexString", "internal/bytealg.abigen_runtime_cmpstring"], unfollowed := true, recurses := true, named := ["internal/bytealg.MaxLen"], apart := false, narrowed := true }
def RaftElectsUptoSaid : Prop := raftElectsUptoRow.holds Tryz.pinned (OpenSpec.upto raftElectsSpec)

/-- 'tributarylaw23.RaftStarts', WHERE WHAT IT READS IS OF BULK AT MOST 1048576: true; the input reads as it did. -/
def raftStartsUptoRow : OpenClaim := { program := "ytkhkacbejilafaagreat", sum := "cb99f0d324f5ce8332d40e8de527226486498206ab081afd2ca758074e14b0f5", func := "tributary/tributarylaw23.RaftStarts", spec := "raftStarts", inPlace := ["internal/bytealg.IndexByteString", "internal/bytealg.IndexString", "internal/bytealg.abigen_runtime_cmpstring"], unfollowed := true, recurses := true, named := ["internal/bytealg.MaxLen"], loops := true, apart := false, narrowed := true }
def RaftStartsUptoSaid : Prop := raftStartsUptoRow.holds Tryz.pinned (OpenSpec.upto raftStartsSpec)

/-- 'tributarylaw23.RaftCompacts', WHERE WHAT IT READS IS OF BULK AT MOST 1048576: true; the input reads as it did. -/
def raftCompactsUptoRow : OpenClaim := { program := "ytkhkacbejilafaagreat", sum := "cb99f0d324f5ce8332d40e8de527226486498206ab081afd2ca758074e14b0f5", func := "tributary/tributarylaw23.RaftCompacts", spec := "raftCompacts", inPlace := ["internal/bytealg.IndexByteString", "internal/bytealg.IndexString", "internal/bytealg.abigen_runtime_cmpstring"], unfollowed := true, recurses := true, named := ["internal/bytealg.MaxLen"], loops := true, apart := false, narrowed := true }
def RaftCompactsUptoSaid : Prop := raftCompactsUptoRow.holds Tryz.pinned (OpenSpec.upto raftCompactsSpec)

/-- 'tributarylaw23.RaftSafe', WHERE WHAT IT READS IS OF BULK AT MOST 1048576: true; the input reads as it did. -/
def raftSafeUptoRow : OpenClaim := { program := "ytkhkacbejilafaagreat", sum := "cb99f0d324f5ce8332d40e8de527226486498206ab081afd2ca758074e14b0f5", func := "tributary/tributarylaw23.RaftSafe", spec := "raftSafe", inPlace := ["internal/bytealg.IndexByteString", "internal/bytealg.IndexString", "internal/bytealg.abigen_runtime_cmpstring"], unfollowed := true, recurses := true, named := ["internal/bytealg.MaxLen"], apart := false, narrowed := true }
def RaftSafeUptoSaid : Prop := raftSafeUptoRow.holds Tryz.pinned (OpenSpec.upto raftSafeSpec)

/-- 'tributarylaw23.RaftCommits', WHERE WHAT IT READS IS OF BULK AT MOST 1048576: true; the input reads as it did. -/
def raftCommitsUptoRow : OpenClaim := { program := "ytkhkacbejilafaagreat", sum := "cb99f0d324f5ce8332d40e8de527226486498206ab081afd2ca758074e14b0f5", func := "tributary/tributarylaw23.RaftCommits", spec := "raftCommits", inPlace := ["internal/bytealg.IndexByteString", "internal/bytealg.IndexString", "internal/bytealg.abigen_runtime_cmpstring"], unfollowed := true, recurses := true, named := ["internal/bytealg.MaxLen"], apart := false, narrowed := true }
def RaftCommitsUptoSaid : Prop := raftCommitsUptoRow.holds Tryz.pinned (OpenSpec.upto raftCommitsSpec)

/-- 'tributarylaw23.RaftNobody', WHERE WHAT IT READS IS OF BULK AT MOST 1048576: true; the input reads as it did. -/
def raftNobodyUptoRow : OpenClaim := { program := "ytkhkacbejilafaagreat", sum := "cb99f0d324f5ce8332d40e8de527226486498206ab081afd2ca758074e14b0f5", func := "tributary/tributarylaw23.RaftNobody", spec := "raftNobody", inPlace := ["internal/bytealg.IndexByteString", "internal/bytealg.IndexString", "internal/bytealg.abigen_runtime_cmpstring"], unfollowed := true, recurses := true, named := ["internal/bytealg.MaxLen"], loops := true, apart := false, narrowed := true }
def RaftNobodyUptoSaid : Prop := raftNobodyUptoRow.holds Tryz.pinned (OpenSpec.upto raftNobodySpec)

end Rows
end Go.Proofs.YtkhkacbejilafaaGreat
