/-
  No cell of these rows narrows 'for every input' (looked for: loops, veiled, ifaces, maps, wideKeys, modest, calm, conditions, laid).
  DERIVED. THE GIVEN ROWS OF THIS SEAT. 4 by the template 'for every input the law returns true; each argument reads behind the call as it read before'; 0 by the template 'total and deterministic' (their statements: YtijbcfnkeahdoaaTotals.lean).
  GIVEN WITH THE SEED: the statements are not yours to turn. If you find one false, say at which input.
  Laid BY PROGRAM, IN A SANDBOX (cutbox-rows.mjs): the forced cells as the released guide's own fill.sh prints them over the translation 80932a3dd6b4b69e… (all of the seat's roots in one cut). By AI agents, Wed Nov 11 2026. No macro, syntax, notation, axiom, sorry.
-/
import Derived.Test.YtijbcfnkeahdoaaChecked
import GoSem.Claim
import GoSem.ClaimJoined
import GoSem.ClaimMapViews
import Derived.JoinedTies
import Derived.KernelRfl
namespace Go.Proofs.Ytijbcfnkeahdoaa
/- THE CELL 'sum', in the pinned program and in every row, IS THE sha256 OF THE DUMP (.gsa) THAT YtijbcfnkeahdoaaProg.lean LOADS. Nothing in Lean hashes anything: it is a label: what it is worth is what the hold of that sum in a sandbox is worth. -/
noncomputable def Try.pinned : Pinned := { name := "ytijbcfnkeahdoaa", sum := "80932a3dd6b4b69e1366cf64a4aaa1a4fb3f3ed5064929d7a02c60b49564e95c", checked := Try.checked }
namespace Rows
def none {H : Type} : Left H := { results := [], args := [] }

/-- 'warrantorlaw28.FileDoes': WHATEVER THE INPUT: true; the input reads as it did. -/
def fileDoesSpec : ChangeSpec := { name := "fileDoes", fn := fun _ => fun
  | [d] => { results := [.lit (.bool true)], args := [d] }
  | _ => none }
def fileDoesRow : OpenClaim := { program := "ytijbcfnkeahdoaa", sum := "80932a3dd6b4b69e1366cf64a4aaa1a4fb3f3ed5064929d7a02c60b49564e95c", func := "warrantor/warrantorlaw28.FileDoes", spec := "fileDoes", unfollowed := true, recurses := true, apart := false }
def FileDoesSaid : Prop := fileDoesRow.holds Try.pinned (OpenSpec.ofChange fileDoesSpec)

/-- ITS FALSE NEIGHBOUR: 'it returns false'. Refute it at one input. -/
def fileDoesWrong : ChangeSpec := { name := "fileDoes", fn := fun _ => fun
  | [d] => { results := [.lit (.bool false)], args := [d] }
  | _ => none }
def FileDoesWrongFalsely : Prop := fileDoesRow.holds Try.pinned (OpenSpec.ofChange fileDoesWrong)

/-- 'warrantorlaw28.FileCuts': WHATEVER THE INPUT: true; the input reads as it did. -/
def fileCutsSpec : ChangeSpec := { name := "fileCuts", fn := fun _ => fun
  | [d1, d2] => { results := [.lit (.bool true)], args := [d1, d2] }
  | _ => none }
def fileCutsRow : OpenClaim := { program := "ytijbcfnkeahdoaa", sum := "80932a3dd6b4b69e1366cf64a4aaa1a4fb3f3ed5064929d7a02c60b49564e95c", func := "warrantor/warrantorlaw28.FileCuts", spec := "fileCuts", unfollowed := true, recurses := true, apart := false }
def FileCutsSaid : Prop := fileCutsRow.holds Try.pinned (OpenSpec.ofChange fileCutsSpec)

/-- ITS FALSE NEIGHBOUR: 'it returns false'. Refute it at one input. -/
def fileCutsWrong : ChangeSpec := { name := "fileCuts", fn := fun _ => fun
  | [d1, d2] => { results := [.lit (.bool false)], args := [d1, d2] }
  | _ => none }
def FileCutsWrongFalsely : Prop := fileCutsRow.holds Try.pinned (OpenSpec.ofChange fileCutsWrong)

/-- 'warrantorlaw28.FileFull': WHATEVER THE INPUT: true; the input reads as it did. -/
def fileFullSpec : ChangeSpec := { name := "fileFull", fn := fun _ => fun
  | [d1, d2] => { results := [.lit (.bool true)], args := [d1, d2] }
  | _ => none }
def fileFullRow : OpenClaim := { program := "ytijbcfnkeahdoaa", sum := "80932a3dd6b4b69e1366cf64a4aaa1a4fb3f3ed5064929d7a02c60b49564e95c", func := "warrantor/warrantorlaw28.FileFull", spec := "fileFull", unfollowed := true, recurses := true, apart := false }
def FileFullSaid : Prop := fileFullRow.holds Try.pinned (OpenSpec.ofChange fileFullSpec)

/-- ITS FALSE NEIGHBOUR: 'it returns false'. Refute it at one input. -/
def fileFullWrong : ChangeSpec := { name := "fileFull", fn := fun _ => fun
  | [d1, d2] => { results := [.lit (.bool false)], args := [d1, d2] }
  | _ => none }
def FileFullWrongFalsely : Prop := fileFullRow.holds Try.pinned (OpenSpec.ofChange fileFullWrong)

/-- 'warrantorlaw28.FileNobody': WHATEVER THE INPUT: true; the input reads as it did. -/
def fileNobodySpec : ChangeSpec := { name := "fileNobody", fn := fun _ => fun
  | [d1, d2] => { results := [.lit (.bool true)], args := [d1, d2] }
  | _ => none }
def fileNobodyRow : OpenClaim := { program := "ytijbcfnkeahdoaa", sum := "80932a3dd6b4b69e1366cf64a4aaa1a4fb3f3ed5064929d7a02c60b49564e95c", func := "warrantor/warrantorlaw28.FileNobody", spec := "fileNobody", unfollowed := true, recurses := true, apart := false }
def FileNobodySaid : Prop := fileNobodyRow.holds Try.pinned (OpenSpec.ofChange fileNobodySpec)

/-- ITS FALSE NEIGHBOUR: 'it returns false'. Refute it at one input. -/
def fileNobodyWrong : ChangeSpec := { name := "fileNobody", fn := fun _ => fun
  | [d1, d2] => { results := [.lit (.bool false)], args := [d1, d2] }
  | _ => none }
def FileNobodyWrongFalsely : Prop := fileNobodyRow.holds Try.pinned (OpenSpec.ofChange fileNobodyWrong)

/- THE SECOND FORM. 'bulk': how many values and letters a reading holds, each counted each time it is reached (what is shared counts as often as it is met; a slice's spare places count too). A statement '..UptoSaid' is the law's where the arguments, and the package variables that the reading takes, are together of bulk at most 1048576: NARROWER than '..Said'. Prove '..Said' where nothing that the law and all that it calls make is longer than what came in: it says more and counts as full. Else prove '..UptoSaid'. A law counts once. -/
mutual
def uptoBulk {H : Type} : DataW H → Nat
  | .lit (.string bytes) => bytes.length + 1
  | .lit _ => 1
  | .nil => 1
  | .ptr d => uptoBulk d + 1
  | .slice elems spare => uptoBulkAll elems + uptoBulkAll spare + 1
  | .agg parts => uptoBulkAll parts + 1
  | .iface _ d => uptoBulk d + 1
  | .map entries => uptoBulkEntries entries + 1
  | .held _ => 1
def uptoBulkAll {H : Type} : List (DataW H) → Nat
  | [] => 0
  | d :: r => uptoBulk d + uptoBulkAll r
def uptoBulkEntries {H : Type} : List (Lit × DataW H) → Nat
  | [] => 0
  | x :: r => uptoBulkEntry x + uptoBulkEntries r
def uptoBulkEntry {H : Type} : Lit × DataW H → Nat
  | (.string bytes, d) => bytes.length + uptoBulk d + 1
  | (_, d) => uptoBulk d + 1
 end
def uptoSmall : (H : Type) → List (DataW H) → Bool := fun _ ds => decide (uptoBulkAll ds ≤ 1048576)
def OpenSpec.upto (s : _root_.Go.ChangeSpec) : _root_.Go.OpenSpec := { _root_.Go.OpenSpec.ofChange s with cond := some uptoSmall }

/-- 'warrantorlaw28.FileDoes', WHERE WHAT IT READS IS OF BULK AT MOST 1048576: true; the input reads as it did. -/
def fileDoesUptoRow : OpenClaim := { program := "ytijbcfnkeahdoaa", sum := "80932a3dd6b4b69e1366cf64a4aaa1a4fb3f3ed5064929d7a02c60b49564e95c", func := "warrantor/warrantorlaw28.FileDoes", spec := "fileDoes", unfollowed := true, recurses := true, apart := false, narrowed := true }
def FileDoesUptoSaid : Prop := fileDoesUptoRow.holds Try.pinned (OpenSpec.upto fileDoesSpec)

/-- 'warrantorlaw28.FileCuts', WHERE WHAT IT READS IS OF BULK AT MOST 1048576: true; the input reads as it did. -/
def fileCutsUptoRow : OpenClaim := { program := "ytijbcfnkeahdoaa", sum := "80932a3dd6b4b69e1366cf64a4aaa1a4fb3f3ed5064929d7a02c60b49564e95c", func := "warrantor/warrantorlaw28.FileCuts", spec := "fileCuts", unfollowed := true, recurses := true, apart := false, narrowed := true }
def FileCutsUptoSaid : Prop := fileCutsUptoRow.holds Try.pinned (OpenSpec.upto fileCutsSpec)

/-- 'warrantorlaw28.FileFull', WHERE WHAT IT READS IS OF BULK AT MOST 1048576: true; the input reads as it did. -/
def fileFullUptoRow : OpenClaim := { program := "ytijbcfnkeahdoaa", sum := "80932a3dd6b4b69e1366cf64a4aaa1a4fb3f3ed5064929d7a02c60b49564e95c", func := "warrantor/warrantorlaw28.FileFull", spec := "fileFull", unfollowed := true, recurses := true, apart := false, narrowed := true }
def FileFullUptoSaid : Prop := fileFullUptoRow.holds Try.pinned (OpenSpec.upto fileFullSpec)

/-- 'warrantorlaw28.FileNobody', WHERE WHAT IT READS IS OF BULK AT MOST 1048576: true; the input reads as it did. -/
def fileNobodyUptoRow : OpenClaim := { program := "ytijbcfnkeahdoaa", sum := "80932a3dd6b4b69e1366cf64a4aaa1a4fb3f3ed5064929d7a02c60b49564e95c", func := "warrantor/warrantorlaw28.FileNobody", spec := "fileNobody", unfollowed := true, recurses := true, apart := false, narrowed := true }
def FileNobodyUptoSaid : Prop := fileNobodyUptoRow.holds Try.pinned (OpenSpec.upto fileNobodySpec)

end Rows
end Go.Proofs.Ytijbcfnkeahdoaa
