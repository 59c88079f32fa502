/-
  No cell of these rows narrows 'for every input' (looked for: loops, veiled, ifaces, maps, wideKeys, modest, calm, conditions, laid).
  DERIVED. THE GIVEN ROWS OF THIS SEAT. 4 by the template 'for every input the law returns true; each argument reads behind the call as it read before'; 0 by the template 'total and deterministic' (their statements: YtgecigndgkcpkaaTotals.lean).
  GIVEN WITH THE SEED: the statements are not yours to turn. If you find one false, say at which input.
  Laid BY PROGRAM, IN A SANDBOX (cutbox-rows.mjs): the forced cells as the released guide's own fill.sh prints them over the translation a64a742fec71e5b5… (all of the seat's roots in one cut). By AI agents, Wed Nov 11 2026. No macro, syntax, notation, axiom, sorry.
-/
import Derived.Test.YtgecigndgkcpkaaChecked
import GoSem.Claim
import GoSem.ClaimJoined
import GoSem.ClaimMapViews
import Derived.JoinedTies
import Derived.KernelRfl
namespace Go.Proofs.Ytgecigndgkcpkaa
/- THE CELL 'sum', in the pinned program and in every row, IS THE sha256 OF THE DUMP (.gsa) THAT YtgecigndgkcpkaaProg.lean LOADS. Nothing in Lean hashes anything: it is a label: what it is worth is what the hold of that sum in a sandbox is worth. -/
noncomputable def Try.pinned : Pinned := { name := "ytgecigndgkcpkaa", sum := "a64a742fec71e5b574e0d99096197a79edc6ef36bdaf045c1523c47c0345d978", checked := Try.checked }
namespace Rows
def none {H : Type} : Left H := { results := [], args := [] }

/-- 'warrantorlaw18.NormTells': WHATEVER THE INPUT: true; the input reads as it did. -/
def normTellsSpec : ChangeSpec := { name := "normTells", fn := fun _ => fun
  | [d1, d2] => { results := [.lit (.bool true)], args := [d1, d2] }
  | _ => none }
def normTellsRow : OpenClaim := { program := "ytgecigndgkcpkaa", sum := "a64a742fec71e5b574e0d99096197a79edc6ef36bdaf045c1523c47c0345d978", func := "warrantor/warrantorlaw18.NormTells", spec := "normTells", inPlace := ["internal/abi.NoEscape"], apart := false }
def NormTellsSaid : Prop := normTellsRow.holds Try.pinned (OpenSpec.ofChange normTellsSpec)

/-- ITS FALSE NEIGHBOUR: 'it returns false'. Refute it at one input. -/
def normTellsWrong : ChangeSpec := { name := "normTells", fn := fun _ => fun
  | [d1, d2] => { results := [.lit (.bool false)], args := [d1, d2] }
  | _ => none }
def NormTellsWrongFalsely : Prop := normTellsRow.holds Try.pinned (OpenSpec.ofChange normTellsWrong)

/-- 'warrantorlaw18.NormAgain': WHATEVER THE INPUT: true; the input reads as it did. -/
def normAgainSpec : ChangeSpec := { name := "normAgain", fn := fun _ => fun
  | [d] => { results := [.lit (.bool true)], args := [d] }
  | _ => none }
def normAgainRow : OpenClaim := { program := "ytgecigndgkcpkaa", sum := "a64a742fec71e5b574e0d99096197a79edc6ef36bdaf045c1523c47c0345d978", func := "warrantor/warrantorlaw18.NormAgain", spec := "normAgain", inPlace := ["internal/abi.NoEscape"], apart := false }
def NormAgainSaid : Prop := normAgainRow.holds Try.pinned (OpenSpec.ofChange normAgainSpec)

/-- ITS FALSE NEIGHBOUR: 'it returns false'. Refute it at one input. -/
def normAgainWrong : ChangeSpec := { name := "normAgain", fn := fun _ => fun
  | [d] => { results := [.lit (.bool false)], args := [d] }
  | _ => none }
def NormAgainWrongFalsely : Prop := normAgainRow.holds Try.pinned (OpenSpec.ofChange normAgainWrong)

/-- 'warrantorlaw18.NormBlanks': WHATEVER THE INPUT: true; the input reads as it did. -/
def normBlanksSpec : ChangeSpec := { name := "normBlanks", fn := fun _ => fun
  | [d1, d2, d3] => { results := [.lit (.bool true)], args := [d1, d2, d3] }
  | _ => none }
def normBlanksRow : OpenClaim := { program := "ytgecigndgkcpkaa", sum := "a64a742fec71e5b574e0d99096197a79edc6ef36bdaf045c1523c47c0345d978", func := "warrantor/warrantorlaw18.NormBlanks", spec := "normBlanks", inPlace := ["internal/abi.NoEscape"], apart := false }
def NormBlanksSaid : Prop := normBlanksRow.holds Try.pinned (OpenSpec.ofChange normBlanksSpec)

/-- ITS FALSE NEIGHBOUR: 'it returns false'. Refute it at one input. -/
def normBlanksWrong : ChangeSpec := { name := "normBlanks", fn := fun _ => fun
  | [d1, d2, d3] => { results := [.lit (.bool false)], args := [d1, d2, d3] }
  | _ => none }
def NormBlanksWrongFalsely : Prop := normBlanksRow.holds Try.pinned (OpenSpec.ofChange normBlanksWrong)

/-- 'warrantorlaw18.NormKeys': WHATEVER THE INPUT: true; the input reads as it did. -/
def normKeysSpec : ChangeSpec := { name := "normKeys", fn := fun _ => fun
  | [d1, d2, d3, d4, d5, d6] => { results := [.lit (.bool true)], args := [d1, d2, d3, d4, d5, d6] }
  | _ => none }
def normKeysRow : OpenClaim := { program := "ytgecigndgkcpkaa", sum := "a64a742fec71e5b574e0d99096197a79edc6ef36bdaf045c1523c47c0345d978", func := "warrantor/warrantorlaw18.NormKeys", spec := "normKeys", inPlace := ["internal/abi.NoEscape"], apart := false }
def NormKeysSaid : Prop := normKeysRow.holds Try.pinned (OpenSpec.ofChange normKeysSpec)

/-- ITS FALSE NEIGHBOUR: 'it returns false'. Refute it at one input. -/
def normKeysWrong : ChangeSpec := { name := "normKeys", fn := fun _ => fun
  | [d1, d2, d3, d4, d5, d6] => { results := [.lit (.bool false)], args := [d1, d2, d3, d4, d5, d6] }
  | _ => none }
def NormKeysWrongFalsely : Prop := normKeysRow.holds Try.pinned (OpenSpec.ofChange normKeysWrong)

/- THE SECOND FORM. 'bulk': how many values and letters a reading holds, each counted each time it is reached (what is shared counts as often as it is met; a slice's spare places count too). A statement '..UptoSaid' is the law's where the arguments, and the package variables that the reading takes, are together of bulk at most 1048576: NARROWER than '..Said'. Prove '..Said' where nothing that the law and all that it calls make is longer than what came in: it says more and counts as full. Else prove '..UptoSaid'. A law counts once. -/
mutual
def uptoBulk {H : Type} : DataW H → Nat
  | .lit (.string bytes) => bytes.length + 1
  | .lit _ => 1
  | .nil => 1
  | .ptr d => uptoBulk d + 1
  | .slice elems spare => uptoBulkAll elems + uptoBulkAll spare + 1
  | .agg parts => uptoBulkAll parts + 1
  | .iface _ d => uptoBulk d + 1
  | .map entries => uptoBulkEntries entries + 1
  | .held _ => 1
def uptoBulkAll {H : Type} : List (DataW H) → Nat
  | [] => 0
  | d :: r => uptoBulk d + uptoBulkAll r
def uptoBulkEntries {H : Type} : List (Lit × DataW H) → Nat
  | [] => 0
  | x :: r => uptoBulkEntry x + uptoBulkEntries r
def uptoBulkEntry {H : Type} : Lit × DataW H → Nat
  | (.string bytes, d) => bytes.length + uptoBulk d + 1
  | (_, d) => uptoBulk d + 1
 end
def uptoSmall : (H : Type) → List (DataW H) → Bool := fun _ ds => decide (uptoBulkAll ds ≤ 1048576)
def OpenSpec.upto (s : _root_.Go.ChangeSpec) : _root_.Go.OpenSpec := { _root_.Go.OpenSpec.ofChange s with cond := some uptoSmall }

/-- 'warrantorlaw18.NormTells', WHERE WHAT IT READS IS OF BULK AT MOST 1048576: true; the input reads as it did. -/
def normTellsUptoRow : OpenClaim := { program := "ytgecigndgkcpkaa", sum := "a64a742fec71e5b574e0d99096197a79edc6ef36bdaf045c1523c47c0345d978", func := "warrantor/warrantorlaw18.NormTells", spec := "normTells", inPlace := ["internal/abi.NoEscape"], apart := false, narrowed := true }
def NormTellsUptoSaid : Prop := normTellsUptoRow.holds Try.pinned (OpenSpec.upto normTellsSpec)

/-- 'warrantorlaw18.NormAgain', WHERE WHAT IT READS IS OF BULK AT MOST 1048576: true; the input reads as it did. -/
def normAgainUptoRow : OpenClaim := { program := "ytgecigndgkcpkaa", sum := "a64a742fec71e5b574e0d99096197a79edc6ef36bdaf045c1523c47c0345d978", func := "warrantor/warrantorlaw18.NormAgain", spec := "normAgain", inPlace := ["internal/abi.NoEscape"], apart := false, narrowed := true }
def NormAgainUptoSaid : Prop := normAgainUptoRow.holds Try.pinned (OpenSpec.upto normAgainSpec)

/-- 'warrantorlaw18.NormBlanks', WHERE WHAT IT READS IS OF BULK AT MOST 1048576: true; the input reads as it did. -/
def normBlanksUptoRow : OpenClaim := { program := "ytgecigndgkcpkaa", sum := "a64a742fec71e5b574e0d99096197a79edc6ef36bdaf045c1523c47c0345d978", func := "warrantor/warrantorlaw18.NormBlanks", spec := "normBlanks", inPlace := ["internal/abi.NoEscape"], apart := false, narrowed := true }
def NormBlanksUptoSaid : Prop := normBlanksUptoRow.holds Try.pinned (OpenSpec.upto normBlanksSpec)

/-- 'warrantorlaw18.NormKeys', WHERE WHAT IT READS IS OF BULK AT MOST 1048576: true; the input reads as it did. -/
def normKeysUptoRow : OpenClaim := { program := "ytgecigndgkcpkaa", sum := "a64a742fec71e5b574e0d99096197a79edc6ef36bdaf045c1523c47c0345d978", func := "warrantor/warrantorlaw18.NormKeys", spec := "normKeys", inPlace := ["internal/abi.NoEscape"], apart := false, narrowed := true }
def NormKeysUptoSaid : Prop := normKeysUptoRow.holds Try.pinned (OpenSpec.upto normKeysSpec)

end Rows
end Go.Proofs.Ytgecigndgkcpkaa
