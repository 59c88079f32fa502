/-
  No cell of these rows narrows 'for every input' (looked for: loops, veiled, ifaces, maps, wideKeys, modest, calm, conditions, laid).
  DERIVED. THE GIVEN ROWS OF THIS SEAT. 5 by the template 'for every input the law returns true; each argument reads behind the call as it read before'; 0 by the template 'total and deterministic' (their statements: YtnohflfpahokiaaTotals.lean).
  GIVEN WITH THE SEED: the statements are not yours to turn. If you find one false, say at which input.
  Laid BY PROGRAM, IN A SANDBOX (cutbox-rows.mjs): the forced cells as the released guide's own fill.sh prints them over the translation 9e01376964bf7d4e… (all of the seat's roots in one cut). By AI agents, Wed Nov 11 2026. No macro, syntax, notation, axiom, sorry.
-/
import Derived.Test.YtnohflfpahokiaaChecked
import GoSem.Claim
import GoSem.ClaimJoined
import GoSem.ClaimMapViews
import Derived.JoinedTies
import Derived.KernelRfl
namespace Go.Proofs.Ytnohflfpahokiaa
/- THE CELL 'sum', in the pinned program and in every row, IS THE sha256 OF THE DUMP (.gsa) THAT YtnohflfpahokiaaProg.lean LOADS. Nothing in Lean hashes anything: it is a label: what it is worth is what the hold of that sum in a sandbox is worth. -/
noncomputable def Try.pinned : Pinned := { name := "ytnohflfpahokiaa", sum := "9e01376964bf7d4ea08902847272c74fd4af9d41d3b0770a53fe6ba92a42efb5", checked := Try.checked }
namespace Rows
def none {H : Type} : Left H := { results := [], args := [] }

/-- 'warrantorlaw04.SectPuts': WHATEVER THE INPUT: true; the input reads as it did. -/
def sectPutsSpec : ChangeSpec := { name := "sectPuts", fn := fun _ => fun
  | [d] => { results := [.lit (.bool true)], args := [d] }
  | _ => none }
def sectPutsRow : OpenClaim := { program := "ytnohflfpahokiaa", sum := "9e01376964bf7d4ea08902847272c74fd4af9d41d3b0770a53fe6ba92a42efb5", func := "warrantor/warrantorlaw04.SectPuts", spec := "sectPuts", unfollowed := true, recurses := true, apart := false }
def SectPutsSaid : Prop := sectPutsRow.holds Try.pinned (OpenSpec.ofChange sectPutsSpec)

/-- ITS FALSE NEIGHBOUR: 'it returns false'. Refute it at one input. -/
def sectPutsWrong : ChangeSpec := { name := "sectPuts", fn := fun _ => fun
  | [d] => { results := [.lit (.bool false)], args := [d] }
  | _ => none }
def SectPutsWrongFalsely : Prop := sectPutsRow.holds Try.pinned (OpenSpec.ofChange sectPutsWrong)

/-- 'warrantorlaw04.SectGets': WHATEVER THE INPUT: true; the input reads as it did. -/
def sectGetsSpec : ChangeSpec := { name := "sectGets", fn := fun _ => fun
  | [d] => { results := [.lit (.bool true)], args := [d] }
  | _ => none }
def sectGetsRow : OpenClaim := { program := "ytnohflfpahokiaa", sum := "9e01376964bf7d4ea08902847272c74fd4af9d41d3b0770a53fe6ba92a42efb5", func := "warrantor/warrantorlaw04.SectGets", spec := "sectGets", unfollowed := true, recurses := true, apart := false }
def SectGetsSaid : Prop := sectGetsRow.holds Try.pinned (OpenSpec.ofChange sectGetsSpec)

/-- ITS FALSE NEIGHBOUR: 'it returns false'. Refute it at one input. -/
def sectGetsWrong : ChangeSpec := { name := "sectGets", fn := fun _ => fun
  | [d] => { results := [.lit (.bool false)], args := [d] }
  | _ => none }
def SectGetsWrongFalsely : Prop := sectGetsRow.holds Try.pinned (OpenSpec.ofChange sectGetsWrong)

/-- 'warrantorlaw04.SectFinds': WHATEVER THE INPUT: true; the input reads as it did. -/
def sectFindsSpec : ChangeSpec := { name := "sectFinds", fn := fun _ => fun
  | [d1, d2, d3] => { results := [.lit (.bool true)], args := [d1, d2, d3] }
  | _ => none }
def sectFindsRow : OpenClaim := { program := "ytnohflfpahokiaa", sum := "9e01376964bf7d4ea08902847272c74fd4af9d41d3b0770a53fe6ba92a42efb5", func := "warrantor/warrantorlaw04.SectFinds", spec := "sectFinds", unfollowed := true, recurses := true, apart := false }
def SectFindsSaid : Prop := sectFindsRow.holds Try.pinned (OpenSpec.ofChange sectFindsSpec)

/-- ITS FALSE NEIGHBOUR: 'it returns false'. Refute it at one input. -/
def sectFindsWrong : ChangeSpec := { name := "sectFinds", fn := fun _ => fun
  | [d1, d2, d3] => { results := [.lit (.bool false)], args := [d1, d2, d3] }
  | _ => none }
def SectFindsWrongFalsely : Prop := sectFindsRow.holds Try.pinned (OpenSpec.ofChange sectFindsWrong)

/-- 'warrantorlaw04.SectCuts': WHATEVER THE INPUT: true; the input reads as it did. -/
def sectCutsSpec : ChangeSpec := { name := "sectCuts", fn := fun _ => fun
  | [d1, d2] => { results := [.lit (.bool true)], args := [d1, d2] }
  | _ => none }
def sectCutsRow : OpenClaim := { program := "ytnohflfpahokiaa", sum := "9e01376964bf7d4ea08902847272c74fd4af9d41d3b0770a53fe6ba92a42efb5", func := "warrantor/warrantorlaw04.SectCuts", spec := "sectCuts", unfollowed := true, recurses := true, apart := false }
def SectCutsSaid : Prop := sectCutsRow.holds Try.pinned (OpenSpec.ofChange sectCutsSpec)

/-- ITS FALSE NEIGHBOUR: 'it returns false'. Refute it at one input. -/
def sectCutsWrong : ChangeSpec := { name := "sectCuts", fn := fun _ => fun
  | [d1, d2] => { results := [.lit (.bool false)], args := [d1, d2] }
  | _ => none }
def SectCutsWrongFalsely : Prop := sectCutsRow.holds Try.pinned (OpenSpec.ofChange sectCutsWrong)

/-- 'warrantorlaw04.SectTurns': WHATEVER THE INPUT: true; the input reads as it did. -/
def sectTurnsSpec : ChangeSpec := { name := "sectTurns", fn := fun _ => fun
  | [d1, d2, d3] => { results := [.lit (.bool true)], args := [d1, d2, d3] }
  | _ => none }
def sectTurnsRow : OpenClaim := { program := "ytnohflfpahokiaa", sum := "9e01376964bf7d4ea08902847272c74fd4af9d41d3b0770a53fe6ba92a42efb5", func := "warrantor/warrantorlaw04.SectTurns", spec := "sectTurns", unfollowed := true, recurses := true, apart := false }
def SectTurnsSaid : Prop := sectTurnsRow.holds Try.pinned (OpenSpec.ofChange sectTurnsSpec)

/-- ITS FALSE NEIGHBOUR: 'it returns false'. Refute it at one input. -/
def sectTurnsWrong : ChangeSpec := { name := "sectTurns", fn := fun _ => fun
  | [d1, d2, d3] => { results := [.lit (.bool false)], args := [d1, d2, d3] }
  | _ => none }
def SectTurnsWrongFalsely : Prop := sectTurnsRow.holds Try.pinned (OpenSpec.ofChange sectTurnsWrong)

/- THE SECOND FORM. 'bulk': how many values and letters a reading holds, each counted each time it is reached (what is shared counts as often as it is met; a slice's spare places count too). A statement '..UptoSaid' is the law's where the arguments, and the package variables that the reading takes, are together of bulk at most 1048576: NARROWER than '..Said'. Prove '..Said' where nothing that the law and all that it calls make is longer than what came in: it says more and counts as full. Else prove '..UptoSaid'. A law counts once. -/
mutual
def uptoBulk {H : Type} : DataW H → Nat
  | .lit (.string bytes) => bytes.length + 1
  | .lit _ => 1
  | .nil => 1
  | .ptr d => uptoBulk d + 1
  | .slice elems spare => uptoBulkAll elems + uptoBulkAll spare + 1
  | .agg parts => uptoBulkAll parts + 1
  | .iface _ d => uptoBulk d + 1
  | .map entries => uptoBulkEntries entries + 1
  | .held _ => 1
def uptoBulkAll {H : Type} : List (DataW H) → Nat
  | [] => 0
  | d :: r => uptoBulk d + uptoBulkAll r
def uptoBulkEntries {H : Type} : List (Lit × DataW H) → Nat
  | [] => 0
  | x :: r => uptoBulkEntry x + uptoBulkEntries r
def uptoBulkEntry {H : Type} : Lit × DataW H → Nat
  | (.string bytes, d) => bytes.length + uptoBulk d + 1
  | (_, d) => uptoBulk d + 1
 end
def uptoSmall : (H : Type) → List (DataW H) → Bool := fun _ ds => decide (uptoBulkAll ds ≤ 1048576)
def OpenSpec.upto (s : _root_.Go.ChangeSpec) : _root_.Go.OpenSpec := { _root_.Go.OpenSpec.ofChange s with cond := some uptoSmall }

/-- 'warrantorlaw04.SectPuts', WHERE WHAT IT READS IS OF BULK AT MOST 1048576: true; the input reads as it did. -/
def sectPutsUptoRow : OpenClaim := { program := "ytnohflfpahokiaa", sum := "9e01376964bf7d4ea08902847272c74fd4af9d41d3b0770a53fe6ba92a42efb5", func := "warrantor/warrantorlaw04.SectPuts", spec := "sectPuts", unfollowed := true, recurses := true, apart := false, narrowed := true }
def SectPutsUptoSaid : Prop := sectPutsUptoRow.holds Try.pinned (OpenSpec.upto sectPutsSpec)

/-- 'warrantorlaw04.SectGets', WHERE WHAT IT READS IS OF BULK AT MOST 1048576: true; the input reads as it did. -/
def sectGetsUptoRow : OpenClaim := { program := "ytnohflfpahokiaa", sum := "9e01376964bf7d4ea08902847272c74fd4af9d41d3b0770a53fe6ba92a42efb5", func := "warrantor/warrantorlaw04.SectGets", spec := "sectGets", unfollowed := true, recurses := true, apart := false, narrowed := true }
def SectGetsUptoSaid : Prop := sectGetsUptoRow.holds Try.pinned (OpenSpec.upto sectGetsSpec)

/-- 'warrantorlaw04.SectFinds', WHERE WHAT IT READS IS OF BULK AT MOST 1048576: true; the input reads as it did. -/
def sectFindsUptoRow : OpenClaim := { program := "ytnohflfpahokiaa", sum := "9e01376964bf7d4ea08902847272c74fd4af9d41d3b0770a53fe6ba92a42efb5", func := "warrantor/warrantorlaw04.SectFinds", spec := "sectFinds", unfollowed := true, recurses := true, apart := false, narrowed := true }
def SectFindsUptoSaid : Prop := sectFindsUptoRow.holds Try.pinned (OpenSpec.upto sectFindsSpec)

/-- 'warrantorlaw04.SectCuts', WHERE WHAT IT READS IS OF BULK AT MOST 1048576: true; the input reads as it did. -/
def sectCutsUptoRow : OpenClaim := { program := "ytnohflfpahokiaa", sum := "9e01376964bf7d4ea08902847272c74fd4af9d41d3b0770a53fe6ba92a42efb5", func := "warrantor/warrantorlaw04.SectCuts", spec := "sectCuts", unfollowed := true, recurses := true, apart := false, narrowed := true }
def SectCutsUptoSaid : Prop := sectCutsUptoRow.holds Try.pinned (OpenSpec.upto sectCutsSpec)

/-- 'warrantorlaw04.SectTurns', WHERE WHAT IT READS IS OF BULK AT MOST 1048576: true; the input reads as it did. -/
def sectTurnsUptoRow : OpenClaim := { program := "ytnohflfpahokiaa", sum := "9e01376964bf7d4ea08902847272c74fd4af9d41d3b0770a53fe6ba92a42efb5", func := "warrantor/warrantorlaw04.SectTurns", spec := "sectTurns", unfollowed := true, recurses := true, apart := false, narrowed := true }
def SectTurnsUptoSaid : Prop := sectTurnsUptoRow.holds Try.pinned (OpenSpec.upto sectTurnsSpec)

end Rows
end Go.Proofs.Ytnohflfpahokiaa
