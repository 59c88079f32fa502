/-
  No cell of these rows narrows 'for every input' (looked for: loops, veiled, ifaces, maps, wideKeys, modest, calm, conditions, laid).
  DERIVED. THE GIVEN ROWS OF THIS SEAT. 3 by the template 'for every input the law returns true; each argument reads behind the call as it read before'; 0 by the template 'total and deterministic' (their statements: YtjanjpchdjagjaaTotals.lean).
  GIVEN WITH THE SEED: the statements are not yours to turn. If you find one false, say at which input.
  Laid BY PROGRAM, IN A SANDBOX (cutbox-rows.mjs): the forced cells as the released guide's own fill.sh prints them over the translation 1044624bc8b5acec… (all of the seat's roots in one cut). By AI agents, Wed Nov 11 2026. No macro, syntax, notation, axiom, sorry.
-/
import Derived.Test.YtjanjpchdjagjaaChecked
import GoSem.Claim
import GoSem.ClaimJoined
import GoSem.ClaimMapViews
import Derived.JoinedTies
import Derived.KernelRfl
namespace Go.Proofs.Ytjanjpchdjagjaa
/- THE CELL 'sum', in the pinned program and in every row, IS THE sha256 OF THE DUMP (.gsa) THAT YtjanjpchdjagjaaProg.lean LOADS. Nothing in Lean hashes anything: it is a label: what it is worth is what the hold of that sum in a sandbox is worth. -/
noncomputable def Try.pinned : Pinned := { name := "ytjanjpchdjagjaa", sum := "1044624bc8b5acecc6534bebe616e6eca4ab880efa5f4f1043925101bc5d705f", checked := Try.checked }
namespace Rows
def none {H : Type} : Left H := { results := [], args := [] }

/-- 'warrantorlaw02.CurWrites': WHATEVER THE INPUT: true; the input reads as it did. -/
def curWritesSpec : ChangeSpec := { name := "curWrites", fn := fun _ => fun
  | [d] => { results := [.lit (.bool true)], args := [d] }
  | _ => none }
def curWritesRow : OpenClaim := { program := "ytjanjpchdjagjaa", sum := "1044624bc8b5acecc6534bebe616e6eca4ab880efa5f4f1043925101bc5d705f", func := "warrantor/warrantorlaw02.CurWrites", spec := "curWrites", unfollowed := true, recurses := true, apart := false }
def CurWritesSaid : Prop := curWritesRow.holds Try.pinned (OpenSpec.ofChange curWritesSpec)

/-- ITS FALSE NEIGHBOUR: 'it returns false'. Refute it at one input. -/
def curWritesWrong : ChangeSpec := { name := "curWrites", fn := fun _ => fun
  | [d] => { results := [.lit (.bool false)], args := [d] }
  | _ => none }
def CurWritesWrongFalsely : Prop := curWritesRow.holds Try.pinned (OpenSpec.ofChange curWritesWrong)

/-- 'warrantorlaw02.CurReads': WHATEVER THE INPUT: true; the input reads as it did. -/
def curReadsSpec : ChangeSpec := { name := "curReads", fn := fun _ => fun
  | [d1, d2] => { results := [.lit (.bool true)], args := [d1, d2] }
  | _ => none }
def curReadsRow : OpenClaim := { program := "ytjanjpchdjagjaa", sum := "1044624bc8b5acecc6534bebe616e6eca4ab880efa5f4f1043925101bc5d705f", func := "warrantor/warrantorlaw02.CurReads", spec := "curReads", unfollowed := true, recurses := true, apart := false }
def CurReadsSaid : Prop := curReadsRow.holds Try.pinned (OpenSpec.ofChange curReadsSpec)

/-- ITS FALSE NEIGHBOUR: 'it returns false'. Refute it at one input. -/
def curReadsWrong : ChangeSpec := { name := "curReads", fn := fun _ => fun
  | [d1, d2] => { results := [.lit (.bool false)], args := [d1, d2] }
  | _ => none }
def CurReadsWrongFalsely : Prop := curReadsRow.holds Try.pinned (OpenSpec.ofChange curReadsWrong)

/-- 'warrantorlaw02.CurNobody': WHATEVER THE INPUT: true; the input reads as it did. -/
def curNobodySpec : ChangeSpec := { name := "curNobody", fn := fun _ => fun
  | [d] => { results := [.lit (.bool true)], args := [d] }
  | _ => none }
def curNobodyRow : OpenClaim := { program := "ytjanjpchdjagjaa", sum := "1044624bc8b5acecc6534bebe616e6eca4ab880efa5f4f1043925101bc5d705f", func := "warrantor/warrantorlaw02.CurNobody", spec := "curNobody", unfollowed := true, recurses := true, apart := false }
def CurNobodySaid : Prop := curNobodyRow.holds Try.pinned (OpenSpec.ofChange curNobodySpec)

/-- ITS FALSE NEIGHBOUR: 'it returns false'. Refute it at one input. -/
def curNobodyWrong : ChangeSpec := { name := "curNobody", fn := fun _ => fun
  | [d] => { results := [.lit (.bool false)], args := [d] }
  | _ => none }
def CurNobodyWrongFalsely : Prop := curNobodyRow.holds Try.pinned (OpenSpec.ofChange curNobodyWrong)

/- THE SECOND FORM. 'bulk': how many values and letters a reading holds, each counted each time it is reached (what is shared counts as often as it is met; a slice's spare places count too). A statement '..UptoSaid' is the law's where the arguments, and the package variables that the reading takes, are together of bulk at most 1048576: NARROWER than '..Said'. Prove '..Said' where nothing that the law and all that it calls make is longer than what came in: it says more and counts as full. Else prove '..UptoSaid'. A law counts once. -/
mutual
def uptoBulk {H : Type} : DataW H → Nat
  | .lit (.string bytes) => bytes.length + 1
  | .lit _ => 1
  | .nil => 1
  | .ptr d => uptoBulk d + 1
  | .slice elems spare => uptoBulkAll elems + uptoBulkAll spare + 1
  | .agg parts => uptoBulkAll parts + 1
  | .iface _ d => uptoBulk d + 1
  | .map entries => uptoBulkEntries entries + 1
  | .held _ => 1
def uptoBulkAll {H : Type} : List (DataW H) → Nat
  | [] => 0
  | d :: r => uptoBulk d + uptoBulkAll r
def uptoBulkEntries {H : Type} : List (Lit × DataW H) → Nat
  | [] => 0
  | x :: r => uptoBulkEntry x + uptoBulkEntries r
def uptoBulkEntry {H : Type} : Lit × DataW H → Nat
  | (.string bytes, d) => bytes.length + uptoBulk d + 1
  | (_, d) => uptoBulk d + 1
 end
def uptoSmall : (H : Type) → List (DataW H) → Bool := fun _ ds => decide (uptoBulkAll ds ≤ 1048576)
def OpenSpec.upto (s : _root_.Go.ChangeSpec) : _root_.Go.OpenSpec := { _root_.Go.OpenSpec.ofChange s with cond := some uptoSmall }

/-- 'warrantorlaw02.CurWrites', WHERE WHAT IT READS IS OF BULK AT MOST 1048576: true; the input reads as it did. -/
def curWritesUptoRow : OpenClaim := { program := "ytjanjpchdjagjaa", sum := "1044624bc8b5acecc6534bebe616e6eca4ab880efa5f4f1043925101bc5d705f", func := "warrantor/warrantorlaw02.CurWrites", spec := "curWrites", unfollowed := true, recurses := true, apart := false, narrowed := true }
def CurWritesUptoSaid : Prop := curWritesUptoRow.holds Try.pinned (OpenSpec.upto curWritesSpec)

/-- 'warrantorlaw02.CurReads', WHERE WHAT IT READS IS OF BULK AT MOST 1048576: true; the input reads as it did. -/
def curReadsUptoRow : OpenClaim := { program := "ytjanjpchdjagjaa", sum := "1044624bc8b5acecc6534bebe616e6eca4ab880efa5f4f1043925101bc5d705f", func := "warrantor/warrantorlaw02.CurReads", spec := "curReads", unfollowed := true, recurses := true, apart := false, narrowed := true }
def CurReadsUptoSaid : Prop := curReadsUptoRow.holds Try.pinned (OpenSpec.upto curReadsSpec)

/-- 'warrantorlaw02.CurNobody', WHERE WHAT IT READS IS OF BULK AT MOST 1048576: true; the input reads as it did. -/
def curNobodyUptoRow : OpenClaim := { program := "ytjanjpchdjagjaa", sum := "1044624bc8b5acecc6534bebe616e6eca4ab880efa5f4f1043925101bc5d705f", func := "warrantor/warrantorlaw02.CurNobody", spec := "curNobody", unfollowed := true, recurses := true, apart := false, narrowed := true }
def CurNobodyUptoSaid : Prop := curNobodyUptoRow.holds Try.pinned (OpenSpec.upto curNobodySpec)

end Rows
end Go.Proofs.Ytjanjpchdjagjaa
