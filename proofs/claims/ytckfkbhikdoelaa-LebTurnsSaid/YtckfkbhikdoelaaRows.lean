/-
  No cell of these rows narrows 'for every input' (looked for: loops, veiled, ifaces, maps, wideKeys, modest, calm, conditions, laid).
  DERIVED. THE GIVEN ROWS OF THIS SEAT. 4 by the template 'for every input the law returns true; each argument reads behind the call as it read before'; 0 by the template 'total and deterministic' (their statements: YtckfkbhikdoelaaTotals.lean).
  GIVEN WITH THE SEED: the statements are not yours to turn. If you find one false, say at which input.
  Laid BY PROGRAM, IN A SANDBOX (cutbox-rows.mjs): the forced cells as the released guide's own fill.sh prints them over the translation 7c3be8918d037a96… (all of the seat's roots in one cut). By AI agents, Wed Nov 11 2026. No macro, syntax, notation, axiom, sorry.
-/
import Derived.Test.YtckfkbhikdoelaaChecked
import GoSem.Claim
import GoSem.ClaimJoined
import GoSem.ClaimMapViews
import Derived.JoinedTies
import Derived.KernelRfl
namespace Go.Proofs.Ytckfkbhikdoelaa
/- THE CELL 'sum', in the pinned program and in every row, IS THE sha256 OF THE DUMP (.gsa) THAT YtckfkbhikdoelaaProg.lean LOADS. Nothing in Lean hashes anything: it is a label: what it is worth is what the hold of that sum in a sandbox is worth. -/
noncomputable def Try.pinned : Pinned := { name := "ytckfkbhikdoelaa", sum := "7c3be8918d037a961e0637f764dd572dafb4c12759d0469a1a19966c4ce5f735", checked := Try.checked }
namespace Rows
def none {H : Type} : Left H := { results := [], args := [] }

/-- 'warrantorlaw01.LebPuts': WHATEVER THE INPUT: true; the input reads as it did. -/
def lebPutsSpec : ChangeSpec := { name := "lebPuts", fn := fun _ => fun
  | [d1, d2] => { results := [.lit (.bool true)], args := [d1, d2] }
  | _ => none }
def lebPutsRow : OpenClaim := { program := "ytckfkbhikdoelaa", sum := "7c3be8918d037a961e0637f764dd572dafb4c12759d0469a1a19966c4ce5f735", func := "warrantor/warrantorlaw01.LebPuts", spec := "lebPuts", apart := false }
def LebPutsSaid : Prop := lebPutsRow.holds Try.pinned (OpenSpec.ofChange lebPutsSpec)

/-- ITS FALSE NEIGHBOUR: 'it returns false'. Refute it at one input. -/
def lebPutsWrong : ChangeSpec := { name := "lebPuts", fn := fun _ => fun
  | [d1, d2] => { results := [.lit (.bool false)], args := [d1, d2] }
  | _ => none }
def LebPutsWrongFalsely : Prop := lebPutsRow.holds Try.pinned (OpenSpec.ofChange lebPutsWrong)

/-- 'warrantorlaw01.LebGets': WHATEVER THE INPUT: true; the input reads as it did. -/
def lebGetsSpec : ChangeSpec := { name := "lebGets", fn := fun _ => fun
  | [d] => { results := [.lit (.bool true)], args := [d] }
  | _ => none }
def lebGetsRow : OpenClaim := { program := "ytckfkbhikdoelaa", sum := "7c3be8918d037a961e0637f764dd572dafb4c12759d0469a1a19966c4ce5f735", func := "warrantor/warrantorlaw01.LebGets", spec := "lebGets", apart := false }
def LebGetsSaid : Prop := lebGetsRow.holds Try.pinned (OpenSpec.ofChange lebGetsSpec)

/-- ITS FALSE NEIGHBOUR: 'it returns false'. Refute it at one input. -/
def lebGetsWrong : ChangeSpec := { name := "lebGets", fn := fun _ => fun
  | [d] => { results := [.lit (.bool false)], args := [d] }
  | _ => none }
def LebGetsWrongFalsely : Prop := lebGetsRow.holds Try.pinned (OpenSpec.ofChange lebGetsWrong)

/-- 'warrantorlaw01.LebTurns': WHATEVER THE INPUT: true; the input reads as it did. -/
def lebTurnsSpec : ChangeSpec := { name := "lebTurns", fn := fun _ => fun
  | [d1, d2, d3] => { results := [.lit (.bool true)], args := [d1, d2, d3] }
  | _ => none }
def lebTurnsRow : OpenClaim := { program := "ytckfkbhikdoelaa", sum := "7c3be8918d037a961e0637f764dd572dafb4c12759d0469a1a19966c4ce5f735", func := "warrantor/warrantorlaw01.LebTurns", spec := "lebTurns", apart := false }
def LebTurnsSaid : Prop := lebTurnsRow.holds Try.pinned (OpenSpec.ofChange lebTurnsSpec)

/-- ITS FALSE NEIGHBOUR: 'it returns false'. Refute it at one input. -/
def lebTurnsWrong : ChangeSpec := { name := "lebTurns", fn := fun _ => fun
  | [d1, d2, d3] => { results := [.lit (.bool false)], args := [d1, d2, d3] }
  | _ => none }
def LebTurnsWrongFalsely : Prop := lebTurnsRow.holds Try.pinned (OpenSpec.ofChange lebTurnsWrong)

/-- 'warrantorlaw01.LebRises': WHATEVER THE INPUT: true; the input reads as it did. -/
def lebRisesSpec : ChangeSpec := { name := "lebRises", fn := fun _ => fun
  | [d1, d2] => { results := [.lit (.bool true)], args := [d1, d2] }
  | _ => none }
def lebRisesRow : OpenClaim := { program := "ytckfkbhikdoelaa", sum := "7c3be8918d037a961e0637f764dd572dafb4c12759d0469a1a19966c4ce5f735", func := "warrantor/warrantorlaw01.LebRises", spec := "lebRises", apart := false }
def LebRisesSaid : Prop := lebRisesRow.holds Try.pinned (OpenSpec.ofChange lebRisesSpec)

/-- ITS FALSE NEIGHBOUR: 'it returns false'. Refute it at one input. -/
def lebRisesWrong : ChangeSpec := { name := "lebRises", fn := fun _ => fun
  | [d1, d2] => { results := [.lit (.bool false)], args := [d1, d2] }
  | _ => none }
def LebRisesWrongFalsely : Prop := lebRisesRow.holds Try.pinned (OpenSpec.ofChange lebRisesWrong)

/- THE SECOND FORM. 'bulk': how many values and letters a reading holds, each counted each time it is reached (what is shared counts as often as it is met; a slice's spare places count too). A statement '..UptoSaid' is the law's where the arguments, and the package variables that the reading takes, are together of bulk at most 1048576: NARROWER than '..Said'. Prove '..Said' where nothing that the law and all that it calls make is longer than what came in: it says more and counts as full. Else prove '..UptoSaid'. A law counts once. -/
mutual
def uptoBulk {H : Type} : DataW H → Nat
  | .lit (.string bytes) => bytes.length + 1
  | .lit _ => 1
  | .nil => 1
  | .ptr d => uptoBulk d + 1
  | .slice elems spare => uptoBulkAll elems + uptoBulkAll spare + 1
  | .agg parts => uptoBulkAll parts + 1
  | .iface _ d => uptoBulk d + 1
  | .map entries => uptoBulkEntries entries + 1
  | .held _ => 1
def uptoBulkAll {H : Type} : List (DataW H) → Nat
  | [] => 0
  | d :: r => uptoBulk d + uptoBulkAll r
def uptoBulkEntries {H : Type} : List (Lit × DataW H) → Nat
  | [] => 0
  | x :: r => uptoBulkEntry x + uptoBulkEntries r
def uptoBulkEntry {H : Type} : Lit × DataW H → Nat
  | (.string bytes, d) => bytes.length + uptoBulk d + 1
  | (_, d) => uptoBulk d + 1
 end
def uptoSmall : (H : Type) → List (DataW H) → Bool := fun _ ds => decide (uptoBulkAll ds ≤ 1048576)
def OpenSpec.upto (s : _root_.Go.ChangeSpec) : _root_.Go.OpenSpec := { _root_.Go.OpenSpec.ofChange s with cond := some uptoSmall }

/-- 'warrantorlaw01.LebPuts', WHERE WHAT IT READS IS OF BULK AT MOST 1048576: true; the input reads as it did. -/
def lebPutsUptoRow : OpenClaim := { program := "ytckfkbhikdoelaa", sum := "7c3be8918d037a961e0637f764dd572dafb4c12759d0469a1a19966c4ce5f735", func := "warrantor/warrantorlaw01.LebPuts", spec := "lebPuts", apart := false, narrowed := true }
def LebPutsUptoSaid : Prop := lebPutsUptoRow.holds Try.pinned (OpenSpec.upto lebPutsSpec)

/-- 'warrantorlaw01.LebGets', WHERE WHAT IT READS IS OF BULK AT MOST 1048576: true; the input reads as it did. -/
def lebGetsUptoRow : OpenClaim := { program := "ytckfkbhikdoelaa", sum := "7c3be8918d037a961e0637f764dd572dafb4c12759d0469a1a19966c4ce5f735", func := "warrantor/warrantorlaw01.LebGets", spec := "lebGets", apart := false, narrowed := true }
def LebGetsUptoSaid : Prop := lebGetsUptoRow.holds Try.pinned (OpenSpec.upto lebGetsSpec)

/-- 'warrantorlaw01.LebTurns', WHERE WHAT IT READS IS OF BULK AT MOST 1048576: true; the input reads as it did. -/
def lebTurnsUptoRow : OpenClaim := { program := "ytckfkbhikdoelaa", sum := "7c3be8918d037a961e0637f764dd572dafb4c12759d0469a1a19966c4ce5f735", func := "warrantor/warrantorlaw01.LebTurns", spec := "lebTurns", apart := false, narrowed := true }
def LebTurnsUptoSaid : Prop := lebTurnsUptoRow.holds Try.pinned (OpenSpec.upto lebTurnsSpec)

/-- 'warrantorlaw01.LebRises', WHERE WHAT IT READS IS OF BULK AT MOST 1048576: true; the input reads as it did. -/
def lebRisesUptoRow : OpenClaim := { program := "ytckfkbhikdoelaa", sum := "7c3be8918d037a961e0637f764dd572dafb4c12759d0469a1a19966c4ce5f735", func := "warrantor/warrantorlaw01.LebRises", spec := "lebRises", apart := false, narrowed := true }
def LebRisesUptoSaid : Prop := lebRisesUptoRow.holds Try.pinned (OpenSpec.upto lebRisesSpec)

end Rows
end Go.Proofs.Ytckfkbhikdoelaa
