/-
  No cell of these rows narrows 'for every input' (looked for: loops, veiled, ifaces, maps, wideKeys, modest, calm, conditions, laid).
  DERIVED. THE GIVEN ROWS OF THIS SEAT. 3 by the template 'for every input the law returns true; each argument reads behind the call as it read before'; 0 by the template 'total and deterministic' (their statements: YthpnlndhebcngaaGreatTotals.lean).
  GIVEN WITH THE SEED: the statements are not yours to turn. If you find one false, say at which input.
  Laid BY PROGRAM, IN A SANDBOX (cutbox-rows.mjs): the forced cells as the released guide's own fill.sh prints them over the translation 70107674df62a03c… (all of the seat's roots in one cut). By AI agents, Wed Nov 11 2026. No macro, syntax, notation, axiom, sorry.
-/
import Derived.Test.YthpnlndhebcngaaGreatChecked
import GoSem.Claim
import GoSem.ClaimJoined
import GoSem.ClaimMapViews
import Derived.JoinedTies
import Derived.KernelRfl
namespace Go.Proofs.YthpnlndhebcngaaGreat
/- THE CELL 'sum', in the pinned program and in every row, IS THE sha256 OF THE DUMP (.gsa) THAT YthpnlndhebcngaaGreatProg.lean LOADS. Nothing in Lean hashes anything: it is a label: what it is worth is what the hold of that sum in a sandbox is worth. -/
noncomputable def Tryz.pinned : Pinned := { name := "ythpnlndhebcngaagreat", sum := "70107674df62a03c1bbedc198b57c566700db53c4f8613142e09723d58c9f1c1", checked := Tryz.checked }
namespace Rows
def none {H : Type} : Left H := { results := [], args := [] }

/-- 'diceboxlaw07.SureSets': WHATEVER THE INPUT: true; the input reads as it did. -/
def sureSetsSpec : ChangeSpec := { name := "sureSets", fn := fun _ => fun
  | [d1, d2, d3] => { results := [.lit (.bool true)], args := [d1, d2, d3] }
  | _ => none }
def sureSetsRow : OpenClaim := { program := "ythpnlndhebcngaagreat", sum := "70107674df62a03c1bbedc198b57c566700db53c4f8613142e09723d58c9f1c1", func := "dicebox/diceboxlaw07.SureSets", spec := "sureSets", unfollowed := true, recurses := true, named := ["math/bits.overflowError"], apart := false }
def SureSetsSaid : Prop := sureSetsRow.holds Tryz.pinned (OpenSpec.ofChange sureSetsSpec)

/-- ITS FALSE NEIGHBOUR: 'it returns false'. Refute it at one input. -/
def sureSetsWrong : ChangeSpec := { name := "sureSets", fn := fun _ => fun
  | [d1, d2, d3] => { results := [.lit (.bool false)], args := [d1, d2, d3] }
  | _ => none }
def SureSetsWrongFalsely : Prop := sureSetsRow.holds Tryz.pinned (OpenSpec.ofChange sureSetsWrong)

/-- 'diceboxlaw07.SureAttains': WHATEVER THE INPUT: true; the input reads as it did. -/
def sureAttainsSpec : ChangeSpec := { name := "sureAttains", fn := fun _ => fun
  | [d1, d2, d3, d4, d5, d6] => { results := [.lit (.bool true)], args := [d1, d2, d3, d4, d5, d6] }
  | _ => none }
def sureAttainsRow : OpenClaim := { program := "ythpnlndhebcngaagreat", sum := "70107674df62a03c1bbedc198b57c566700db53c4f8613142e09723d58c9f1c1", func := "dicebox/diceboxlaw07.SureAttains", spec := "sureAttains", unfollowed := true, recurses := true, named := ["math/bits.overflowError"], apart := false }
def SureAttainsSaid : Prop := sureAttainsRow.holds Tryz.pinned (OpenSpec.ofChange sureAttainsSpec)

/-- ITS FALSE NEIGHBOUR: 'it returns false'. Refute it at one input. -/
def sureAttainsWrong : ChangeSpec := { name := "sureAttains", fn := fun _ => fun
  | [d1, d2, d3, d4, d5, d6] => { results := [.lit (.bool false)], args := [d1, d2, d3, d4, d5, d6] }
  | _ => none }
def SureAttainsWrongFalsely : Prop := sureAttainsRow.holds Tryz.pinned (OpenSpec.ofChange sureAttainsWrong)

/-- 'diceboxlaw07.SureLaws': WHATEVER THE INPUT: true; the input reads as it did. -/
def sureLawsSpec : ChangeSpec := { name := "sureLaws", fn := fun _ => fun
  | [d1, d2, d3, d4, d5, d6, d7] => { results := [.lit (.bool true)], args := [d1, d2, d3, d4, d5, d6, d7] }
  | _ => none }
def sureLawsRow : OpenClaim := { program := "ythpnlndhebcngaagreat", sum := "70107674df62a03c1bbedc198b57c566700db53c4f8613142e09723d58c9f1c1", func := "dicebox/diceboxlaw07.SureLaws", spec := "sureLaws", unfollowed := true, recurses := true, named := ["math/bits.overflowError"], apart := false }
def SureLawsSaid : Prop := sureLawsRow.holds Tryz.pinned (OpenSpec.ofChange sureLawsSpec)

/-- ITS FALSE NEIGHBOUR: 'it returns false'. Refute it at one input. -/
def sureLawsWrong : ChangeSpec := { name := "sureLaws", fn := fun _ => fun
  | [d1, d2, d3, d4, d5, d6, d7] => { results := [.lit (.bool false)], args := [d1, d2, d3, d4, d5, d6, d7] }
  | _ => none }
def SureLawsWrongFalsely : Prop := sureLawsRow.holds Tryz.pinned (OpenSpec.ofChange sureLawsWrong)

/- THE SECOND FORM. 'bulk': how many values and letters a reading holds, each counted each time it is reached (what is shared counts as often as it is met; a slice's spare places count too). A statement '..UptoSaid' is the law's where the arguments, and the package variables that the reading takes, are together of bulk at most 1048576: NARROWER than '..Said'. Prove '..Said' where nothing that the law and all that it calls make is longer than what came in: it says more and counts as full. Else prove '..UptoSaid'. A law counts once. -/
mutual
def uptoBulk {H : Type} : DataW H → Nat
  | .lit (.string bytes) => bytes.length + 1
  | .lit _ => 1
  | .nil => 1
  | .ptr d => uptoBulk d + 1
  | .slice elems spare => uptoBulkAll elems + uptoBulkAll spare + 1
  | .agg parts => uptoBulkAll parts + 1
  | .iface _ d => uptoBulk d + 1
  | .map entries => uptoBulkEntries entries + 1
  | .held _ => 1
def uptoBulkAll {H : Type} : List (DataW H) → Nat
  | [] => 0
  | d :: r => uptoBulk d + uptoBulkAll r
def uptoBulkEntries {H : Type} : List (Lit × DataW H) → Nat
  | [] => 0
  | x :: r => uptoBulkEntry x + uptoBulkEntries r
def uptoBulkEntry {H : Type} : Lit × DataW H → Nat
  | (.string bytes, d) => bytes.length + uptoBulk d + 1
  | (_, d) => uptoBulk d + 1
 end
def uptoSmall : (H : Type) → List (DataW H) → Bool := fun _ ds => decide (uptoBulkAll ds ≤ 1048576)
def OpenSpec.upto (s : _root_.Go.ChangeSpec) : _root_.Go.OpenSpec := { _root_.Go.OpenSpec.ofChange s with cond := some uptoSmall }

/-- 'diceboxlaw07.SureSets', WHERE WHAT IT READS IS OF BULK AT MOST 1048576: true; the input reads as it did. -/
def sureSetsUptoRow : OpenClaim := { program := "ythpnlndhebcngaagreat", sum := "70107674df62a03c1bbedc198b57c566700db53c4f8613142e09723d58c9f1c1", func := "dicebox/diceboxlaw07.SureSets", spec := "sureSets", unfollowed := true, recurses := true, named := ["math/bits.overflowError"], apart := false, narrowed := true }
def SureSetsUptoSaid : Prop := sureSetsUptoRow.holds Tryz.pinned (OpenSpec.upto sureSetsSpec)

/-- 'diceboxlaw07.SureAttains', WHERE WHAT IT READS IS OF BULK AT MOST 1048576: true; the input reads as it did. -/
def sureAttainsUptoRow : OpenClaim := { program := "ythpnlndhebcngaagreat", sum := "70107674df62a03c1bbedc198b57c566700db53c4f8613142e09723d58c9f1c1", func := "dicebox/diceboxlaw07.SureAttains", spec := "sureAttains", unfollowed := true, recurses := true, named := ["math/bits.overflowError"], apart := false, narrowed := true }
def SureAttainsUptoSaid : Prop := sureAttainsUptoRow.holds Tryz.pinned (OpenSpec.upto sureAttainsSpec)

/-- 'diceboxlaw07.SureLaws', WHERE WHAT IT READS IS OF BULK AT MOST 1048576: true; the input reads as it did. -/
def sureLawsUptoRow : OpenClaim := { program := "ythpnlndhebcngaagreat", sum := "70107674df62a03c1bbedc198b57c566700db53c4f8613142e09723d58c9f1c1", func := "dicebox/diceboxlaw07.SureLaws", spec := "sureLaws", unfollowed := true, recurses := true, named := ["math/bits.overflowError"], apart := false, narrowed := true }
def SureLawsUptoSaid : Prop := sureLawsUptoRow.holds Tryz.pinned (OpenSpec.upto sureLawsSpec)

end Rows
end Go.Proofs.YthpnlndhebcngaaGreat
