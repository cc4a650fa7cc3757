/-
  No cell of these rows narrows 'for every input' (looked for: loops, veiled, ifaces, maps, wideKeys, modest, calm, conditions, laid).
  DERIVED. THE GIVEN ROWS OF THIS SEAT. 4 by the template 'for every input the law returns true; each argument reads behind the call as it read before'; 0 by the template 'total and deterministic' (their statements: YtcblgjaomljikaaGreatTotals.lean).
  GIVEN WITH THE SEED: the statements are not yours to turn. If you find one false, say at which input.
  Laid BY PROGRAM, IN A SANDBOX (cutbox-rows.mjs): the forced cells as the released guide's own fill.sh prints them over the translation 63ee9fa20ac210c5… (all of the seat's roots in one cut). By AI agents, Wed Nov 11 2026. No macro, syntax, notation, axiom, sorry.
-/
import Derived.Test.YtcblgjaomljikaaGreatChecked
import GoSem.Claim
import GoSem.ClaimJoined
import GoSem.ClaimMapViews
import Derived.JoinedTies
import Derived.KernelRfl
namespace Go.Proofs.YtcblgjaomljikaaGreat
/- THE CELL 'sum', in the pinned program and in every row, IS THE sha256 OF THE DUMP (.gsa) THAT YtcblgjaomljikaaGreatProg.lean LOADS. Nothing in Lean hashes anything: it is a label: what it is worth is what the hold of that sum in a sandbox is worth. -/
noncomputable def Tryz.pinned : Pinned := { name := "ytcblgjaomljikaagreat", sum := "63ee9fa20ac210c526883dff02980386366b1e8d6781797b2da48b7e1d37687d", checked := Tryz.checked }
namespace Rows
def none {H : Type} : Left H := { results := [], args := [] }

/-- 'diceboxlaw19.SimShares': WHATEVER THE INPUT: true; the input reads as it did. -/
def simSharesSpec : ChangeSpec := { name := "simShares", fn := fun _ => fun
  | [d1, d2] => { results := [.lit (.bool true)], args := [d1, d2] }
  | _ => none }
def simSharesRow : OpenClaim := { program := "ytcblgjaomljikaagreat", sum := "63ee9fa20ac210c526883dff02980386366b1e8d6781797b2da48b7e1d37687d", func := "dicebox/diceboxlaw19.SimShares", spec := "simShares", unfollowed := true, recurses := true, named := ["math/bits.overflowError"], plainKeys := false, apart := false }
def SimSharesSaid : Prop := simSharesRow.holds Tryz.pinned (OpenSpec.ofChange simSharesSpec)

/-- ITS FALSE NEIGHBOUR: 'it returns false'. Refute it at one input. -/
def simSharesWrong : ChangeSpec := { name := "simShares", fn := fun _ => fun
  | [d1, d2] => { results := [.lit (.bool false)], args := [d1, d2] }
  | _ => none }
def SimSharesWrongFalsely : Prop := simSharesRow.holds Tryz.pinned (OpenSpec.ofChange simSharesWrong)

/-- 'diceboxlaw19.SimRun': WHATEVER THE INPUT: true; the input reads as it did. -/
def simRunSpec : ChangeSpec := { name := "simRun", fn := fun _ => fun
  | [d1, d2, d3, d4] => { results := [.lit (.bool true)], args := [d1, d2, d3, d4] }
  | _ => none }
def simRunRow : OpenClaim := { program := "ytcblgjaomljikaagreat", sum := "63ee9fa20ac210c526883dff02980386366b1e8d6781797b2da48b7e1d37687d", func := "dicebox/diceboxlaw19.SimRun", spec := "simRun", unfollowed := true, recurses := true, named := ["math/bits.overflowError"], plainKeys := false, apart := false }
def SimRunSaid : Prop := simRunRow.holds Tryz.pinned (OpenSpec.ofChange simRunSpec)

/-- ITS FALSE NEIGHBOUR: 'it returns false'. Refute it at one input. -/
def simRunWrong : ChangeSpec := { name := "simRun", fn := fun _ => fun
  | [d1, d2, d3, d4] => { results := [.lit (.bool false)], args := [d1, d2, d3, d4] }
  | _ => none }
def SimRunWrongFalsely : Prop := simRunRow.holds Tryz.pinned (OpenSpec.ofChange simRunWrong)

/-- 'diceboxlaw19.SimMeeting': WHATEVER THE INPUT: true; the input reads as it did. -/
def simMeetingSpec : ChangeSpec := { name := "simMeeting", fn := fun _ => fun
  | [d1, d2, d3, d4, d5, d6] => { results := [.lit (.bool true)], args := [d1, d2, d3, d4, d5, d6] }
  | _ => none }
def simMeetingRow : OpenClaim := { program := "ytcblgjaomljikaagreat", sum := "63ee9fa20ac210c526883dff02980386366b1e8d6781797b2da48b7e1d37687d", func := "dicebox/diceboxlaw19.SimMeeting", spec := "simMeeting", unfollowed := true, recurses := true, named := ["math/bits.overflowError"], plainKeys := false, apart := false }
def SimMeetingSaid : Prop := simMeetingRow.holds Tryz.pinned (OpenSpec.ofChange simMeetingSpec)

/-- ITS FALSE NEIGHBOUR: 'it returns false'. Refute it at one input. -/
def simMeetingWrong : ChangeSpec := { name := "simMeeting", fn := fun _ => fun
  | [d1, d2, d3, d4, d5, d6] => { results := [.lit (.bool false)], args := [d1, d2, d3, d4, d5, d6] }
  | _ => none }
def SimMeetingWrongFalsely : Prop := simMeetingRow.holds Tryz.pinned (OpenSpec.ofChange simMeetingWrong)

/-- 'diceboxlaw19.SimLaws': WHATEVER THE INPUT: true; the input reads as it did. -/
def simLawsSpec : ChangeSpec := { name := "simLaws", fn := fun _ => fun
  | [d1, d2, d3, d4, d5, d6, d7] => { results := [.lit (.bool true)], args := [d1, d2, d3, d4, d5, d6, d7] }
  | _ => none }
def simLawsRow : OpenClaim := { program := "ytcblgjaomljikaagreat", sum := "63ee9fa20ac210c526883dff02980386366b1e8d6781797b2da48b7e1d37687d", func := "dicebox/diceboxlaw19.SimLaws", spec := "simLaws", unfollowed := true, recurses := true, named := ["math/bits.overflowError"], plainKeys := false, apart := false }
def SimLawsSaid : Prop := simLawsRow.holds Tryz.pinned (OpenSpec.ofChange simLawsSpec)

/-- ITS FALSE NEIGHBOUR: 'it returns false'. Refute it at one input. -/
def simLawsWrong : ChangeSpec := { name := "simLaws", fn := fun _ => fun
  | [d1, d2, d3, d4, d5, d6, d7] => { results := [.lit (.bool false)], args := [d1, d2, d3, d4, d5, d6, d7] }
  | _ => none }
def SimLawsWrongFalsely : Prop := simLawsRow.holds Tryz.pinned (OpenSpec.ofChange simLawsWrong)

/- THE SECOND FORM. 'bulk': how many values and letters a reading holds, each counted each time it is reached (what is shared counts as often as it is met; a slice's spare places count too). A statement '..UptoSaid' is the law's where the arguments, and the package variables that the reading takes, are together of bulk at most 1048576: NARROWER than '..Said'. Prove '..Said' where nothing that the law and all that it calls make is longer than what came in: it says more and counts as full. Else prove '..UptoSaid'. A law counts once. -/
mutual
def uptoBulk {H : Type} : DataW H → Nat
  | .lit (.string bytes) => bytes.length + 1
  | .lit _ => 1
  | .nil => 1
  | .ptr d => uptoBulk d + 1
  | .slice elems spare => uptoBulkAll elems + uptoBulkAll spare + 1
  | .agg parts => uptoBulkAll parts + 1
  | .iface _ d => uptoBulk d + 1
  | .map entries => uptoBulkEntries entries + 1
  | .held _ => 1
def uptoBulkAll {H : Type} : List (DataW H) → Nat
  | [] => 0
  | d :: r => uptoBulk d + uptoBulkAll r
def uptoBulkEntries {H : Type} : List (Lit × DataW H) → Nat
  | [] => 0
  | x :: r => uptoBulkEntry x + uptoBulkEntries r
def uptoBulkEntry {H : Type} : Lit × DataW H → Nat
  | (.string bytes, d) => bytes.length + uptoBulk d + 1
  | (_, d) => uptoBulk d + 1
 end
def uptoSmall : (H : Type) → List (DataW H) → Bool := fun _ ds => decide (uptoBulkAll ds ≤ 1048576)
def OpenSpec.upto (s : _root_.Go.ChangeSpec) : _root_.Go.OpenSpec := { _root_.Go.OpenSpec.ofChange s with cond := some uptoSmall }

/-- 'diceboxlaw19.SimShares', WHERE WHAT IT READS IS OF BULK AT MOST 1048576: true; the input reads as it did. -/
def simSharesUptoRow : OpenClaim := { program := "ytcblgjaomljikaagreat", sum := "63ee9fa20ac210c526883dff02980386366b1e8d6781797b2da48b7e1d37687d", func := "dicebox/diceboxlaw19.SimShares", spec := "simShares", unfollowed := true, recurses := true, named := ["math/bits.overflowError"], plainKeys := false, apart := false, narrowed := true }
def SimSharesUptoSaid : Prop := simSharesUptoRow.holds Tryz.pinned (OpenSpec.upto simSharesSpec)

/-- 'diceboxlaw19.SimRun', WHERE WHAT IT READS IS OF BULK AT MOST 1048576: true; the input reads as it did. -/
def simRunUptoRow : OpenClaim := { program := "ytcblgjaomljikaagreat", sum := "63ee9fa20ac210c526883dff02980386366b1e8d6781797b2da48b7e1d37687d", func := "dicebox/diceboxlaw19.SimRun", spec := "simRun", unfollowed := true, recurses := true, named := ["math/bits.overflowError"], plainKeys := false, apart := false, narrowed := true }
def SimRunUptoSaid : Prop := simRunUptoRow.holds Tryz.pinned (OpenSpec.upto simRunSpec)

/-- 'diceboxlaw19.SimMeeting', WHERE WHAT IT READS IS OF BULK AT MOST 1048576: true; the input reads as it did. -/
def simMeetingUptoRow : OpenClaim := { program := "ytcblgjaomljikaagreat", sum := "63ee9fa20ac210c526883dff02980386366b1e8d6781797b2da48b7e1d37687d", func := "dicebox/diceboxlaw19.SimMeeting", spec := "simMeeting", unfollowed := true, recurses := true, named := ["math/bits.overflowError"], plainKeys := false, apart := false, narrowed := true }
def SimMeetingUptoSaid : Prop := simMeetingUptoRow.holds Tryz.pinned (OpenSpec.upto simMeetingSpec)

/-- 'diceboxlaw19.SimLaws', WHERE WHAT IT READS IS OF BULK AT MOST 1048576: true; the input reads as it did. -/
def simLawsUptoRow : OpenClaim := { program := "ytcblgjaomljikaagreat", sum := "63ee9fa20ac210c526883dff02980386366b1e8d6781797b2da48b7e1d37687d", func := "dicebox/diceboxlaw19.SimLaws", spec := "simLaws", unfollowed := true, recurses := true, named := ["math/bits.overflowError"], plainKeys := false, apart := false, narrowed := true }
def SimLawsUptoSaid : Prop := simLawsUptoRow.holds Tryz.pinned (OpenSpec.upto simLawsSpec)

end Rows
end Go.Proofs.YtcblgjaomljikaaGreat
