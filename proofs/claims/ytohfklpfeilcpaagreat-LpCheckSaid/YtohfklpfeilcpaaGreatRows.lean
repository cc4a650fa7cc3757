/-
  No cell of these rows narrows 'for every input' (looked for: loops, veiled, ifaces, maps, wideKeys, modest, calm, conditions, laid).
  DERIVED. THE GIVEN ROWS OF THIS SEAT. 4 by the template 'for every input the law returns true; each argument reads behind the call as it read before'; 0 by the template 'total and deterministic' (their statements: YtohfklpfeilcpaaGreatTotals.lean).
  GIVEN WITH THE SEED: the statements are not yours to turn. If you find one false, say at which input.
  Laid BY PROGRAM, IN A SANDBOX (cutbox-rows.mjs): the forced cells as the released guide's own fill.sh prints them over the translation 71be8b2f33d6bd3d… (all of the seat's roots in one cut). By AI agents, Wed Nov 11 2026. No macro, syntax, notation, axiom, sorry.
-/
import Derived.Test.YtohfklpfeilcpaaGreatChecked
import GoSem.Claim
import GoSem.ClaimJoined
import GoSem.ClaimMapViews
import Derived.JoinedTies
import Derived.KernelRfl
namespace Go.Proofs.YtohfklpfeilcpaaGreat
/- THE CELL 'sum', in the pinned program and in every row, IS THE sha256 OF THE DUMP (.gsa) THAT YtohfklpfeilcpaaGreatProg.lean LOADS. Nothing in Lean hashes anything: it is a label: what it is worth is what the hold of that sum in a sandbox is worth. -/
noncomputable def Tryz.pinned : Pinned := { name := "ytohfklpfeilcpaagreat", sum := "71be8b2f33d6bd3d9fdaa92f45e116453fc9cb3881b919cb94f4a7edb85c129c", checked := Tryz.checked }
namespace Rows
def none {H : Type} : Left H := { results := [], args := [] }

/-- 'diceboxlaw03.LpMaximum': WHATEVER THE INPUT: true; the input reads as it did. -/
def lpMaximumSpec : ChangeSpec := { name := "lpMaximum", fn := fun _ => fun
  | [d] => { results := [.lit (.bool true)], args := [d] }
  | _ => none }
def lpMaximumRow : OpenClaim := { program := "ytohfklpfeilcpaagreat", sum := "71be8b2f33d6bd3d9fdaa92f45e116453fc9cb3881b919cb94f4a7edb85c129c", func := "dicebox/diceboxlaw03.LpMaximum", spec := "lpMaximum", unfollowed := true, recurses := true, named := ["math/bits.overflowError"], apart := false }
def LpMaximumSaid : Prop := lpMaximumRow.holds Tryz.pinned (OpenSpec.ofChange lpMaximumSpec)

/-- ITS FALSE NEIGHBOUR: 'it returns false'. Refute it at one input. -/
def lpMaximumWrong : ChangeSpec := { name := "lpMaximum", fn := fun _ => fun
  | [d] => { results := [.lit (.bool false)], args := [d] }
  | _ => none }
def LpMaximumWrongFalsely : Prop := lpMaximumRow.holds Tryz.pinned (OpenSpec.ofChange lpMaximumWrong)

/-- 'diceboxlaw03.LpCheck': WHATEVER THE INPUT: true; the input reads as it did. -/
def lpCheckSpec : ChangeSpec := { name := "lpCheck", fn := fun _ => fun
  | [d1, d2, d3] => { results := [.lit (.bool true)], args := [d1, d2, d3] }
  | _ => none }
def lpCheckRow : OpenClaim := { program := "ytohfklpfeilcpaagreat", sum := "71be8b2f33d6bd3d9fdaa92f45e116453fc9cb3881b919cb94f4a7edb85c129c", func := "dicebox/diceboxlaw03.LpCheck", spec := "lpCheck", unfollowed := true, recurses := true, named := ["math/bits.overflowError"], apart := false }
def LpCheckSaid : Prop := lpCheckRow.holds Tryz.pinned (OpenSpec.ofChange lpCheckSpec)

/-- ITS FALSE NEIGHBOUR: 'it returns false'. Refute it at one input. -/
def lpCheckWrong : ChangeSpec := { name := "lpCheck", fn := fun _ => fun
  | [d1, d2, d3] => { results := [.lit (.bool false)], args := [d1, d2, d3] }
  | _ => none }
def LpCheckWrongFalsely : Prop := lpCheckRow.holds Tryz.pinned (OpenSpec.ofChange lpCheckWrong)

/-- 'diceboxlaw03.LpOptimum': WHATEVER THE INPUT: true; the input reads as it did. -/
def lpOptimumSpec : ChangeSpec := { name := "lpOptimum", fn := fun _ => fun
  | [d1, d2, d3, d4] => { results := [.lit (.bool true)], args := [d1, d2, d3, d4] }
  | _ => none }
def lpOptimumRow : OpenClaim := { program := "ytohfklpfeilcpaagreat", sum := "71be8b2f33d6bd3d9fdaa92f45e116453fc9cb3881b919cb94f4a7edb85c129c", func := "dicebox/diceboxlaw03.LpOptimum", spec := "lpOptimum", unfollowed := true, recurses := true, named := ["math/bits.overflowError"], apart := false }
def LpOptimumSaid : Prop := lpOptimumRow.holds Tryz.pinned (OpenSpec.ofChange lpOptimumSpec)

/-- ITS FALSE NEIGHBOUR: 'it returns false'. Refute it at one input. -/
def lpOptimumWrong : ChangeSpec := { name := "lpOptimum", fn := fun _ => fun
  | [d1, d2, d3, d4] => { results := [.lit (.bool false)], args := [d1, d2, d3, d4] }
  | _ => none }
def LpOptimumWrongFalsely : Prop := lpOptimumRow.holds Tryz.pinned (OpenSpec.ofChange lpOptimumWrong)

/-- 'diceboxlaw03.LpOwn': WHATEVER THE INPUT: true; the input reads as it did. -/
def lpOwnSpec : ChangeSpec := { name := "lpOwn", fn := fun _ => fun
  | [d1, d2, d3] => { results := [.lit (.bool true)], args := [d1, d2, d3] }
  | _ => none }
def lpOwnRow : OpenClaim := { program := "ytohfklpfeilcpaagreat", sum := "71be8b2f33d6bd3d9fdaa92f45e116453fc9cb3881b919cb94f4a7edb85c129c", func := "dicebox/diceboxlaw03.LpOwn", spec := "lpOwn", unfollowed := true, recurses := true, named := ["math/bits.overflowError"], apart := false }
def LpOwnSaid : Prop := lpOwnRow.holds Tryz.pinned (OpenSpec.ofChange lpOwnSpec)

/-- ITS FALSE NEIGHBOUR: 'it returns false'. Refute it at one input. -/
def lpOwnWrong : ChangeSpec := { name := "lpOwn", fn := fun _ => fun
  | [d1, d2, d3] => { results := [.lit (.bool false)], args := [d1, d2, d3] }
  | _ => none }
def LpOwnWrongFalsely : Prop := lpOwnRow.holds Tryz.pinned (OpenSpec.ofChange lpOwnWrong)

/- THE SECOND FORM. 'bulk': how many values and letters a reading holds, each counted each time it is reached (what is shared counts as often as it is met; a slice's spare places count too). A statement '..UptoSaid' is the law's where the arguments, and the package variables that the reading takes, are together of bulk at most 1048576: NARROWER than '..Said'. Prove '..Said' where nothing that the law and all that it calls make is longer than what came in: it says more and counts as full. Else prove '..UptoSaid'. A law counts once. -/
mutual
def uptoBulk {H : Type} : DataW H → Nat
  | .lit (.string bytes) => bytes.length + 1
  | .lit _ => 1
  | .nil => 1
  | .ptr d => uptoBulk d + 1
  | .slice elems spare => uptoBulkAll elems + uptoBulkAll spare + 1
  | .agg parts => uptoBulkAll parts + 1
  | .iface _ d => uptoBulk d + 1
  | .map entries => uptoBulkEntries entries + 1
  | .held _ => 1
def uptoBulkAll {H : Type} : List (DataW H) → Nat
  | [] => 0
  | d :: r => uptoBulk d + uptoBulkAll r
def uptoBulkEntries {H : Type} : List (Lit × DataW H) → Nat
  | [] => 0
  | x :: r => uptoBulkEntry x + uptoBulkEntries r
def uptoBulkEntry {H : Type} : Lit × DataW H → Nat
  | (.string bytes, d) => bytes.length + uptoBulk d + 1
  | (_, d) => uptoBulk d + 1
 end
def uptoSmall : (H : Type) → List (DataW H) → Bool := fun _ ds => decide (uptoBulkAll ds ≤ 1048576)
def OpenSpec.upto (s : _root_.Go.ChangeSpec) : _root_.Go.OpenSpec := { _root_.Go.OpenSpec.ofChange s with cond := some uptoSmall }

/-- 'diceboxlaw03.LpMaximum', WHERE WHAT IT READS IS OF BULK AT MOST 1048576: true; the input reads as it did. -/
def lpMaximumUptoRow : OpenClaim := { program := "ytohfklpfeilcpaagreat", sum := "71be8b2f33d6bd3d9fdaa92f45e116453fc9cb3881b919cb94f4a7edb85c129c", func := "dicebox/diceboxlaw03.LpMaximum", spec := "lpMaximum", unfollowed := true, recurses := true, named := ["math/bits.overflowError"], apart := false, narrowed := true }
def LpMaximumUptoSaid : Prop := lpMaximumUptoRow.holds Tryz.pinned (OpenSpec.upto lpMaximumSpec)

/-- 'diceboxlaw03.LpCheck', WHERE WHAT IT READS IS OF BULK AT MOST 1048576: true; the input reads as it did. -/
def lpCheckUptoRow : OpenClaim := { program := "ytohfklpfeilcpaagreat", sum := "71be8b2f33d6bd3d9fdaa92f45e116453fc9cb3881b919cb94f4a7edb85c129c", func := "dicebox/diceboxlaw03.LpCheck", spec := "lpCheck", unfollowed := true, recurses := true, named := ["math/bits.overflowError"], apart := false, narrowed := true }
def LpCheckUptoSaid : Prop := lpCheckUptoRow.holds Tryz.pinned (OpenSpec.upto lpCheckSpec)

/-- 'diceboxlaw03.LpOptimum', WHERE WHAT IT READS IS OF BULK AT MOST 1048576: true; the input reads as it did. -/
def lpOptimumUptoRow : OpenClaim := { program := "ytohfklpfeilcpaagreat", sum := "71be8b2f33d6bd3d9fdaa92f45e116453fc9cb3881b919cb94f4a7edb85c129c", func := "dicebox/diceboxlaw03.LpOptimum", spec := "lpOptimum", unfollowed := true, recurses := true, named := ["math/bits.overflowError"], apart := false, narrowed := true }
def LpOptimumUptoSaid : Prop := lpOptimumUptoRow.holds Tryz.pinned (OpenSpec.upto lpOptimumSpec)

/-- 'diceboxlaw03.LpOwn', WHERE WHAT IT READS IS OF BULK AT MOST 1048576: true; the input reads as it did. -/
def lpOwnUptoRow : OpenClaim := { program := "ytohfklpfeilcpaagreat", sum := "71be8b2f33d6bd3d9fdaa92f45e116453fc9cb3881b919cb94f4a7edb85c129c", func := "dicebox/diceboxlaw03.LpOwn", spec := "lpOwn", unfollowed := true, recurses := true, named := ["math/bits.overflowError"], apart := false, narrowed := true }
def LpOwnUptoSaid : Prop := lpOwnUptoRow.holds Tryz.pinned (OpenSpec.upto lpOwnSpec)

end Rows
end Go.Proofs.YtohfklpfeilcpaaGreat
