/-
  No cell of these rows narrows 'for every input' (looked for: loops, veiled, ifaces, maps, wideKeys, modest, calm, conditions, laid).
  DERIVED. THE GIVEN ROWS OF THIS SEAT. 5 by the template 'for every input the law returns true; each argument reads behind the call as it read before'; 0 by the template 'total and deterministic' (their statements: YtcblgjaomljikaaTotals.lean).
  GIVEN WITH THE SEED: the statements are not yours to turn. If you find one false, say at which input.
  Laid BY PROGRAM, IN A SANDBOX (cutbox-rows.mjs): the forced cells as the released guide's own fill.sh prints them over the translation 5a32fb2f6993d489… (all of the seat's roots in one cut). By AI agents, Wed Nov 11 2026. No macro, syntax, notation, axiom, sorry.
-/
import Derived.Test.YtcblgjaomljikaaChecked
import GoSem.Claim
import GoSem.ClaimJoined
import GoSem.ClaimMapViews
import Derived.JoinedTies
import Derived.KernelRfl
namespace Go.Proofs.Ytcblgjaomljikaa
/- THE CELL 'sum', in the pinned program and in every row, IS THE sha256 OF THE DUMP (.gsa) THAT YtcblgjaomljikaaProg.lean LOADS. Nothing in Lean hashes anything: it is a label: what it is worth is what the hold of that sum in a sandbox is worth. -/
noncomputable def Try.pinned : Pinned := { name := "ytcblgjaomljikaa", sum := "5a32fb2f6993d4898569b85ef641e29c3749af1ec0e992601e7903da10b7041a", checked := Try.checked }
namespace Rows
def none {H : Type} : Left H := { results := [], args := [] }

/-- 'diceboxlaw19.SimClock': WHATEVER THE INPUT: true; the input reads as it did. -/
def simClockSpec : ChangeSpec := { name := "simClock", fn := fun _ => fun
  | [d1, d2, d3, d4] => { results := [.lit (.bool true)], args := [d1, d2, d3, d4] }
  | _ => none }
def simClockRow : OpenClaim := { program := "ytcblgjaomljikaa", sum := "5a32fb2f6993d4898569b85ef641e29c3749af1ec0e992601e7903da10b7041a", func := "dicebox/diceboxlaw19.SimClock", spec := "simClock", unfollowed := true, recurses := true, named := ["math/bits.overflowError"], plainKeys := false, apart := false }
def SimClockSaid : Prop := simClockRow.holds Try.pinned (OpenSpec.ofChange simClockSpec)

/-- ITS FALSE NEIGHBOUR: 'it returns false'. Refute it at one input. -/
def simClockWrong : ChangeSpec := { name := "simClock", fn := fun _ => fun
  | [d1, d2, d3, d4] => { results := [.lit (.bool false)], args := [d1, d2, d3, d4] }
  | _ => none }
def SimClockWrongFalsely : Prop := simClockRow.holds Try.pinned (OpenSpec.ofChange simClockWrong)

/-- 'diceboxlaw07.SureOwn': WHATEVER THE INPUT: true; the input reads as it did. -/
def sureOwnSpec : ChangeSpec := { name := "sureOwn", fn := fun _ => fun
  | [d1, d2, d3, d4, d5] => { results := [.lit (.bool true)], args := [d1, d2, d3, d4, d5] }
  | _ => none }
def sureOwnRow : OpenClaim := { program := "ytcblgjaomljikaa", sum := "5a32fb2f6993d4898569b85ef641e29c3749af1ec0e992601e7903da10b7041a", func := "dicebox/diceboxlaw07.SureOwn", spec := "sureOwn", unfollowed := true, recurses := true, named := ["math/bits.overflowError"], plainKeys := false, apart := false }
def SureOwnSaid : Prop := sureOwnRow.holds Try.pinned (OpenSpec.ofChange sureOwnSpec)

/-- ITS FALSE NEIGHBOUR: 'it returns false'. Refute it at one input. -/
def sureOwnWrong : ChangeSpec := { name := "sureOwn", fn := fun _ => fun
  | [d1, d2, d3, d4, d5] => { results := [.lit (.bool false)], args := [d1, d2, d3, d4, d5] }
  | _ => none }
def SureOwnWrongFalsely : Prop := sureOwnRow.holds Try.pinned (OpenSpec.ofChange sureOwnWrong)

/-- 'diceboxlaw02.MatrixOwn': WHATEVER THE INPUT: true; the input reads as it did. -/
def matrixOwnSpec : ChangeSpec := { name := "matrixOwn", fn := fun _ => fun
  | [d1, d2, d3] => { results := [.lit (.bool true)], args := [d1, d2, d3] }
  | _ => none }
def matrixOwnRow : OpenClaim := { program := "ytcblgjaomljikaa", sum := "5a32fb2f6993d4898569b85ef641e29c3749af1ec0e992601e7903da10b7041a", func := "dicebox/diceboxlaw02.MatrixOwn", spec := "matrixOwn", unfollowed := true, recurses := true, named := ["math/bits.overflowError"], plainKeys := false, apart := false }
def MatrixOwnSaid : Prop := matrixOwnRow.holds Try.pinned (OpenSpec.ofChange matrixOwnSpec)

/-- ITS FALSE NEIGHBOUR: 'it returns false'. Refute it at one input. -/
def matrixOwnWrong : ChangeSpec := { name := "matrixOwn", fn := fun _ => fun
  | [d1, d2, d3] => { results := [.lit (.bool false)], args := [d1, d2, d3] }
  | _ => none }
def MatrixOwnWrongFalsely : Prop := matrixOwnRow.holds Try.pinned (OpenSpec.ofChange matrixOwnWrong)

/-- 'diceboxlaw19.SimOwn': WHATEVER THE INPUT: true; the input reads as it did. -/
def simOwnSpec : ChangeSpec := { name := "simOwn", fn := fun _ => fun
  | [d1, d2, d3, d4, d5, d6] => { results := [.lit (.bool true)], args := [d1, d2, d3, d4, d5, d6] }
  | _ => none }
def simOwnRow : OpenClaim := { program := "ytcblgjaomljikaa", sum := "5a32fb2f6993d4898569b85ef641e29c3749af1ec0e992601e7903da10b7041a", func := "dicebox/diceboxlaw19.SimOwn", spec := "simOwn", unfollowed := true, recurses := true, named := ["math/bits.overflowError"], plainKeys := false, apart := false }
def SimOwnSaid : Prop := simOwnRow.holds Try.pinned (OpenSpec.ofChange simOwnSpec)

/-- ITS FALSE NEIGHBOUR: 'it returns false'. Refute it at one input. -/
def simOwnWrong : ChangeSpec := { name := "simOwn", fn := fun _ => fun
  | [d1, d2, d3, d4, d5, d6] => { results := [.lit (.bool false)], args := [d1, d2, d3, d4, d5, d6] }
  | _ => none }
def SimOwnWrongFalsely : Prop := simOwnRow.holds Try.pinned (OpenSpec.ofChange simOwnWrong)

/-- 'diceboxlaw11.DiscountOwn': WHATEVER THE INPUT: true; the input reads as it did. -/
def discountOwnSpec : ChangeSpec := { name := "discountOwn", fn := fun _ => fun
  | [d1, d2, d3, d4] => { results := [.lit (.bool true)], args := [d1, d2, d3, d4] }
  | _ => none }
def discountOwnRow : OpenClaim := { program := "ytcblgjaomljikaa", sum := "5a32fb2f6993d4898569b85ef641e29c3749af1ec0e992601e7903da10b7041a", func := "dicebox/diceboxlaw11.DiscountOwn", spec := "discountOwn", unfollowed := true, recurses := true, named := ["math/bits.overflowError"], plainKeys := false, apart := false }
def DiscountOwnSaid : Prop := discountOwnRow.holds Try.pinned (OpenSpec.ofChange discountOwnSpec)

/-- ITS FALSE NEIGHBOUR: 'it returns false'. Refute it at one input. -/
def discountOwnWrong : ChangeSpec := { name := "discountOwn", fn := fun _ => fun
  | [d1, d2, d3, d4] => { results := [.lit (.bool false)], args := [d1, d2, d3, d4] }
  | _ => none }
def DiscountOwnWrongFalsely : Prop := discountOwnRow.holds Try.pinned (OpenSpec.ofChange discountOwnWrong)

/- THE SECOND FORM. 'bulk': how many values and letters a reading holds, each counted each time it is reached (what is shared counts as often as it is met; a slice's spare places count too). A statement '..UptoSaid' is the law's where the arguments, and the package variables that the reading takes, are together of bulk at most 1048576: NARROWER than '..Said'. Prove '..Said' where nothing that the law and all that it calls make is longer than what came in: it says more and counts as full. Else prove '..UptoSaid'. A law counts once. -/
mutual
def uptoBulk {H : Type} : DataW H → Nat
  | .lit (.string bytes) => bytes.length + 1
  | .lit _ => 1
  | .nil => 1
  | .ptr d => uptoBulk d + 1
  | .slice elems spare => uptoBulkAll elems + uptoBulkAll spare + 1
  | .agg parts => uptoBulkAll parts + 1
  | .iface _ d => uptoBulk d + 1
  | .map entries => uptoBulkEntries entries + 1
  | .held _ => 1
def uptoBulkAll {H : Type} : List (DataW H) → Nat
  | [] => 0
  | d :: r => uptoBulk d + uptoBulkAll r
def uptoBulkEntries {H : Type} : List (Lit × DataW H) → Nat
  | [] => 0
  | x :: r => uptoBulkEntry x + uptoBulkEntries r
def uptoBulkEntry {H : Type} : Lit × DataW H → Nat
  | (.string bytes, d) => bytes.length + uptoBulk d + 1
  | (_, d) => uptoBulk d + 1
 end
def uptoSmall : (H : Type) → List (DataW H) → Bool := fun _ ds => decide (uptoBulkAll ds ≤ 1048576)
def OpenSpec.upto (s : _root_.Go.ChangeSpec) : _root_.Go.OpenSpec := { _root_.Go.OpenSpec.ofChange s with cond := some uptoSmall }

/-- 'diceboxlaw19.SimClock', WHERE WHAT IT READS IS OF BULK AT MOST 1048576: true; the input reads as it did. -/
def simClockUptoRow : OpenClaim := { program := "ytcblgjaomljikaa", sum := "5a32fb2f6993d4898569b85ef641e29c3749af1ec0e992601e7903da10b7041a", func := "dicebox/diceboxlaw19.SimClock", spec := "simClock", unfollowed := true, recurses := true, named := ["math/bits.overflowError"], plainKeys := false, apart := false, narrowed := true }
def SimClockUptoSaid : Prop := simClockUptoRow.holds Try.pinned (OpenSpec.upto simClockSpec)

/-- 'diceboxlaw07.SureOwn', WHERE WHAT IT READS IS OF BULK AT MOST 1048576: true; the input reads as it did. -/
def sureOwnUptoRow : OpenClaim := { program := "ytcblgjaomljikaa", sum := "5a32fb2f6993d4898569b85ef641e29c3749af1ec0e992601e7903da10b7041a", func := "dicebox/diceboxlaw07.SureOwn", spec := "sureOwn", unfollowed := true, recurses := true, named := ["math/bits.overflowError"], plainKeys := false, apart := false, narrowed := true }
def SureOwnUptoSaid : Prop := sureOwnUptoRow.holds Try.pinned (OpenSpec.upto sureOwnSpec)

/-- 'diceboxlaw02.MatrixOwn', WHERE WHAT IT READS IS OF BULK AT MOST 1048576: true; the input reads as it did. -/
def matrixOwnUptoRow : OpenClaim := { program := "ytcblgjaomljikaa", sum := "5a32fb2f6993d4898569b85ef641e29c3749af1ec0e992601e7903da10b7041a", func := "dicebox/diceboxlaw02.MatrixOwn", spec := "matrixOwn", unfollowed := true, recurses := true, named := ["math/bits.overflowError"], plainKeys := false, apart := false, narrowed := true }
def MatrixOwnUptoSaid : Prop := matrixOwnUptoRow.holds Try.pinned (OpenSpec.upto matrixOwnSpec)

/-- 'diceboxlaw19.SimOwn', WHERE WHAT IT READS IS OF BULK AT MOST 1048576: true; the input reads as it did. -/
def simOwnUptoRow : OpenClaim := { program := "ytcblgjaomljikaa", sum := "5a32fb2f6993d4898569b85ef641e29c3749af1ec0e992601e7903da10b7041a", func := "dicebox/diceboxlaw19.SimOwn", spec := "simOwn", unfollowed := true, recurses := true, named := ["math/bits.overflowError"], plainKeys := false, apart := false, narrowed := true }
def SimOwnUptoSaid : Prop := simOwnUptoRow.holds Try.pinned (OpenSpec.upto simOwnSpec)

/-- 'diceboxlaw11.DiscountOwn', WHERE WHAT IT READS IS OF BULK AT MOST 1048576: true; the input reads as it did. -/
def discountOwnUptoRow : OpenClaim := { program := "ytcblgjaomljikaa", sum := "5a32fb2f6993d4898569b85ef641e29c3749af1ec0e992601e7903da10b7041a", func := "dicebox/diceboxlaw11.DiscountOwn", spec := "discountOwn", unfollowed := true, recurses := true, named := ["math/bits.overflowError"], plainKeys := false, apart := false, narrowed := true }
def DiscountOwnUptoSaid : Prop := discountOwnUptoRow.holds Try.pinned (OpenSpec.upto discountOwnSpec)

end Rows
end Go.Proofs.Ytcblgjaomljikaa
