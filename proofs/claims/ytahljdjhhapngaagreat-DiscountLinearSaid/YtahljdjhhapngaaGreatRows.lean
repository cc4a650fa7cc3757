/-
  No cell of these rows narrows 'for every input' (looked for: loops, veiled, ifaces, maps, wideKeys, modest, calm, conditions, laid).
  DERIVED. THE GIVEN ROWS OF THIS SEAT. 7 by the template 'for every input the law returns true; each argument reads behind the call as it read before'; 0 by the template 'total and deterministic' (their statements: YtahljdjhhapngaaGreatTotals.lean).
  GIVEN WITH THE SEED: the statements are not yours to turn. If you find one false, say at which input.
  Laid BY PROGRAM, IN A SANDBOX (cutbox-rows.mjs): the forced cells as the released guide's own fill.sh prints them over the translation 3ad5ce5a4fac9859… (all of the seat's roots in one cut). By AI agents, Wed Nov 11 2026. No macro, syntax, notation, axiom, sorry.
-/
import Derived.Test.YtahljdjhhapngaaGreatChecked
import GoSem.Claim
import GoSem.ClaimJoined
import GoSem.ClaimMapViews
import Derived.JoinedTies
import Derived.KernelRfl
namespace Go.Proofs.YtahljdjhhapngaaGreat
/- THE CELL 'sum', in the pinned program and in every row, IS THE sha256 OF THE DUMP (.gsa) THAT YtahljdjhhapngaaGreatProg.lean LOADS. Nothing in Lean hashes anything: it is a label: what it is worth is what the hold of that sum in a sandbox is worth. -/
noncomputable def Tryz.pinned : Pinned := { name := "ytahljdjhhapngaagreat", sum := "3ad5ce5a4fac98599be5f1bec3f6e6efb7d0ea50e8663054fd4e417f9d3e4e0a", checked := Tryz.checked }
namespace Rows
def none {H : Type} : Left H := { results := [], args := [] }

/-- 'diceboxlaw11.DiscountBest': WHATEVER THE INPUT: true; the input reads as it did. -/
def discountBestSpec : ChangeSpec := { name := "discountBest", fn := fun _ => fun
  | [d1, d2] => { results := [.lit (.bool true)], args := [d1, d2] }
  | _ => none }
def discountBestRow : OpenClaim := { program := "ytahljdjhhapngaagreat", sum := "3ad5ce5a4fac98599be5f1bec3f6e6efb7d0ea50e8663054fd4e417f9d3e4e0a", func := "dicebox/diceboxlaw11.DiscountBest", spec := "discountBest", unfollowed := true, recurses := true, named := ["math/bits.overflowError"], apart := false }
def DiscountBestSaid : Prop := discountBestRow.holds Tryz.pinned (OpenSpec.ofChange discountBestSpec)

/-- ITS FALSE NEIGHBOUR: 'it returns false'. Refute it at one input. -/
def discountBestWrong : ChangeSpec := { name := "discountBest", fn := fun _ => fun
  | [d1, d2] => { results := [.lit (.bool false)], args := [d1, d2] }
  | _ => none }
def DiscountBestWrongFalsely : Prop := discountBestRow.holds Tryz.pinned (OpenSpec.ofChange discountBestWrong)

/-- 'diceboxlaw11.DiscountLinear': WHATEVER THE INPUT: true; the input reads as it did. -/
def discountLinearSpec : ChangeSpec := { name := "discountLinear", fn := fun _ => fun
  | [d1, d2, d3, d4] => { results := [.lit (.bool true)], args := [d1, d2, d3, d4] }
  | _ => none }
def discountLinearRow : OpenClaim := { program := "ytahljdjhhapngaagreat", sum := "3ad5ce5a4fac98599be5f1bec3f6e6efb7d0ea50e8663054fd4e417f9d3e4e0a", func := "dicebox/diceboxlaw11.DiscountLinear", spec := "discountLinear", unfollowed := true, recurses := true, named := ["math/bits.overflowError"], apart := false }
def DiscountLinearSaid : Prop := discountLinearRow.holds Tryz.pinned (OpenSpec.ofChange discountLinearSpec)

/-- ITS FALSE NEIGHBOUR: 'it returns false'. Refute it at one input. -/
def discountLinearWrong : ChangeSpec := { name := "discountLinear", fn := fun _ => fun
  | [d1, d2, d3, d4] => { results := [.lit (.bool false)], args := [d1, d2, d3, d4] }
  | _ => none }
def DiscountLinearWrongFalsely : Prop := discountLinearRow.holds Tryz.pinned (OpenSpec.ofChange discountLinearWrong)

/-- 'diceboxlaw11.DiscountOf': WHATEVER THE INPUT: true; the input reads as it did. -/
def discountOfSpec : ChangeSpec := { name := "discountOf", fn := fun _ => fun
  | [d1, d2, d3, d4] => { results := [.lit (.bool true)], args := [d1, d2, d3, d4] }
  | _ => none }
def discountOfRow : OpenClaim := { program := "ytahljdjhhapngaagreat", sum := "3ad5ce5a4fac98599be5f1bec3f6e6efb7d0ea50e8663054fd4e417f9d3e4e0a", func := "dicebox/diceboxlaw11.DiscountOf", spec := "discountOf", unfollowed := true, recurses := true, named := ["math/bits.overflowError"], apart := false }
def DiscountOfSaid : Prop := discountOfRow.holds Tryz.pinned (OpenSpec.ofChange discountOfSpec)

/-- ITS FALSE NEIGHBOUR: 'it returns false'. Refute it at one input. -/
def discountOfWrong : ChangeSpec := { name := "discountOf", fn := fun _ => fun
  | [d1, d2, d3, d4] => { results := [.lit (.bool false)], args := [d1, d2, d3, d4] }
  | _ => none }
def DiscountOfWrongFalsely : Prop := discountOfRow.holds Tryz.pinned (OpenSpec.ofChange discountOfWrong)

/-- 'diceboxlaw11.DiscountWide': WHATEVER THE INPUT: true; the input reads as it did. -/
def discountWideSpec : ChangeSpec := { name := "discountWide", fn := fun _ => fun
  | [d1, d2] => { results := [.lit (.bool true)], args := [d1, d2] }
  | _ => none }
def discountWideRow : OpenClaim := { program := "ytahljdjhhapngaagreat", sum := "3ad5ce5a4fac98599be5f1bec3f6e6efb7d0ea50e8663054fd4e417f9d3e4e0a", func := "dicebox/diceboxlaw11.DiscountWide", spec := "discountWide", unfollowed := true, recurses := true, named := ["math/bits.overflowError"], apart := false }
def DiscountWideSaid : Prop := discountWideRow.holds Tryz.pinned (OpenSpec.ofChange discountWideSpec)

/-- ITS FALSE NEIGHBOUR: 'it returns false'. Refute it at one input. -/
def discountWideWrong : ChangeSpec := { name := "discountWide", fn := fun _ => fun
  | [d1, d2] => { results := [.lit (.bool false)], args := [d1, d2] }
  | _ => none }
def DiscountWideWrongFalsely : Prop := discountWideRow.holds Tryz.pinned (OpenSpec.ofChange discountWideWrong)

/-- 'diceboxlaw11.DiscountYields': WHATEVER THE INPUT: true; the input reads as it did. -/
def discountYieldsSpec : ChangeSpec := { name := "discountYields", fn := fun _ => fun
  | [d1, d2, d3] => { results := [.lit (.bool true)], args := [d1, d2, d3] }
  | _ => none }
def discountYieldsRow : OpenClaim := { program := "ytahljdjhhapngaagreat", sum := "3ad5ce5a4fac98599be5f1bec3f6e6efb7d0ea50e8663054fd4e417f9d3e4e0a", func := "dicebox/diceboxlaw11.DiscountYields", spec := "discountYields", unfollowed := true, recurses := true, named := ["math/bits.overflowError"], apart := false }
def DiscountYieldsSaid : Prop := discountYieldsRow.holds Tryz.pinned (OpenSpec.ofChange discountYieldsSpec)

/-- ITS FALSE NEIGHBOUR: 'it returns false'. Refute it at one input. -/
def discountYieldsWrong : ChangeSpec := { name := "discountYields", fn := fun _ => fun
  | [d1, d2, d3] => { results := [.lit (.bool false)], args := [d1, d2, d3] }
  | _ => none }
def DiscountYieldsWrongFalsely : Prop := discountYieldsRow.holds Tryz.pinned (OpenSpec.ofChange discountYieldsWrong)

/-- 'diceboxlaw11.DiscountRing': WHATEVER THE INPUT: true; the input reads as it did. -/
def discountRingSpec : ChangeSpec := { name := "discountRing", fn := fun _ => fun
  | [d1, d2, d3, d4] => { results := [.lit (.bool true)], args := [d1, d2, d3, d4] }
  | _ => none }
def discountRingRow : OpenClaim := { program := "ytahljdjhhapngaagreat", sum := "3ad5ce5a4fac98599be5f1bec3f6e6efb7d0ea50e8663054fd4e417f9d3e4e0a", func := "dicebox/diceboxlaw11.DiscountRing", spec := "discountRing", unfollowed := true, recurses := true, named := ["math/bits.overflowError"], apart := false }
def DiscountRingSaid : Prop := discountRingRow.holds Tryz.pinned (OpenSpec.ofChange discountRingSpec)

/-- ITS FALSE NEIGHBOUR: 'it returns false'. Refute it at one input. -/
def discountRingWrong : ChangeSpec := { name := "discountRing", fn := fun _ => fun
  | [d1, d2, d3, d4] => { results := [.lit (.bool false)], args := [d1, d2, d3, d4] }
  | _ => none }
def DiscountRingWrongFalsely : Prop := discountRingRow.holds Tryz.pinned (OpenSpec.ofChange discountRingWrong)

/-- 'diceboxlaw11.DiscountLaws': WHATEVER THE INPUT: true; the input reads as it did. -/
def discountLawsSpec : ChangeSpec := { name := "discountLaws", fn := fun _ => fun
  | [d1, d2, d3, d4] => { results := [.lit (.bool true)], args := [d1, d2, d3, d4] }
  | _ => none }
def discountLawsRow : OpenClaim := { program := "ytahljdjhhapngaagreat", sum := "3ad5ce5a4fac98599be5f1bec3f6e6efb7d0ea50e8663054fd4e417f9d3e4e0a", func := "dicebox/diceboxlaw11.DiscountLaws", spec := "discountLaws", unfollowed := true, recurses := true, named := ["math/bits.overflowError"], apart := false }
def DiscountLawsSaid : Prop := discountLawsRow.holds Tryz.pinned (OpenSpec.ofChange discountLawsSpec)

/-- ITS FALSE NEIGHBOUR: 'it returns false'. Refute it at one input. -/
def discountLawsWrong : ChangeSpec := { name := "discountLaws", fn := fun _ => fun
  | [d1, d2, d3, d4] => { results := [.lit (.bool false)], args := [d1, d2, d3, d4] }
  | _ => none }
def DiscountLawsWrongFalsely : Prop := discountLawsRow.holds Tryz.pinned (OpenSpec.ofChange discountLawsWrong)

/- THE SECOND FORM. 'bulk': how many values and letters a reading holds, each counted each time it is reached (what is shared counts as often as it is met; a slice's spare places count too). A statement '..UptoSaid' is the law's where the arguments, and the package variables that the reading takes, are together of bulk at most 1048576: NARROWER than '..Said'. Prove '..Said' where nothing that the law and all that it calls make is longer than what came in: it says more and counts as full. Else prove '..UptoSaid'. A law counts once. -/
mutual
def uptoBulk {H : Type} : DataW H → Nat
  | .lit (.string bytes) => bytes.length + 1
  | .lit _ => 1
  | .nil => 1
  | .ptr d => uptoBulk d + 1
  | .slice elems spare => uptoBulkAll elems + uptoBulkAll spare + 1
  | .agg parts => uptoBulkAll parts + 1
  | .iface _ d => uptoBulk d + 1
  | .map entries => uptoBulkEntries entries + 1
  | .held _ => 1
def uptoBulkAll {H : Type} : List (DataW H) → Nat
  | [] => 0
  | d :: r => uptoBulk d + uptoBulkAll r
def uptoBulkEntries {H : Type} : List (Lit × DataW H) → Nat
  | [] => 0
  | x :: r => uptoBulkEntry x + uptoBulkEntries r
def uptoBulkEntry {H : Type} : Lit × DataW H → Nat
  | (.string bytes, d) => bytes.length + uptoBulk d + 1
  | (_, d) => uptoBulk d + 1
 end
def uptoSmall : (H : Type) → List (DataW H) → Bool := fun _ ds => decide (uptoBulkAll ds ≤ 1048576)
def OpenSpec.upto (s : _root_.Go.ChangeSpec) : _root_.Go.OpenSpec := { _root_.Go.OpenSpec.ofChange s with cond := some uptoSmall }

/-- 'diceboxlaw11.DiscountBest', WHERE WHAT IT READS IS OF BULK AT MOST 1048576: true; the input reads as it did. -/
def discountBestUptoRow : OpenClaim := { program := "ytahljdjhhapngaagreat", sum := "3ad5ce5a4fac98599be5f1bec3f6e6efb7d0ea50e8663054fd4e417f9d3e4e0a", func := "dicebox/diceboxlaw11.DiscountBest", spec := "discountBest", unfollowed := true, recurses := true, named := ["math/bits.overflowError"], apart := false, narrowed := true }
def DiscountBestUptoSaid : Prop := discountBestUptoRow.holds Tryz.pinned (OpenSpec.upto discountBestSpec)

/-- 'diceboxlaw11.DiscountLinear', WHERE WHAT IT READS IS OF BULK AT MOST 1048576: true; the input reads as it did. -/
def discountLinearUptoRow : OpenClaim := { program := "ytahljdjhhapngaagreat", sum := "3ad5ce5a4fac98599be5f1bec3f6e6efb7d0ea50e8663054fd4e417f9d3e4e0a", func := "dicebox/diceboxlaw11.DiscountLinear", spec := "discountLinear", unfollowed := true, recurses := true, named := ["math/bits.overflowError"], apart := false, narrowed := true }
def DiscountLinearUptoSaid : Prop := discountLinearUptoRow.holds Tryz.pinned (OpenSpec.upto discountLinearSpec)

/-- 'diceboxlaw11.DiscountOf', WHERE WHAT IT READS IS OF BULK AT MOST 1048576: true; the input reads as it did. -/
def discountOfUptoRow : OpenClaim := { program := "ytahljdjhhapngaagreat", sum := "3ad5ce5a4fac98599be5f1bec3f6e6efb7d0ea50e8663054fd4e417f9d3e4e0a", func := "dicebox/diceboxlaw11.DiscountOf", spec := "discountOf", unfollowed := true, recurses := true, named := ["math/bits.overflowError"], apart := false, narrowed := true }
def DiscountOfUptoSaid : Prop := discountOfUptoRow.holds Tryz.pinned (OpenSpec.upto discountOfSpec)

/-- 'diceboxlaw11.DiscountWide', WHERE WHAT IT READS IS OF BULK AT MOST 1048576: true; the input reads as it did. -/
def discountWideUptoRow : OpenClaim := { program := "ytahljdjhhapngaagreat", sum := "3ad5ce5a4fac98599be5f1bec3f6e6efb7d0ea50e8663054fd4e417f9d3e4e0a", func := "dicebox/diceboxlaw11.DiscountWide", spec := "discountWide", unfollowed := true, recurses := true, named := ["math/bits.overflowError"], apart := false, narrowed := true }
def DiscountWideUptoSaid : Prop := discountWideUptoRow.holds Tryz.pinned (OpenSpec.upto discountWideSpec)

/-- 'diceboxlaw11.DiscountYields', WHERE WHAT IT READS IS OF BULK AT MOST 1048576: true; the input reads as it did. -/
def discountYieldsUptoRow : OpenClaim := { program := "ytahljdjhhapngaagreat", sum := "3ad5ce5a4fac98599be5f1bec3f6e6efb7d0ea50e8663054fd4e417f9d3e4e0a", func := "dicebox/diceboxlaw11.DiscountYields", spec := "discountYields", unfollowed := true, recurses := true, named := ["math/bits.overflowError"], apart := false, narrowed := true }
def DiscountYieldsUptoSaid : Prop := discountYieldsUptoRow.holds Tryz.pinned (OpenSpec.upto discountYieldsSpec)

/-- 'diceboxlaw11.DiscountRing', WHERE WHAT IT READS IS OF BULK AT MOST 1048576: true; the input reads as it did. -/
def discountRingUptoRow : OpenClaim := { program := "ytahljdjhhapngaagreat", sum := "3ad5ce5a4fac98599be5f1bec3f6e6efb7d0ea50e8663054fd4e417f9d3e4e0a", func := "dicebox/diceboxlaw11.DiscountRing", spec := "discountRing", unfollowed := true, recurses := true, named := ["math/bits.overflowError"], apart := false, narrowed := true }
def DiscountRingUptoSaid : Prop := discountRingUptoRow.holds Tryz.pinned (OpenSpec.upto discountRingSpec)

/-- 'diceboxlaw11.DiscountLaws', WHERE WHAT IT READS IS OF BULK AT MOST 1048576: true; the input reads as it did. -/
def discountLawsUptoRow : OpenClaim := { program := "ytahljdjhhapngaagreat", sum := "3ad5ce5a4fac98599be5f1bec3f6e6efb7d0ea50e8663054fd4e417f9d3e4e0a", func := "dicebox/diceboxlaw11.DiscountLaws", spec := "discountLaws", unfollowed := true, recurses := true, named := ["math/bits.overflowError"], apart := false, narrowed := true }
def DiscountLawsUptoSaid : Prop := discountLawsUptoRow.holds Tryz.pinned (OpenSpec.upto discountLawsSpec)

end Rows
end Go.Proofs.YtahljdjhhapngaaGreat
