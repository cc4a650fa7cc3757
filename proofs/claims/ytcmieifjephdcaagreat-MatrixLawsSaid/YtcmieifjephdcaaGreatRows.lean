/-
  No cell of these rows narrows 'for every input' (looked for: loops, veiled, ifaces, maps, wideKeys, modest, calm, conditions, laid).
  DERIVED. THE GIVEN ROWS OF THIS SEAT. 6 by the template 'for every input the law returns true; each argument reads behind the call as it read before'; 0 by the template 'total and deterministic' (their statements: YtcmieifjephdcaaGreatTotals.lean).
  GIVEN WITH THE SEED: the statements are not yours to turn. If you find one false, say at which input.
  Laid BY PROGRAM, IN A SANDBOX (cutbox-rows.mjs): the forced cells as the released guide's own fill.sh prints them over the translation 9b8cea649b1498c4… (all of the seat's roots in one cut). By AI agents, Wed Nov 11 2026. No macro, syntax, notation, axiom, sorry.
-/
import Derived.Test.YtcmieifjephdcaaGreatChecked
import GoSem.Claim
import GoSem.ClaimJoined
import GoSem.ClaimMapViews
import Derived.JoinedTies
import Derived.KernelRfl
namespace Go.Proofs.YtcmieifjephdcaaGreat
/- THE CELL 'sum', in the pinned program and in every row, IS THE sha256 OF THE DUMP (.gsa) THAT YtcmieifjephdcaaGreatProg.lean LOADS. Nothing in Lean hashes anything: it is a label: what it is worth is what the hold of that sum in a sandbox is worth. -/
noncomputable def Tryz.pinned : Pinned := { name := "ytcmieifjephdcaagreat", sum := "9b8cea649b1498c42862973b292252a8dd571ff3abcf8482f9e5e386ec9fac59", checked := Tryz.checked }
namespace Rows
def none {H : Type} : Left H := { results := [], args := [] }

/-- 'diceboxlaw02.MatrixSolves': WHATEVER THE INPUT: true; the input reads as it did. -/
def matrixSolvesSpec : ChangeSpec := { name := "matrixSolves", fn := fun _ => fun
  | [d1, d2] => { results := [.lit (.bool true)], args := [d1, d2] }
  | _ => none }
def matrixSolvesRow : OpenClaim := { program := "ytcmieifjephdcaagreat", sum := "9b8cea649b1498c42862973b292252a8dd571ff3abcf8482f9e5e386ec9fac59", func := "dicebox/diceboxlaw02.MatrixSolves", spec := "matrixSolves", unfollowed := true, recurses := true, named := ["math/bits.overflowError"], apart := false }
def MatrixSolvesSaid : Prop := matrixSolvesRow.holds Tryz.pinned (OpenSpec.ofChange matrixSolvesSpec)

/-- ITS FALSE NEIGHBOUR: 'it returns false'. Refute it at one input. -/
def matrixSolvesWrong : ChangeSpec := { name := "matrixSolves", fn := fun _ => fun
  | [d1, d2] => { results := [.lit (.bool false)], args := [d1, d2] }
  | _ => none }
def MatrixSolvesWrongFalsely : Prop := matrixSolvesRow.holds Tryz.pinned (OpenSpec.ofChange matrixSolvesWrong)

/-- 'diceboxlaw02.MatrixReduces': WHATEVER THE INPUT: true; the input reads as it did. -/
def matrixReducesSpec : ChangeSpec := { name := "matrixReduces", fn := fun _ => fun
  | [d] => { results := [.lit (.bool true)], args := [d] }
  | _ => none }
def matrixReducesRow : OpenClaim := { program := "ytcmieifjephdcaagreat", sum := "9b8cea649b1498c42862973b292252a8dd571ff3abcf8482f9e5e386ec9fac59", func := "dicebox/diceboxlaw02.MatrixReduces", spec := "matrixReduces", unfollowed := true, recurses := true, named := ["math/bits.overflowError"], apart := false }
def MatrixReducesSaid : Prop := matrixReducesRow.holds Tryz.pinned (OpenSpec.ofChange matrixReducesSpec)

/-- ITS FALSE NEIGHBOUR: 'it returns false'. Refute it at one input. -/
def matrixReducesWrong : ChangeSpec := { name := "matrixReduces", fn := fun _ => fun
  | [d] => { results := [.lit (.bool false)], args := [d] }
  | _ => none }
def MatrixReducesWrongFalsely : Prop := matrixReducesRow.holds Tryz.pinned (OpenSpec.ofChange matrixReducesWrong)

/-- 'diceboxlaw02.MatrixInverts': WHATEVER THE INPUT: true; the input reads as it did. -/
def matrixInvertsSpec : ChangeSpec := { name := "matrixInverts", fn := fun _ => fun
  | [d] => { results := [.lit (.bool true)], args := [d] }
  | _ => none }
def matrixInvertsRow : OpenClaim := { program := "ytcmieifjephdcaagreat", sum := "9b8cea649b1498c42862973b292252a8dd571ff3abcf8482f9e5e386ec9fac59", func := "dicebox/diceboxlaw02.MatrixInverts", spec := "matrixInverts", unfollowed := true, recurses := true, named := ["math/bits.overflowError"], apart := false }
def MatrixInvertsSaid : Prop := matrixInvertsRow.holds Tryz.pinned (OpenSpec.ofChange matrixInvertsSpec)

/-- ITS FALSE NEIGHBOUR: 'it returns false'. Refute it at one input. -/
def matrixInvertsWrong : ChangeSpec := { name := "matrixInverts", fn := fun _ => fun
  | [d] => { results := [.lit (.bool false)], args := [d] }
  | _ => none }
def MatrixInvertsWrongFalsely : Prop := matrixInvertsRow.holds Tryz.pinned (OpenSpec.ofChange matrixInvertsWrong)

/-- 'diceboxlaw02.MatrixProducts': WHATEVER THE INPUT: true; the input reads as it did. -/
def matrixProductsSpec : ChangeSpec := { name := "matrixProducts", fn := fun _ => fun
  | [d1, d2, d3] => { results := [.lit (.bool true)], args := [d1, d2, d3] }
  | _ => none }
def matrixProductsRow : OpenClaim := { program := "ytcmieifjephdcaagreat", sum := "9b8cea649b1498c42862973b292252a8dd571ff3abcf8482f9e5e386ec9fac59", func := "dicebox/diceboxlaw02.MatrixProducts", spec := "matrixProducts", unfollowed := true, recurses := true, named := ["math/bits.overflowError"], apart := false }
def MatrixProductsSaid : Prop := matrixProductsRow.holds Tryz.pinned (OpenSpec.ofChange matrixProductsSpec)

/-- ITS FALSE NEIGHBOUR: 'it returns false'. Refute it at one input. -/
def matrixProductsWrong : ChangeSpec := { name := "matrixProducts", fn := fun _ => fun
  | [d1, d2, d3] => { results := [.lit (.bool false)], args := [d1, d2, d3] }
  | _ => none }
def MatrixProductsWrongFalsely : Prop := matrixProductsRow.holds Tryz.pinned (OpenSpec.ofChange matrixProductsWrong)

/-- 'diceboxlaw02.MatrixPowers': WHATEVER THE INPUT: true; the input reads as it did. -/
def matrixPowersSpec : ChangeSpec := { name := "matrixPowers", fn := fun _ => fun
  | [d1, d2] => { results := [.lit (.bool true)], args := [d1, d2] }
  | _ => none }
def matrixPowersRow : OpenClaim := { program := "ytcmieifjephdcaagreat", sum := "9b8cea649b1498c42862973b292252a8dd571ff3abcf8482f9e5e386ec9fac59", func := "dicebox/diceboxlaw02.MatrixPowers", spec := "matrixPowers", unfollowed := true, recurses := true, named := ["math/bits.overflowError"], apart := false }
def MatrixPowersSaid : Prop := matrixPowersRow.holds Tryz.pinned (OpenSpec.ofChange matrixPowersSpec)

/-- ITS FALSE NEIGHBOUR: 'it returns false'. Refute it at one input. -/
def matrixPowersWrong : ChangeSpec := { name := "matrixPowers", fn := fun _ => fun
  | [d1, d2] => { results := [.lit (.bool false)], args := [d1, d2] }
  | _ => none }
def MatrixPowersWrongFalsely : Prop := matrixPowersRow.holds Tryz.pinned (OpenSpec.ofChange matrixPowersWrong)

/-- 'diceboxlaw02.MatrixLaws': WHATEVER THE INPUT: true; the input reads as it did. -/
def matrixLawsSpec : ChangeSpec := { name := "matrixLaws", fn := fun _ => fun
  | [d1, d2, d3, d4] => { results := [.lit (.bool true)], args := [d1, d2, d3, d4] }
  | _ => none }
def matrixLawsRow : OpenClaim := { program := "ytcmieifjephdcaagreat", sum := "9b8cea649b1498c42862973b292252a8dd571ff3abcf8482f9e5e386ec9fac59", func := "dicebox/diceboxlaw02.MatrixLaws", spec := "matrixLaws", unfollowed := true, recurses := true, named := ["math/bits.overflowError"], apart := false }
def MatrixLawsSaid : Prop := matrixLawsRow.holds Tryz.pinned (OpenSpec.ofChange matrixLawsSpec)

/-- ITS FALSE NEIGHBOUR: 'it returns false'. Refute it at one input. -/
def matrixLawsWrong : ChangeSpec := { name := "matrixLaws", fn := fun _ => fun
  | [d1, d2, d3, d4] => { results := [.lit (.bool false)], args := [d1, d2, d3, d4] }
  | _ => none }
def MatrixLawsWrongFalsely : Prop := matrixLawsRow.holds Tryz.pinned (OpenSpec.ofChange matrixLawsWrong)

/- THE SECOND FORM. 'bulk': how many values and letters a reading holds, each counted each time it is reached (what is shared counts as often as it is met; a slice's spare places count too). A statement '..UptoSaid' is the law's where the arguments, and the package variables that the reading takes, are together of bulk at most 1048576: NARROWER than '..Said'. Prove '..Said' where nothing that the law and all that it calls make is longer than what came in: it says more and counts as full. Else prove '..UptoSaid'. A law counts once. -/
mutual
def uptoBulk {H : Type} : DataW H → Nat
  | .lit (.string bytes) => bytes.length + 1
  | .lit _ => 1
  | .nil => 1
  | .ptr d => uptoBulk d + 1
  | .slice elems spare => uptoBulkAll elems + uptoBulkAll spare + 1
  | .agg parts => uptoBulkAll parts + 1
  | .iface _ d => uptoBulk d + 1
  | .map entries => uptoBulkEntries entries + 1
  | .held _ => 1
def uptoBulkAll {H : Type} : List (DataW H) → Nat
  | [] => 0
  | d :: r => uptoBulk d + uptoBulkAll r
def uptoBulkEntries {H : Type} : List (Lit × DataW H) → Nat
  | [] => 0
  | x :: r => uptoBulkEntry x + uptoBulkEntries r
def uptoBulkEntry {H : Type} : Lit × DataW H → Nat
  | (.string bytes, d) => bytes.length + uptoBulk d + 1
  | (_, d) => uptoBulk d + 1
 end
def uptoSmall : (H : Type) → List (DataW H) → Bool := fun _ ds => decide (uptoBulkAll ds ≤ 1048576)
def OpenSpec.upto (s : _root_.Go.ChangeSpec) : _root_.Go.OpenSpec := { _root_.Go.OpenSpec.ofChange s with cond := some uptoSmall }

/-- 'diceboxlaw02.MatrixSolves', WHERE WHAT IT READS IS OF BULK AT MOST 1048576: true; the input reads as it did. -/
def matrixSolvesUptoRow : OpenClaim := { program := "ytcmieifjephdcaagreat", sum := "9b8cea649b1498c42862973b292252a8dd571ff3abcf8482f9e5e386ec9fac59", func := "dicebox/diceboxlaw02.MatrixSolves", spec := "matrixSolves", unfollowed := true, recurses := true, named := ["math/bits.overflowError"], apart := false, narrowed := true }
def MatrixSolvesUptoSaid : Prop := matrixSolvesUptoRow.holds Tryz.pinned (OpenSpec.upto matrixSolvesSpec)

/-- 'diceboxlaw02.MatrixReduces', WHERE WHAT IT READS IS OF BULK AT MOST 1048576: true; the input reads as it did. -/
def matrixReducesUptoRow : OpenClaim := { program := "ytcmieifjephdcaagreat", sum := "9b8cea649b1498c42862973b292252a8dd571ff3abcf8482f9e5e386ec9fac59", func := "dicebox/diceboxlaw02.MatrixReduces", spec := "matrixReduces", unfollowed := true, recurses := true, named := ["math/bits.overflowError"], apart := false, narrowed := true }
def MatrixReducesUptoSaid : Prop := matrixReducesUptoRow.holds Tryz.pinned (OpenSpec.upto matrixReducesSpec)

/-- 'diceboxlaw02.MatrixInverts', WHERE WHAT IT READS IS OF BULK AT MOST 1048576: true; the input reads as it did. -/
def matrixInvertsUptoRow : OpenClaim := { program := "ytcmieifjephdcaagreat", sum := "9b8cea649b1498c42862973b292252a8dd571ff3abcf8482f9e5e386ec9fac59", func := "dicebox/diceboxlaw02.MatrixInverts", spec := "matrixInverts", unfollowed := true, recurses := true, named := ["math/bits.overflowError"], apart := false, narrowed := true }
def MatrixInvertsUptoSaid : Prop := matrixInvertsUptoRow.holds Tryz.pinned (OpenSpec.upto matrixInvertsSpec)

/-- 'diceboxlaw02.MatrixProducts', WHERE WHAT IT READS IS OF BULK AT MOST 1048576: true; the input reads as it did. -/
def matrixProductsUptoRow : OpenClaim := { program := "ytcmieifjephdcaagreat", sum := "9b8cea649b1498c42862973b292252a8dd571ff3abcf8482f9e5e386ec9fac59", func := "dicebox/diceboxlaw02.MatrixProducts", spec := "matrixProducts", unfollowed := true, recurses := true, named := ["math/bits.overflowError"], apart := false, narrowed := true }
def MatrixProductsUptoSaid : Prop := matrixProductsUptoRow.holds Tryz.pinned (OpenSpec.upto matrixProductsSpec)

/-- 'diceboxlaw02.MatrixPowers', WHERE WHAT IT READS IS OF BULK AT MOST 1048576: true; the input reads as it did. -/
def matrixPowersUptoRow : OpenClaim := { program := "ytcmieifjephdcaagreat", sum := "9b8cea649b1498c42862973b292252a8dd571ff3abcf8482f9e5e386ec9fac59", func := "dicebox/diceboxlaw02.MatrixPowers", spec := "matrixPowers", unfollowed := true, recurses := true, named := ["math/bits.overflowError"], apart := false, narrowed := true }
def MatrixPowersUptoSaid : Prop := matrixPowersUptoRow.holds Tryz.pinned (OpenSpec.upto matrixPowersSpec)

/-- 'diceboxlaw02.MatrixLaws', WHERE WHAT IT READS IS OF BULK AT MOST 1048576: true; the input reads as it did. -/
def matrixLawsUptoRow : OpenClaim := { program := "ytcmieifjephdcaagreat", sum := "9b8cea649b1498c42862973b292252a8dd571ff3abcf8482f9e5e386ec9fac59", func := "dicebox/diceboxlaw02.MatrixLaws", spec := "matrixLaws", unfollowed := true, recurses := true, named := ["math/bits.overflowError"], apart := false, narrowed := true }
def MatrixLawsUptoSaid : Prop := matrixLawsUptoRow.holds Tryz.pinned (OpenSpec.upto matrixLawsSpec)

end Rows
end Go.Proofs.YtcmieifjephdcaaGreat
