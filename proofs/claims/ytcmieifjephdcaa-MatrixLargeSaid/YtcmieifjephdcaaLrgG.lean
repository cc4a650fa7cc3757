/- matrixLarge_holds: for every input the law returns true, and its arguments read as before. No condition. -/
import Derived.Test.YtcmieifjephdcaaLrgF
import Derived.Test.YtcmieifjephdcaaRows
import Derived.WalkKit
import Derived.ProofKit
import Derived.OpenShut
import Derived.ChangeOld
import Derived.Below
import Derived.SizedLaws
set_option linter.unusedVariables false
namespace Go.Proofs.Ytcmieifjephdcaa
open Go.Ab Go.ChangeShapes Go.WideShapes Go.ChangeAt Go.RowKit
theorem eqOk : ∀ t, E0 t = true → EqOk Try.prog t := by
 intro t ht
 obtain rfl : t = 26 := by simpa [E0] using ht
 exact eqOk_pair (by kernel_rfl) Try.underlying26 (by kernel_rfl) (by decide) (by decide) Try.underlying3 Try.underlying3 (by kernel_rfl) (by kernel_rfl) rfl rfl (by kernel_rfl)
theorem cells_int {l : LV} (h : HasC T 3 l.cells) (hg : (∃ ti, T 3 = some ti ∧ ti.agg = true) ∨ ∀ cs, l ≠ .agg cs) : ∃ z : Int, l = .v (.int .i64 z) := by
 have hn : ∀ cs, l ≠ .agg cs := by
  rcases hg with ⟨ti, h1, h2⟩ | hg
  ·have h3 : T 3 = some ti := h1
   have : ti.agg = false := by cases h3; rfl
   rw [this] at h2; cases h2
  ·exact hg
 obtain ⟨z, hz⟩ : ∃ z : Int, l.cells = [.v (.int .i64 z)] := by
  generalize hc : l.cells = cs at h
  cases h with
  | int _ k n h1 => cases h1; exact ⟨n, rfl⟩
  | bool _ b h1 => cases h1
  | nil _ e h1 => cases h1
  | sl _ e xs h1 => cases h1
  | st _ ti fs cs h1 h2 => cases h1; cases h2
 refine ⟨z, ?_⟩
 cases l <;> first | (exact absurd rfl (hn _)) | (simp [LV.cells] at hz; done) | (simp only [LV.cells, List.cons.injEq, and_true] at hz; exact hz)
theorem hrun_matrixLarge : ∀ ls, ArgsTy T [3, 3] ls → (∀ l, l ∈ ls → Ab.Data l) → Run Try.prog T E0 (.call 3 ls (.v (.bool true)))
 | [l, l'], ⟨⟨h, hg⟩, ⟨h', hg'⟩, _⟩, hd => by
  obtain ⟨z1, rfl⟩ := cells_int h hg
  obtain ⟨z2, rfl⟩ := cells_int h' hg'
  exact law_large z1 z2
theorem matrixLarge_own : ownKnob Try.prog.godebug = none := by kernel_rfl
theorem matrixLarge_laid : laidOutB Try.prog = true := by kernel_rfl
set_option maxRecDepth 100000 in
theorem matrixLarge_lifted (os : Os) (started : os.Started) (H : Type) (enc : TypeId × Value → H) :
  ReturnsInHanded {} Try.checked os 3 .any (Rows.matrixLargeSpec.pre6 enc Try.prog Try.f3 Rows.matrixLargeRow.domain false) (Rows.matrixLargeSpec.post enc Try.prog Try.f3 false true false false) := by
 refine returnsInHanded_of_change_sized (C := Try.checked) matrixLarge_own started (by kernel_rfl) Try.func3
  (ChangeSpec.witness6 (enc := enc) (C := Try.checked) false ⟨#[], #[.int .i64 0, .int .i64 0], []⟩ 8 (by kernel_rfl) (by kernel_rfl) (by kernel_rfl) (by kernel_rfl)) ?_
 intro W base args ds gs before hval0 hW hcnd hsz0 _
 have hval : ∀ (j : Nat) t v, Try.f3.params[j]? = some t → args[j]? = some v → Value.okWide Try.prog W .any base t v := hval0
 have hW' := hW
 obtain ⟨p, q, hA0, hV, rfl, hfz, hnd⟩ := hW
 have hA : DataW.TrodAll enc Try.prog W 0 (fun _ => true) true Try.f3.params.toList args.toList ds p := hA0
 rw [Try.params3] at hA hval
 have hcall := entry typesOk eqOk Try.checked.mixed (ts := [3]) (by decide) (f := 3) (params := [3, 3]) (by decide) hrun_matrixLarge hA (fun j t v h1 h2 => hval j t v (by simpa using h1) h2)
 obtain ⟨v0, vs0, d0, ds0, p0, q0, hargs, rfl, rfl, h0, r0⟩ := trodAll_cons hA
 obtain ⟨v1, vs1, d1, ds1, p1, q1, rfl, rfl, rfl, h1, r1⟩ := trodAll_cons r0
 obtain ⟨rfl, rfl, rfl⟩ := trodAll_nil r1
 obtain rfl : args = #[v0, v1] := by cases args; simp_all
 obtain ⟨rfl, rfl⟩ := trodVars_none hV
 have lt0 : ∀ x ∈ p0, x.block < W.heap.size := by obtain ⟨m, hm⟩ := h0; exact DataW.trod_lt m _ _ _ hm
 have lt1 : ∀ x ∈ p1, x.block < W.heap.size := by obtain ⟨m, hm⟩ := h1; exact DataW.trod_lt m _ _ _ hm
 refine hcall.mono fun e W' ⟨he, bel⟩ => ?_
 subst he
 exact ⟨_, rfl, _, _, _, [], _, [], hW', trodAll_mk1 (shut_bool Try.underlying4 _), (trodAll_cons_mk (Below.trod matrixLarge_laid (by kernel_rfl) (of_decide_eq_true (by kernel_rfl)) h0 bel lt0) (trodAll_cons_mk (Below.trod matrixLarge_laid (by kernel_rfl) (of_decide_eq_true (by kernel_rfl)) h1 bel lt1) trodAll_mk0)), rfl, bel.frame _, fun h => by cases h⟩
theorem matrixLarge_over : Rows.matrixLargeRow.holds Try.pinned (OpenSpec.ofChange Rows.matrixLargeSpec) :=
 OpenClaim.holds_of_wide 3 Try.f3 rfl rfl rfl rfl rfl rfl rfl ⟨rfl, rfl, rfl, rfl, rfl⟩ rfl rfl rfl rfl rfl (by kernel_rfl) Try.func3 (by kernel_rfl)
  (of_decide_eq_true (by kernel_rfl)) (by unfold Func.isWrapper; first | (rw [if_pos (by decide +kernel)]; kernel_rfl) | (rw [if_neg (by decide +kernel)]; exact ⟨rfl, rfl⟩))
  (fun os started H enc _ => matrixLarge_lifted os started H enc)
theorem matrixLarge_holds : Rows.MatrixLargeSaid := matrixLarge_over
#print axioms matrixLarge_holds
end Go.Proofs.Ytcmieifjephdcaa
