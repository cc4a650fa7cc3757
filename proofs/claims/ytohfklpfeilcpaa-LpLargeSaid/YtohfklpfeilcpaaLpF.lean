/- lpLarge_holds: for every input the law returns true, and its arguments read as before. No condition. -/
import Derived.Test.YtohfklpfeilcpaaLpE
import Derived.Test.YtohfklpfeilcpaaRows
import Derived.WalkKit
import Derived.ProofKit
import Derived.OpenShut
import Derived.ChangeOld
import Derived.Below
import Derived.SizedLaws
set_option linter.unusedVariables false
namespace Go.Proofs.Ytohfklpfeilcpaa
open Go.Ab Go.ChangeShapes Go.WideShapes Go.ChangeAt Go.RowKit
theorem eqOk : ∀ t, E0 t = true → EqOk Try.prog t := by
 intro t ht
 obtain rfl : t = 29 := by simpa [E0] using ht
 exact eqOk_pair kR Try.underlying29 kR (by decide) (by decide) Try.underlying3 Try.underlying3 kR kR J J kR
theorem cells_sl {t : TypeId} {l : LV} {k : Nat} {xs : List (List LV)} (ht : ∃ ti, T t = some ti ∧ ti.agg = false) (h : l.cells = [.sl k xs]) (hg : (∃ ti, T t = some ti ∧ ti.agg = true) ∧ (∃ cs, l = .agg cs) ∨ (∃ ti, T t = some ti ∧ ti.agg = false) ∧ ∀ cs, l ≠ .agg cs) : l = .sl k xs := by
 have hn : ∀ cs, l ≠ .agg cs := by
  rcases hg with ⟨⟨ti, h1, h2⟩, _⟩ | ⟨_, hg⟩
  ·obtain ⟨ti', h3, h4⟩ := ht
   rw [h1] at h3; cases h3
   rw [h2] at h4; cases h4
  ·exact hg
 cases l <;> first | (exact absurd rfl (hn _)) | (simp [LV.cells] at h; done) | (simp only [LV.cells, List.cons.injEq, and_true] at h; exact h)
theorem HasC.u8b {cs : List LV} (h : HasC T 5 cs) : ∃ z, cs = [.v (.int .u8 z)] ∧ 0 ≤ z ∧ z ≤ 255 := by
 have ht : dsc T 5 = some (.int .u8) := rfl
 cases h with
 | int _ k n h1 h2 h3 => rw [ht] at h1; cases h1; exact ⟨n, rfl, h2, h3⟩
 | bool _ b h1 => rw [ht] at h1; cases h1
 | nil _ e h1 => rw [ht] at h1; cases h1
 | sl _ e xs h1 => rw [ht] at h1; cases h1
 | st _ ti fs _ h1 h2 =>
  have h7 : dsc T 5 = some (.st fs) := by unfold dsc; rw [h1]; exact congrArg some h2
  rw [ht] at h7; cases h7
theorem bycells {cs : List LV} (h : HasC T 22 cs) : ∃ (k : Nat) (us : List Int), cs = [.sl k (us.map u8c)] ∧ ∀ z, z ∈ us → 0 ≤ z ∧ z ≤ 255 := by
 obtain ⟨k, us, h1, h2⟩ := h.slice (f := u8c) (Q := fun z => 0 ≤ z ∧ z ≤ 255) rfl (fun row hr => HasC.u8b hr)
 exact ⟨k, us, h1, h2⟩
theorem qP : ∀ ls, ArgsTy T [22] ls → (∀ l, l ∈ ls → Ab.Data l) → Run Try.prog T E0 (.call 3 ls (.v (.bool true)))
 | [l0], ⟨⟨h0, g0⟩, _⟩, hd => by
  obtain ⟨kl, us, h1, hl⟩ := bycells h0
  obtain rfl := cells_sl ⟨_, rfl, rfl⟩ h1 g0
  exact lpLarge_law kl us hl
theorem lpLarge_own : ownKnob Try.prog.godebug = none := by kernel_rfl
theorem qS : laidOutB Try.prog = true := by kernel_rfl
set_option maxRecDepth 100000 in
theorem oP (os : Os) (started : os.Started) (H : Type) (enc : TypeId × Value → H) :
  ReturnsInHanded {} Try.checked os 3 .any (Rows.lpLargeSpec.pre6 enc Try.prog Try.f3 Rows.lpLargeRow.domain false) (Rows.lpLargeSpec.post enc Try.prog Try.f3 false true false false) := by
 refine returnsInHanded_of_change_sized (C := Try.checked) lpLarge_own started kR Try.func3
  (ChangeSpec.witness6 (enc := enc) (C := Try.checked) false ⟨#[], #[.slice none 0 0], []⟩ 8 kR kR kR kR) ?_
 intro W base args ds gs before hval0 hW hcnd hsz0 _
 have hval : ∀ (j : Nat) t v, Try.f3.params[j]? = some t → args[j]? = some v → Value.okWide Try.prog W .any base t v := hval0
 have hW' := hW
 obtain ⟨p, q, hA0, hV, rfl, hfz, hnd⟩ := hW
 have hA : DataW.TrodAll enc Try.prog W 0 (fun _ => true) true Try.f3.params.toList args.toList ds p := hA0
 rw [Try.params3] at hA hval
 have hcall := entry typesOk eqOk Try.checked.mixed (ts := [22,5]) (by decide) (f := 3) (params := [22]) (by decide) qP hA (fun j t v h1 h2 => hval j t v (by simpa using h1) h2)
 obtain ⟨v0, vs0, d0, ds0, p0, q0, hargs, rfl, rfl, h0, r0⟩ := trodAll_cons hA
 obtain ⟨rfl, rfl, rfl⟩ := trodAll_nil r0
 obtain rfl : args = #[v0] := by cases args; simp_all
 obtain ⟨rfl, rfl⟩ := trodVars_none hV
 have lt0 : ∀ x ∈ p0, x.block < W.heap.size := by obtain ⟨m, hm⟩ := h0; exact DataW.trod_lt m _ _ _ hm
 refine hcall.mono fun e W' ⟨he, bel⟩ => ?_
 subst he
 exact ⟨_, rfl, _, _, _, [], _, [], hW', trodAll_mk1 (shut_bool Try.underlying4 _), (trodAll_cons_mk (Below.trod qS kR (of_decide_eq_true kR) h0 bel lt0) trodAll_mk0), rfl, bel.frame _, fun h => by cases h⟩
theorem qT : Rows.lpLargeRow.holds Try.pinned (OpenSpec.ofChange Rows.lpLargeSpec) :=
 OpenClaim.holds_of_wide 3 Try.f3 rfl rfl rfl rfl rfl rfl rfl ⟨rfl, rfl, rfl, rfl, rfl⟩ rfl rfl rfl rfl rfl kR Try.func3 kR
  (of_decide_eq_true kR) (by unfold Func.isWrapper; first | (rw [if_pos (by decide +kernel)]; kernel_rfl) | (rw [if_neg (by decide +kernel)]; exact ⟨rfl, rfl⟩))
  (fun os started H enc _ => oP os started H enc)
theorem lpLarge_holds : Rows.LpLargeSaid := qT
#print axioms lpLarge_holds
end Go.Proofs.Ytohfklpfeilcpaa
