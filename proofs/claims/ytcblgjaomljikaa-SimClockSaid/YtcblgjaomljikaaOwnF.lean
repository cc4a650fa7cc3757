/- simClock_holds: for every input the law returns true, and its arguments read as before. No condition. -/
import Derived.Test.YtcblgjaomljikaaOwnE
import Derived.Test.YtcblgjaomljikaaRows
import Derived.WalkKit
import Derived.ProofKit
import Derived.OpenShut
import Derived.ChangeOld
import Derived.Below
import Derived.SizedLaws
set_option linter.unusedVariables false
namespace Go.Proofs.Ytcblgjaomljikaa
open Go.Ab Go.ChangeShapes Go.WideShapes Go.ChangeAt Go.RowKit
theorem eqOk : ∀ t, E0 t = true → EqOk Try.prog t := eqOkS
theorem licells {cs : List LV} (h : HasC T 22 cs) : ∃ (k : Nat) (us : List Int), cs = [.sl k (us.map ic)] ∧ ∀ z, z ∈ us → I64 z := by
 obtain ⟨k, us, h1, h2⟩ := h.slice (f := ic) (Q := I64) rfl (fun row hr => by
  obtain ⟨z, h3, h4⟩ := hr.i64 rfl
  exact ⟨z, h3, h4⟩)
 exact ⟨k, us, h1, h2⟩
theorem cells_sl {t : TypeId} {l : LV} {k : Nat} {xs : List (List LV)} (ht : ∃ ti, T t = some ti ∧ ti.agg = false) (h : l.cells = [.sl k xs]) (hg : (∃ ti, T t = some ti ∧ ti.agg = true) ∧ (∃ cs, l = .agg cs) ∨ (∃ ti, T t = some ti ∧ ti.agg = false) ∧ ∀ cs, l ≠ .agg cs) : l = .sl k xs := by
 have hn : ∀ cs, l ≠ .agg cs := by
  rcases hg with ⟨⟨ti, h1, h2⟩, _⟩ | ⟨_, hg⟩
  ·obtain ⟨ti', h3, h4⟩ := ht
   rw [h1] at h3; cases h3
   rw [h2] at h4; cases h4
  ·exact hg
 cases l <;> first | (exact absurd rfl (hn _)) | (simp [LV.cells] at h; done) | (simp only [LV.cells, List.cons.injEq, and_true] at h; exact h)
theorem mL {l : LV} (h : HasC T 3 l.cells) (hg : (∃ ti, T 3 = some ti ∧ ti.agg = true) ∧ (∃ cs, l = .agg cs) ∨ (∃ ti, T 3 = some ti ∧ ti.agg = false) ∧ ∀ cs, l ≠ .agg cs) : ∃ z : Int, l = .v (.int .i64 z) := by
 have hn : ∀ cs, l ≠ .agg cs := by
  rcases hg with ⟨⟨ti, h1, h2⟩, _⟩ | ⟨_, hg⟩
  ·have h3 : T 3 = some ti := h1
   have : ti.agg = false := by cases h3; rfl
   rw [this] at h2; cases h2
  ·exact hg
 obtain ⟨z, hz, _⟩ := h.i64 rfl
 refine ⟨z, ?_⟩
 cases l <;> first | (exact absurd rfl (hn _)) | (simp [LV.cells] at hz; done) | (simp only [LV.cells, List.cons.injEq, and_true] at hz; exact hz)
theorem lists {l : LV} (h : HasC T 22 l.cells) (hg : (∃ ti, T 22 = some ti ∧ ti.agg = true) ∧ (∃ cs, l = .agg cs) ∨ (∃ ti, T 22 = some ti ∧ ti.agg = false) ∧ ∀ cs, l ≠ .agg cs) : ∃ (k : Nat) (us : List Int), l = lvL k us ∧ (∀ z, z ∈ us → I64 z) ∧ (k = 0 → us = []) := by
 obtain ⟨k, us, h1, h2⟩ := licells h
 have h3 := h
 rw [h1] at h3
 exact ⟨k, us, cells_sl ⟨_, rfl, rfl⟩ h1 hg, h2, fun hk => List.map_eq_nil_iff.1 (h3.nil0 J hk)⟩
theorem qM : ∀ ls, ArgsTy T [3, 3, 3, 22] ls → (∀ l, l ∈ ls → Ab.Data l) → Run Try.prog T E0 (.call 3 ls (.v (.bool true)))
 | [l0, l1, l2, l3], ⟨⟨h0, g0⟩, ⟨h1, g1⟩, ⟨h2, g2⟩, ⟨h3, g3⟩, _⟩, hd => by
  obtain ⟨z0, rfl⟩ := mL h0 g0
  obtain ⟨z1, rfl⟩ := mL h1 g1
  obtain ⟨z2, rfl⟩ := mL h2 g2
  obtain ⟨kL, L, rfl, _, _⟩ := lists h3 g3
  exact simclock_run z0 z1 z2 kL L
theorem simClock_own : ownKnob Try.prog.godebug = none := by kernel_rfl
theorem fP : laidOutB Try.prog = true := by kernel_rfl
set_option maxRecDepth 100000 in
theorem oA (os : Os) (started : os.Started) (H : Type) (enc : TypeId × Value → H) :
  ReturnsInHanded {} Try.checked os 3 .any (Rows.simClockSpec.pre6 enc Try.prog Try.f3 Rows.simClockRow.domain false) (Rows.simClockSpec.post enc Try.prog Try.f3 false true false false) := by
 refine returnsInHanded_of_change_sized (C := Try.checked) simClock_own started kR Try.func3
  (ChangeSpec.witness6 (enc := enc) (C := Try.checked) false ⟨#[], #[.int .i64 0, .int .i64 0, .int .i64 0, .slice none 0 0], []⟩ 8 kR kR kR kR) ?_
 intro W base args ds gs before hval0 hW hcnd hsz0 _
 have hval : ∀ (j : Nat) t v, Try.f3.params[j]? = some t → args[j]? = some v → Value.okWide Try.prog W .any base t v := hval0
 have hW' := hW
 obtain ⟨p, q, hA0, hV, rfl, hfz, hnd⟩ := hW
 have hA : DataW.TrodAll enc Try.prog W 0 (fun _ => true) true Try.f3.params.toList args.toList ds p := hA0
 rw [Try.params3] at hA hval
 have hcall := entry typesOk eqOk Try.checked.mixed (ts := [3,22]) (by decide) (f := 3) (params := [3, 3, 3, 22]) (by decide) qM hA (fun j t v h1 h2 => hval j t v (by simpa using h1) h2)
 obtain ⟨v0, vs0, d0, ds0, p0, q0, hargs, rfl, rfl, h0, r0⟩ := trodAll_cons hA
 obtain ⟨v1, vs1, d1, ds1, p1, q1, rfl, rfl, rfl, h1, r1⟩ := trodAll_cons r0
 obtain ⟨v2, vs2, d2, ds2, p2, q2, rfl, rfl, rfl, h2, r2⟩ := trodAll_cons r1
 obtain ⟨v3, vs3, d3, ds3, p3, q3, rfl, rfl, rfl, h3, r3⟩ := trodAll_cons r2
 obtain ⟨rfl, rfl, rfl⟩ := trodAll_nil r3
 obtain rfl : args = #[v0, v1, v2, v3] := by cases args; simp_all
 obtain ⟨rfl, rfl⟩ := trodVars_none hV
 have lt0 : ∀ x ∈ p0, x.block < W.heap.size := by obtain ⟨m, hm⟩ := h0; exact DataW.trod_lt m _ _ _ hm
 have lt1 : ∀ x ∈ p1, x.block < W.heap.size := by obtain ⟨m, hm⟩ := h1; exact DataW.trod_lt m _ _ _ hm
 have lt2 : ∀ x ∈ p2, x.block < W.heap.size := by obtain ⟨m, hm⟩ := h2; exact DataW.trod_lt m _ _ _ hm
 have lt3 : ∀ x ∈ p3, x.block < W.heap.size := by obtain ⟨m, hm⟩ := h3; exact DataW.trod_lt m _ _ _ hm
 refine hcall.mono fun e W' ⟨he, bel⟩ => ?_
 subst he
 exact ⟨_, rfl, _, _, _, [], _, [], hW', trodAll_mk1 (shut_bool Try.underlying4 _), (trodAll_cons_mk (Below.trod fP kR (of_decide_eq_true kR) h0 bel lt0) (trodAll_cons_mk (Below.trod fP kR (of_decide_eq_true kR) h1 bel lt1) (trodAll_cons_mk (Below.trod fP kR (of_decide_eq_true kR) h2 bel lt2) (trodAll_cons_mk (Below.trod fP kR (of_decide_eq_true kR) h3 bel lt3) trodAll_mk0)))), rfl, bel.frame _, fun h => by cases h⟩
theorem qO : Rows.simClockRow.holds Try.pinned (OpenSpec.ofChange Rows.simClockSpec) :=
 OpenClaim.holds_of_wide 3 Try.f3 rfl rfl rfl rfl rfl rfl rfl ⟨rfl, rfl, rfl, rfl, rfl⟩ rfl rfl rfl rfl rfl kR Try.func3 kR
  (of_decide_eq_true kR) (by unfold Func.isWrapper; first | (rw [if_pos (by decide +kernel)]; kernel_rfl) | (rw [if_neg (by decide +kernel)]; exact ⟨rfl, rfl⟩))
  (fun os started H enc _ => oA os started H enc)
theorem simClock_holds : Rows.SimClockSaid := qO
#print axioms simClock_holds
end Go.Proofs.Ytcblgjaomljikaa
