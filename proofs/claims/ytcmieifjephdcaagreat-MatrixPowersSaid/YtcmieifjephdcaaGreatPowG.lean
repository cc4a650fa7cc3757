/- matrixPowers_holds: for every input the law returns true, and its arguments read as before. No condition. -/
import Derived.Test.YtcmieifjephdcaaGreatPowF
import Derived.Test.YtcmieifjephdcaaGreatRows
import Derived.WalkKit
import Derived.ProofKit
import Derived.OpenShut
import Derived.ChangeOld
import Derived.Below
import Derived.SizedLaws
set_option linter.unusedVariables false
namespace Go.Proofs.YtcmieifjephdcaaGreat
open Go.Ab Go.ChangeShapes Go.WideShapes Go.ChangeAt Go.RowKit
theorem eqOk : ∀ t, E0 t = true → EqOk Tryz.prog t := by
 intro t ht
 obtain rfl : t = 38 := by simpa [E0] using ht
 exact eqOk_pair (by kernel_rfl) Tryz.underlying38 (by kernel_rfl) (by decide) (by decide) Tryz.underlying3 Tryz.underlying3 (by kernel_rfl) (by kernel_rfl) rfl rfl (by kernel_rfl)
theorem mcells {cs : List LV} (h : HasC T 38 cs) : ∃ a : NM, cs = mc a ∧ I64 a.1 ∧ I64 a.2 := h.mcs (fs := []) rfl ⟨_, rfl, rfl⟩ rfl ⟨_, rfl, rfl⟩
theorem vcells {cs : List LV} (h : HasC T 23 cs) : ∃ (k : Nat) (us : List NM), cs = [.sl k (us.map mc)] ∧ IV us := by
 obtain ⟨k, us, h1, h2⟩ := h.slice (f := mc) (Q := fun a : NM => I64 a.1 ∧ I64 a.2) rfl (fun row hr => mcells hr)
 exact ⟨k, us, h1, h2⟩
theorem mxcells {cs : List LV} (h : HasC T 22 cs) : ∃ (k : Nat) (us : List M1), cs = [.sl k (us.map fM)] ∧ IM us := by
 obtain ⟨k, us, h1, h2⟩ := h.slice (f := fM) (Q := fun a : M1 => IV a.2) rfl (fun row hr => by
  obtain ⟨k, us, h1, h2⟩ := vcells hr
  exact ⟨(k, us), h1, h2⟩)
 exact ⟨k, us, h1, h2⟩
theorem cells_sl {t : TypeId} {l : LV} {k : Nat} {xs : List (List LV)} (ht : ∃ ti, T t = some ti ∧ ti.agg = false) (h : l.cells = [.sl k xs]) (hg : (∃ ti, T t = some ti ∧ ti.agg = true) ∨ ∀ cs, l ≠ .agg cs) : l = .sl k xs := by
 have hn : ∀ cs, l ≠ .agg cs := by
  rcases hg with ⟨ti, h1, h2⟩ | hg
  ·obtain ⟨ti', h3, h4⟩ := ht
   rw [h1] at h3; cases h3
   rw [h2] at h4; cases h4
  ·exact hg
 cases l <;> first | (exact absurd rfl (hn _)) | (simp [LV.cells] at h; done) | (simp only [LV.cells, List.cons.injEq, and_true] at h; exact h)
theorem cells_int {l : LV} (h : HasC T 3 l.cells) (hg : (∃ ti, T 3 = some ti ∧ ti.agg = true) ∨ ∀ cs, l ≠ .agg cs) : ∃ z : Int, l = .v (.int .i64 z) := by
 have hn : ∀ cs, l ≠ .agg cs := by
  rcases hg with ⟨ti, h1, h2⟩ | hg
  ·have h3 : T 3 = some ti := h1
   have : ti.agg = false := by cases h3; rfl
   rw [this] at h2; cases h2
  ·exact hg
 obtain ⟨z, hz⟩ : ∃ z : Int, l.cells = [.v (.int .i64 z)] := by
  generalize hc : l.cells = cs at h
  cases h with
  | int _ k n h1 => cases h1; exact ⟨n, rfl⟩
  | bool _ b h1 => cases h1
  | nil _ e h1 => cases h1
  | sl _ e xs h1 => cases h1
  | st _ ti fs cs h1 h2 => cases h1; cases h2
 refine ⟨z, ?_⟩
 cases l <;> first | (exact absurd rfl (hn _)) | (simp [LV.cells] at hz; done) | (simp only [LV.cells, List.cons.injEq, and_true] at hz; exact hz)
theorem hrun_matrixPowers : ∀ ls, ArgsTy T [22, 3] ls → (∀ l, l ∈ ls → Ab.Data l) → Run Tryz.prog T E0 (.call 7 ls (.v (.bool true)))
 | [l, l'], ⟨⟨h, hg⟩, ⟨h', hg'⟩, _⟩, hd => by
  obtain ⟨k, a, h1, h2⟩ := mxcells h
  obtain rfl := cells_sl ⟨_, rfl, rfl⟩ h1 hg
  obtain ⟨z, rfl⟩ := cells_int h' hg'
  exact law_powers k a z h2
theorem matrixPowers_own : ownKnob Tryz.prog.godebug = none := by kernel_rfl
theorem matrixPowers_laid : laidOutB Tryz.prog = true := by kernel_rfl
set_option maxRecDepth 100000 in
theorem matrixPowers_lifted (os : Os) (started : os.Started) (H : Type) (enc : TypeId × Value → H) :
  ReturnsInHanded {} Tryz.checked os 7 .any (Rows.matrixPowersSpec.pre6 enc Tryz.prog Tryz.f7 Rows.matrixPowersRow.domain false) (Rows.matrixPowersSpec.post enc Tryz.prog Tryz.f7 false true false false) := by
 refine returnsInHanded_of_change_sized (C := Tryz.checked) matrixPowers_own started (by kernel_rfl) Tryz.func7
  (ChangeSpec.witness6 (enc := enc) (C := Tryz.checked) false ⟨#[], #[.slice none 0 0, .int .i64 0], []⟩ 8 (by kernel_rfl) (by kernel_rfl) (by kernel_rfl) (by kernel_rfl)) ?_
 intro W base args ds gs before hval0 hW hcnd hsz0 _
 have hval : ∀ (j : Nat) t v, Tryz.f7.params[j]? = some t → args[j]? = some v → Value.okWide Tryz.prog W .any base t v := hval0
 have hW' := hW
 obtain ⟨p, q, hA0, hV, rfl, hfz, hnd⟩ := hW
 have hA : DataW.TrodAll enc Tryz.prog W 0 (fun _ => true) true Tryz.f7.params.toList args.toList ds p := hA0
 rw [Tryz.params7] at hA hval
 have hcall := entry typesOk eqOk Tryz.checked.mixed (ts := [22, 23, 38, 3]) (by decide) (f := 7) (params := [22, 3]) (by decide) hrun_matrixPowers hA (fun j t v h1 h2 => hval j t v (by simpa using h1) h2)
 obtain ⟨v0, vs0, d0, ds0, p0, q0, hargs, rfl, rfl, h0, r0⟩ := trodAll_cons hA
 obtain ⟨v1, vs1, d1, ds1, p1, q1, rfl, rfl, rfl, h1, r1⟩ := trodAll_cons r0
 obtain ⟨rfl, rfl, rfl⟩ := trodAll_nil r1
 obtain rfl : args = #[v0, v1] := by cases args; simp_all
 obtain ⟨rfl, rfl⟩ := trodVars_none hV
 have lt0 : ∀ x ∈ p0, x.block < W.heap.size := by obtain ⟨m, hm⟩ := h0; exact DataW.trod_lt m _ _ _ hm
 have lt1 : ∀ x ∈ p1, x.block < W.heap.size := by obtain ⟨m, hm⟩ := h1; exact DataW.trod_lt m _ _ _ hm
 refine hcall.mono fun e W' ⟨he, bel⟩ => ?_
 subst he
 exact ⟨_, rfl, _, _, _, [], _, [], hW', trodAll_mk1 (shut_bool Tryz.underlying4 _), (trodAll_cons_mk (Below.trod matrixPowers_laid (by kernel_rfl) (of_decide_eq_true (by kernel_rfl)) h0 bel lt0) (trodAll_cons_mk (Below.trod matrixPowers_laid (by kernel_rfl) (of_decide_eq_true (by kernel_rfl)) h1 bel lt1) trodAll_mk0)), rfl, bel.frame _, fun h => by cases h⟩
theorem matrixPowers_over : Rows.matrixPowersRow.holds Tryz.pinned (OpenSpec.ofChange Rows.matrixPowersSpec) :=
 OpenClaim.holds_of_wide 7 Tryz.f7 rfl rfl rfl rfl rfl rfl rfl ⟨rfl, rfl, rfl, rfl, rfl⟩ rfl rfl rfl rfl rfl (by kernel_rfl) Tryz.func7 (by kernel_rfl)
  (of_decide_eq_true (by kernel_rfl)) (by unfold Func.isWrapper; first | (rw [if_pos (by decide +kernel)]; kernel_rfl) | (rw [if_neg (by decide +kernel)]; exact ⟨rfl, rfl⟩))
  (fun os started H enc _ => matrixPowers_lifted os started H enc)
theorem matrixPowers_holds : Rows.MatrixPowersSaid := matrixPowers_over
#print axioms matrixPowers_holds
end Go.Proofs.YtcmieifjephdcaaGreat
