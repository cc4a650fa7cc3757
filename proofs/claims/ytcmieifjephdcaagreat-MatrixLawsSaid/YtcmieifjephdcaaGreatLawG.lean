/- matrixLaws_holds: for every input the law returns true, and its arguments read as before. No condition. -/
import Derived.Test.YtcmieifjephdcaaGreatLawF
import Derived.Test.YtcmieifjephdcaaGreatRows
import Derived.WalkKit
import Derived.ProofKit
import Derived.OpenShut
import Derived.ChangeOld
import Derived.Below
import Derived.SizedLaws
set_option linter.unusedVariables false
namespace Go.Proofs.YtcmieifjephdcaaGreat
open Go.Ab Go.ChangeShapes Go.WideShapes Go.ChangeAt Go.RowKit
theorem eqOk : ∀ t, E0 t = true → EqOk Tryz.prog t := by
 intro t ht
 obtain rfl : t = 38 := by simpa [E0] using ht
 exact eqOk_pair (by kernel_rfl) Tryz.underlying38 (by kernel_rfl) (by decide) (by decide) Tryz.underlying3 Tryz.underlying3 (by kernel_rfl) (by kernel_rfl) rfl rfl (by kernel_rfl)
theorem mcells {cs : List LV} (h : HasC T 38 cs) : ∃ a : NM, cs = mc a ∧ I64 a.1 ∧ I64 a.2 := h.mcs (fs := []) rfl ⟨_, rfl, rfl⟩ rfl ⟨_, rfl, rfl⟩
theorem vcells {cs : List LV} (h : HasC T 23 cs) : ∃ (k : Nat) (us : List NM), cs = [.sl k (us.map mc)] ∧ IV us := by
 obtain ⟨k, us, h1, h2⟩ := h.slice (f := mc) (Q := fun a : NM => I64 a.1 ∧ I64 a.2) rfl (fun row hr => mcells hr)
 exact ⟨k, us, h1, h2⟩
theorem mxcells {cs : List LV} (h : HasC T 22 cs) : ∃ (k : Nat) (us : List M1), cs = [.sl k (us.map fM)] ∧ IM us := by
 obtain ⟨k, us, h1, h2⟩ := h.slice (f := fM) (Q := fun a : M1 => IV a.2) rfl (fun row hr => by
  obtain ⟨k, us, h1, h2⟩ := vcells hr
  exact ⟨(k, us), h1, h2⟩)
 exact ⟨k, us, h1, h2⟩
theorem cells_sl {t : TypeId} {l : LV} {k : Nat} {xs : List (List LV)} (ht : ∃ ti, T t = some ti ∧ ti.agg = false) (h : l.cells = [.sl k xs]) (hg : (∃ ti, T t = some ti ∧ ti.agg = true) ∨ ∀ cs, l ≠ .agg cs) : l = .sl k xs := by
 have hn : ∀ cs, l ≠ .agg cs := by
  rcases hg with ⟨ti, h1, h2⟩ | hg
  ·obtain ⟨ti', h3, h4⟩ := ht
   rw [h1] at h3; cases h3
   rw [h2] at h4; cases h4
  ·exact hg
 cases l <;> first | (exact absurd rfl (hn _)) | (simp [LV.cells] at h; done) | (simp only [LV.cells, List.cons.injEq, and_true] at h; exact h)
theorem hrun_matrixLaws : ∀ ls, ArgsTy T [22, 22, 22, 23] ls → (∀ l, l ∈ ls → Ab.Data l) → Run Tryz.prog T E0 (.call 8 ls (.v (.bool true)))
 | [l, l', l2, l3], ⟨⟨h, hg⟩, ⟨h', hg'⟩, ⟨h2, hg2⟩, ⟨h3, hg3⟩, _⟩, hd => by
  obtain ⟨k, a, e1, i1⟩ := mxcells h
  obtain rfl := cells_sl ⟨_, rfl, rfl⟩ e1 hg
  obtain ⟨k2, b, e2, i2⟩ := mxcells h'
  obtain rfl := cells_sl ⟨_, rfl, rfl⟩ e2 hg'
  obtain ⟨k3, c, e3, i3⟩ := mxcells h2
  obtain rfl := cells_sl ⟨_, rfl, rfl⟩ e3 hg2
  obtain ⟨k4, x, e4, i4⟩ := vcells h3
  obtain rfl := cells_sl ⟨_, rfl, rfl⟩ e4 hg3
  exact law_laws k k2 k3 k4 a b c x i1 i2 i3 i4
theorem matrixLaws_own : ownKnob Tryz.prog.godebug = none := by kernel_rfl
theorem matrixLaws_laid : laidOutB Tryz.prog = true := by kernel_rfl
set_option maxRecDepth 100000 in
theorem matrixLaws_lifted (os : Os) (started : os.Started) (H : Type) (enc : TypeId × Value → H) :
  ReturnsInHanded {} Tryz.checked os 8 .any (Rows.matrixLawsSpec.pre6 enc Tryz.prog Tryz.f8 Rows.matrixLawsRow.domain false) (Rows.matrixLawsSpec.post enc Tryz.prog Tryz.f8 false true false false) := by
 refine returnsInHanded_of_change_sized (C := Tryz.checked) matrixLaws_own started (by kernel_rfl) Tryz.func8
  (ChangeSpec.witness6 (enc := enc) (C := Tryz.checked) false ⟨#[], #[.slice none 0 0, .slice none 0 0, .slice none 0 0, .slice none 0 0], []⟩ 8 (by kernel_rfl) (by kernel_rfl) (by kernel_rfl) (by kernel_rfl)) ?_
 intro W base args ds gs before hval0 hW hcnd hsz0 _
 have hval : ∀ (j : Nat) t v, Tryz.f8.params[j]? = some t → args[j]? = some v → Value.okWide Tryz.prog W .any base t v := hval0
 have hW' := hW
 obtain ⟨p, q, hA0, hV, rfl, hfz, hnd⟩ := hW
 have hA : DataW.TrodAll enc Tryz.prog W 0 (fun _ => true) true Tryz.f8.params.toList args.toList ds p := hA0
 rw [Tryz.params8] at hA hval
 have hcall := entry typesOk eqOk Tryz.checked.mixed (ts := [22, 23, 38, 3]) (by decide) (f := 8) (params := [22, 22, 22, 23]) (by decide) hrun_matrixLaws hA (fun j t v h1 h2 => hval j t v (by simpa using h1) h2)
 obtain ⟨v0, vs0, d0, ds0, p0, q0, hargs, rfl, rfl, h0, r0⟩ := trodAll_cons hA
 obtain ⟨v1, vs1, d1, ds1, p1, q1, rfl, rfl, rfl, h1, r1⟩ := trodAll_cons r0
 obtain ⟨v2, vs2, d2, ds2, p2, q2, rfl, rfl, rfl, h2, r2⟩ := trodAll_cons r1
 obtain ⟨v3, vs3, d3, ds3, p3, q3, rfl, rfl, rfl, h3, r3⟩ := trodAll_cons r2
 obtain ⟨rfl, rfl, rfl⟩ := trodAll_nil r3
 obtain rfl : args = #[v0, v1, v2, v3] := by cases args; simp_all
 obtain ⟨rfl, rfl⟩ := trodVars_none hV
 have lt0 : ∀ x ∈ p0, x.block < W.heap.size := by obtain ⟨m, hm⟩ := h0; exact DataW.trod_lt m _ _ _ hm
 have lt1 : ∀ x ∈ p1, x.block < W.heap.size := by obtain ⟨m, hm⟩ := h1; exact DataW.trod_lt m _ _ _ hm
 have lt2 : ∀ x ∈ p2, x.block < W.heap.size := by obtain ⟨m, hm⟩ := h2; exact DataW.trod_lt m _ _ _ hm
 have lt3 : ∀ x ∈ p3, x.block < W.heap.size := by obtain ⟨m, hm⟩ := h3; exact DataW.trod_lt m _ _ _ hm
 refine hcall.mono fun e W' ⟨he, bel⟩ => ?_
 subst he
 exact ⟨_, rfl, _, _, _, [], _, [], hW', trodAll_mk1 (shut_bool Tryz.underlying4 _), (trodAll_cons_mk (Below.trod matrixLaws_laid (by kernel_rfl) (of_decide_eq_true (by kernel_rfl)) h0 bel lt0) (trodAll_cons_mk (Below.trod matrixLaws_laid (by kernel_rfl) (of_decide_eq_true (by kernel_rfl)) h1 bel lt1) (trodAll_cons_mk (Below.trod matrixLaws_laid (by kernel_rfl) (of_decide_eq_true (by kernel_rfl)) h2 bel lt2) (trodAll_cons_mk (Below.trod matrixLaws_laid (by kernel_rfl) (of_decide_eq_true (by kernel_rfl)) h3 bel lt3) trodAll_mk0)))), rfl, bel.frame _, fun h => by cases h⟩
theorem matrixLaws_over : Rows.matrixLawsRow.holds Tryz.pinned (OpenSpec.ofChange Rows.matrixLawsSpec) :=
 OpenClaim.holds_of_wide 8 Tryz.f8 rfl rfl rfl rfl rfl rfl rfl ⟨rfl, rfl, rfl, rfl, rfl⟩ rfl rfl rfl rfl rfl (by kernel_rfl) Tryz.func8 (by kernel_rfl)
  (of_decide_eq_true (by kernel_rfl)) (by unfold Func.isWrapper; first | (rw [if_pos (by decide +kernel)]; kernel_rfl) | (rw [if_neg (by decide +kernel)]; exact ⟨rfl, rfl⟩))
  (fun os started H enc _ => matrixLaws_lifted os started H enc)
theorem matrixLaws_holds : Rows.MatrixLawsSaid := matrixLaws_over
#print axioms matrixLaws_holds
end Go.Proofs.YtcmieifjephdcaaGreat
