/- matrixOwn_holds: for every input the law returns true, and its arguments read as before. No condition. -/
import Derived.Test.YtcblgjaomljikaaOwnE
import Derived.Test.YtcblgjaomljikaaRows
import Derived.WalkKit
import Derived.ProofKit
import Derived.OpenShut
import Derived.ChangeOld
import Derived.Below
import Derived.SizedLaws
set_option linter.unusedVariables false
namespace Go.Proofs.Ytcblgjaomljikaa
open Go.Ab Go.ChangeShapes Go.WideShapes Go.ChangeAt Go.RowKit
set_option maxRecDepth 100000
theorem eqOk : ∀ t, E0 t = true → EqOk Try.prog t := by
 intro t ht
 have h : (t = 28 ∨ t = 130) ∨ t = 34 := by simpa [E0] using ht
 rcases h with (rfl | rfl) | rfl
 ·exact eqOk_pair kR Try.underlying28 kR (by decide) (by decide) Try.underlying3 Try.underlying3 kR kR J J kR
 ·exact eqOk_arr kR Try.underlying130 J Try.underlying4 kR kR kR
 ·exact eqOk_nest kR Try.underlying34 kR (by decide) (by decide) Try.underlying3 kR Try.underlying28 kR (by decide) (by decide) Try.underlying3 Try.underlying3 kR kR J kR J J J J kR
theorem mcells {cs : List LV} (h : HasC T 28 cs) : ∃ a : NM, cs = mc a ∧ I64 a.1 ∧ I64 a.2 := h.mcs (fs := []) rfl ⟨_, rfl, rfl⟩ rfl ⟨_, rfl, rfl⟩
theorem vcells {cs : List LV} (h : HasC T 41 cs) : ∃ (k : Nat) (us : List NM), cs = [.sl k (us.map mc)] ∧ IV us := by
 obtain ⟨k, us, h1, h2⟩ := h.slice (f := mc) (Q := fun a : NM => I64 a.1 ∧ I64 a.2) rfl (fun row hr => mcells hr)
 exact ⟨k, us, h1, h2⟩
theorem mxcells {cs : List LV} (h : HasC T 59 cs) : ∃ (k : Nat) (us : List M1), cs = [.sl k (us.map fM)] ∧ IM us := by
 obtain ⟨k, us, h1, h2⟩ := h.slice (f := fM) (Q := fun a : M1 => IV a.2) rfl (fun row hr => by
  obtain ⟨k, us, h1, h2⟩ := vcells hr
  exact ⟨(k, us), h1, h2⟩)
 exact ⟨k, us, h1, h2⟩
theorem pS {t : TypeId} {l : LV} {k : Nat} {xs : List (List LV)} (ht : ∃ ti, T t = some ti ∧ ti.agg = false) (h : l.cells = [.sl k xs]) (hg : (∃ ti, T t = some ti ∧ ti.agg = true) ∧ (∃ cs, l = .agg cs) ∨ (∃ ti, T t = some ti ∧ ti.agg = false) ∧ ∀ cs, l ≠ .agg cs) : l = .sl k xs := by
 have hn : ∀ cs, l ≠ .agg cs := by
  rcases hg with ⟨⟨ti, h1, h2⟩, _⟩ | ⟨_, hg⟩
  ·obtain ⟨ti', h3, h4⟩ := ht
   rw [h1] at h3; cases h3
   rw [h2] at h4; cases h4
  ·exact hg
 cases l <;> first | (exact absurd rfl (hn _)) | (simp [LV.cells] at h; done) | (simp only [LV.cells, List.cons.injEq, and_true] at h; exact h)
theorem qA : ∀ ls, ArgsTy T [59, 59, 41] ls → (∀ l, l ∈ ls → Ab.Data l) → Run Try.prog T E0 (.call 5 ls (.v (.bool true)))
 | [l, l', l''], ⟨⟨h, hg⟩, ⟨h', hg'⟩, ⟨h'', hg''⟩, _⟩, hd => by
  obtain ⟨k, a, h1, h2⟩ := mxcells h
  obtain rfl := pS ⟨_, rfl, rfl⟩ h1 hg
  obtain ⟨k2, b, h3, h4⟩ := mxcells h'
  obtain rfl := pS ⟨_, rfl, rfl⟩ h3 hg'
  obtain ⟨k3, x, h5, h6⟩ := vcells h''
  obtain rfl := pS ⟨_, rfl, rfl⟩ h5 hg''
  exact rI k k2 k3 a b x h2 h4 h6
theorem rH : ownKnob Try.prog.godebug = none := by kernel_rfl
theorem gZ : laidOutB Try.prog = true := by kernel_rfl
set_option maxRecDepth 100000 in
theorem nQ (os : Os) (started : os.Started) (H : Type) (enc : TypeId × Value → H) :
  ReturnsInHanded {} Try.checked os 5 .any (Rows.matrixOwnSpec.pre6 enc Try.prog Try.f5 Rows.matrixOwnRow.domain false) (Rows.matrixOwnSpec.post enc Try.prog Try.f5 false true false false) := by
 refine returnsInHanded_of_change_sized (C := Try.checked) rH started kR Try.func5
  (ChangeSpec.witness6 (enc := enc) (C := Try.checked) false ⟨#[], #[.slice none 0 0, .slice none 0 0, .slice none 0 0], []⟩ 8 kR kR kR kR) ?_
 intro W base args ds gs before hval0 hW hcnd hsz0 _
 have hval : ∀ (j : Nat) t v, Try.f5.params[j]? = some t → args[j]? = some v → Value.okWide Try.prog W .any base t v := hval0
 have hW' := hW
 obtain ⟨p, q, hA0, hV, rfl, hfz, hnd⟩ := hW
 have hA : DataW.TrodAll enc Try.prog W 0 (fun _ => true) true Try.f5.params.toList args.toList ds p := hA0
 rw [Try.params5] at hA hval
 have hcall := entry typesOk eqOk Try.checked.mixed (ts := [59,41,28,3]) (by decide) (f := 5) (params := [59, 59, 41]) (by decide) qA hA (fun j t v h1 h2 => hval j t v (by simpa using h1) h2)
 obtain ⟨v0, vs0, d0, ds0, p0, q0, hargs, rfl, rfl, h0, r0⟩ := trodAll_cons hA
 obtain ⟨v1, vs1, d1, ds1, p1, q1, rfl, rfl, rfl, h1, r1⟩ := trodAll_cons r0
 obtain ⟨v2, vs2, d2, ds2, p2, q2, rfl, rfl, rfl, h2, r2⟩ := trodAll_cons r1
 obtain ⟨rfl, rfl, rfl⟩ := trodAll_nil r2
 obtain rfl : args = #[v0, v1, v2] := by cases args; simp_all
 obtain ⟨rfl, rfl⟩ := trodVars_none hV
 have lt0 : ∀ x ∈ p0, x.block < W.heap.size := by obtain ⟨m, hm⟩ := h0; exact DataW.trod_lt m _ _ _ hm
 have lt1 : ∀ x ∈ p1, x.block < W.heap.size := by obtain ⟨m, hm⟩ := h1; exact DataW.trod_lt m _ _ _ hm
 have lt2 : ∀ x ∈ p2, x.block < W.heap.size := by obtain ⟨m, hm⟩ := h2; exact DataW.trod_lt m _ _ _ hm
 refine hcall.mono fun e W' ⟨he, bel⟩ => ?_
 subst he
 exact ⟨_, rfl, _, _, _, [], _, [], hW', trodAll_mk1 (shut_bool Try.underlying4 _), (trodAll_cons_mk (Below.trod gZ kR (of_decide_eq_true kR) h0 bel lt0) (trodAll_cons_mk (Below.trod gZ kR (of_decide_eq_true kR) h1 bel lt1) (trodAll_cons_mk (Below.trod gZ kR (of_decide_eq_true kR) h2 bel lt2) trodAll_mk0))), rfl, bel.frame _, fun h => by cases h⟩
theorem qG : Rows.matrixOwnRow.holds Try.pinned (OpenSpec.ofChange Rows.matrixOwnSpec) :=
 OpenClaim.holds_of_wide 5 Try.f5 rfl rfl rfl rfl rfl rfl rfl ⟨rfl, rfl, rfl, rfl, rfl⟩ rfl rfl rfl rfl rfl kR Try.func5 kR
  (of_decide_eq_true kR) (by unfold Func.isWrapper; first | (rw [if_pos (by decide +kernel)]; kernel_rfl) | (rw [if_neg (by decide +kernel)]; exact ⟨rfl, rfl⟩))
  (fun os started H enc _ => nQ os started H enc)
theorem matrixOwn_holds : Rows.MatrixOwnSaid := qG
#print axioms matrixOwn_holds
end Go.Proofs.Ytcblgjaomljikaa
