/- discountRing_holds: for every input the law returns true, and its arguments read as before. No condition. -/
import Derived.Test.YtahljdjhhapngaaGreatLawE
import Derived.Test.YtahljdjhhapngaaGreatRows
import Derived.WalkKit
import Derived.ProofKit
import Derived.OpenShut
import Derived.ChangeOld
import Derived.Below
import Derived.SizedLaws
set_option linter.unusedVariables false
namespace Go.Proofs.YtahljdjhhapngaaGreat
open Go.Ab Go.ChangeShapes Go.WideShapes Go.ChangeAt Go.RowKit
set_option maxRecDepth 100000
theorem eqOk : ∀ t, E0 t = true → EqOk Tryz.prog t := by
 intro t ht
 have h : t = 26 := by simpa [E0] using ht
 subst h
 exact eqOk_pair kR Tryz.underlying26 kR (by decide) (by decide) Tryz.underlying3 Tryz.underlying3 kR kR J J kR
theorem mcells {cs : List LV} (h : HasC T 26 cs) : ∃ a : NM, cs = mc a ∧ I64 a.1 ∧ I64 a.2 := h.mcs (fs := []) rfl ⟨_, rfl, rfl⟩ rfl ⟨_, rfl, rfl⟩
theorem cells_sl {t : TypeId} {l : LV} {k : Nat} {xs : List (List LV)} (ht : ∃ ti, T t = some ti ∧ ti.agg = false) (h : l.cells = [.sl k xs]) (hg : (∃ ti, T t = some ti ∧ ti.agg = true) ∧ (∃ cs, l = .agg cs) ∨ (∃ ti, T t = some ti ∧ ti.agg = false) ∧ ∀ cs, l ≠ .agg cs) : l = .sl k xs := by
 have hn : ∀ cs, l ≠ .agg cs := by
  rcases hg with ⟨⟨ti, h1, h2⟩, _⟩ | ⟨_, hg⟩
  ·obtain ⟨ti', h3, h4⟩ := ht
   rw [h1] at h3; cases h3
   rw [h2] at h4; cases h4
  ·exact hg
 cases l <;> first | (exact absurd rfl (hn _)) | (simp [LV.cells] at h; done) | (simp only [LV.cells, List.cons.injEq, and_true] at h; exact h)
theorem cells_int {l : LV} (h : HasC T 3 l.cells) (hg : (∃ ti, T 3 = some ti ∧ ti.agg = true) ∧ (∃ cs, l = .agg cs) ∨ (∃ ti, T 3 = some ti ∧ ti.agg = false) ∧ ∀ cs, l ≠ .agg cs) : ∃ z : Int, l = .v (.int .i64 z) := by
 have hn : ∀ cs, l ≠ .agg cs := by
  rcases hg with ⟨⟨ti, h1, h2⟩, _⟩ | ⟨_, hg⟩
  ·have h3 : T 3 = some ti := h1
   have : ti.agg = false := by cases h3; rfl
   rw [this] at h2; cases h2
  ·exact hg
 obtain ⟨z, hz, _⟩ := h.i64 rfl
 refine ⟨z, ?_⟩
 cases l <;> first | (exact absurd rfl (hn _)) | (simp [LV.cells] at hz; done) | (simp only [LV.cells, List.cons.injEq, and_true] at hz; exact hz)
theorem mnum {l : LV} (h : HasC T 26 l.cells) (hg : (∃ ti, T 26 = some ti ∧ ti.agg = true) ∧ (∃ cs, l = .agg cs) ∨ (∃ ti, T 26 = some ti ∧ ti.agg = false) ∧ ∀ cs, l ≠ .agg cs) : ∃ a : NM, l = lvM a ∧ I64 a.1 ∧ I64 a.2 := by
 obtain ⟨a, ha, h1, h2⟩ := mcells h
 rcases hg with ⟨_, cs, rfl⟩ | ⟨⟨ti, h8, h9⟩, _⟩
 ·have : cs = mc a := ha
  exact ⟨a, by rw [this]; rfl, h1, h2⟩
 ·have h10 : ti26.agg = false := by cases h8; exact h9
  cases h10
theorem HasC.u8b {cs : List LV} (h : HasC T 5 cs) : ∃ z, cs = [.v (.int .u8 z)] ∧ 0 ≤ z ∧ z ≤ 255 := by
 have ht : dsc T 5 = some (.int .u8) := rfl
 cases h with
 | int _ k n h1 h2 h3 => rw [ht] at h1; cases h1; exact ⟨n, rfl, h2, h3⟩
 | bool _ b h1 => rw [ht] at h1; cases h1
 | nil _ e h1 => rw [ht] at h1; cases h1
 | sl _ e xs h1 => rw [ht] at h1; cases h1
 | st _ ti fs _ h1 h2 =>
  have h7 : dsc T 5 = some (.st fs) := by unfold dsc; rw [h1]; exact congrArg some h2
  rw [ht] at h7; cases h7
theorem bycells {cs : List LV} (h : HasC T 81 cs) : ∃ (k : Nat) (us : List Int), cs = [.sl k (us.map u8c)] ∧ ∀ z, z ∈ us → 0 ≤ z ∧ z ≤ 255 := by
 obtain ⟨k, us, h1, h2⟩ := h.slice (f := u8c) (Q := fun z => 0 ≤ z ∧ z ≤ 255) rfl (fun row hr => HasC.u8b hr)
 exact ⟨k, us, h1, h2⟩
theorem nV : ∀ ls, ArgsTy T [3, 3, 26, 81] ls → (∀ l, l ∈ ls → Ab.Data l) → Run Tryz.prog T E0 (.call 8 ls (.v (.bool true)))
 | [l, l', l'', l3], ⟨⟨h, hg⟩, ⟨h', hg'⟩, ⟨h'', hg''⟩, ⟨h3, hg3⟩, _⟩, hd => by
  obtain ⟨nn, rfl⟩ := cells_int h hg
  obtain ⟨r, rfl⟩ := cells_int h' hg'
  obtain ⟨f, rfl, hf1, hf2⟩ := mnum h'' hg''
  obtain ⟨kl, us, h1, hl⟩ := bycells h3
  obtain rfl := cells_sl ⟨_, rfl, rfl⟩ h1 hg3
  exact law_ring nn r f kl us hf1 hf2 hl
theorem oW : ownKnob Tryz.prog.godebug = none := by kernel_rfl
theorem eV : laidOutB Tryz.prog = true := by kernel_rfl
set_option maxRecDepth 100000 in
theorem mO (os : Os) (started : os.Started) (H : Type) (enc : TypeId × Value → H) :
  ReturnsInHanded {} Tryz.checked os 8 .any (Rows.discountRingSpec.pre6 enc Tryz.prog Tryz.f8 Rows.discountRingRow.domain false) (Rows.discountRingSpec.post enc Tryz.prog Tryz.f8 false true false false) := by
 refine returnsInHanded_of_change_sized (C := Tryz.checked) oW started kR Tryz.func8
  (ChangeSpec.witness6 (enc := enc) (C := Tryz.checked) false ⟨#[], #[.int .i64 0, .int .i64 0, .agg #[.int .i64 0, .int .i64 0], .slice none 0 0], []⟩ 8 kR kR kR kR) ?_
 intro W base args ds gs before hval0 hW hcnd hsz0 _
 have hval : ∀ (j : Nat) t v, Tryz.f8.params[j]? = some t → args[j]? = some v → Value.okWide Tryz.prog W .any base t v := hval0
 have hW' := hW
 obtain ⟨p, q, hA0, hV, rfl, hfz, hnd⟩ := hW
 have hA : DataW.TrodAll enc Tryz.prog W 0 (fun _ => true) true Tryz.f8.params.toList args.toList ds p := hA0
 rw [Tryz.params8] at hA hval
 have hcall := entry typesOk eqOk Tryz.checked.mixed (ts := [24,22,54,3,52,57,26,55,84,81,5]) (by decide) (f := 8) (params := [3, 3, 26, 81]) (by decide) nV hA (fun j t v h1 h2 => hval j t v (by simpa using h1) h2)
 obtain ⟨v0, vs0, d0, ds0, p0, q0, hargs, rfl, rfl, h0, r0⟩ := trodAll_cons hA
 obtain ⟨v1, vs1, d1, ds1, p1, q1, rfl, rfl, rfl, h1, r1⟩ := trodAll_cons r0
 obtain ⟨v2, vs2, d2, ds2, p2, q2, rfl, rfl, rfl, h2, r2⟩ := trodAll_cons r1
 obtain ⟨v3, vs3, d3, ds3, p3, q3, rfl, rfl, rfl, h3, r3⟩ := trodAll_cons r2
 obtain ⟨rfl, rfl, rfl⟩ := trodAll_nil r3
 obtain rfl : args = #[v0, v1, v2, v3] := by cases args; simp_all
 obtain ⟨rfl, rfl⟩ := trodVars_none hV
 have lt0 : ∀ x ∈ p0, x.block < W.heap.size := by obtain ⟨m, hm⟩ := h0; exact DataW.trod_lt m _ _ _ hm
 have lt1 : ∀ x ∈ p1, x.block < W.heap.size := by obtain ⟨m, hm⟩ := h1; exact DataW.trod_lt m _ _ _ hm
 have lt2 : ∀ x ∈ p2, x.block < W.heap.size := by obtain ⟨m, hm⟩ := h2; exact DataW.trod_lt m _ _ _ hm
 have lt3 : ∀ x ∈ p3, x.block < W.heap.size := by obtain ⟨m, hm⟩ := h3; exact DataW.trod_lt m _ _ _ hm
 refine hcall.mono fun e W' ⟨he, bel⟩ => ?_
 subst he
 exact ⟨_, rfl, _, _, _, [], _, [], hW', trodAll_mk1 (shut_bool Tryz.underlying4 _), (trodAll_cons_mk (Below.trod eV kR (of_decide_eq_true kR) h0 bel lt0) (trodAll_cons_mk (Below.trod eV kR (of_decide_eq_true kR) h1 bel lt1) (trodAll_cons_mk (Below.trod eV kR (of_decide_eq_true kR) h2 bel lt2) (trodAll_cons_mk (Below.trod eV kR (of_decide_eq_true kR) h3 bel lt3) trodAll_mk0)))), rfl, bel.frame _, fun h => by cases h⟩
theorem nP : Rows.discountRingRow.holds Tryz.pinned (OpenSpec.ofChange Rows.discountRingSpec) :=
 OpenClaim.holds_of_wide 8 Tryz.f8 rfl rfl rfl rfl rfl rfl rfl ⟨rfl, rfl, rfl, rfl, rfl⟩ rfl rfl rfl rfl rfl kR Tryz.func8 kR
  (of_decide_eq_true kR) (by unfold Func.isWrapper; first | (rw [if_pos (by decide +kernel)]; kernel_rfl) | (rw [if_neg (by decide +kernel)]; exact ⟨rfl, rfl⟩))
  (fun os started H enc _ => mO os started H enc)
theorem discountRing_holds : Rows.DiscountRingSaid := nP
#print axioms discountRing_holds
end Go.Proofs.YtahljdjhhapngaaGreat
