/- discountLinear_holds: for every input the law returns true, and its arguments read as before. No condition. -/
import Derived.Test.YtahljdjhhapngaaGreatLawE
import Derived.Test.YtahljdjhhapngaaGreatRows
import Derived.WalkKit
import Derived.ProofKit
import Derived.OpenShut
import Derived.ChangeOld
import Derived.Below
import Derived.SizedLaws
set_option linter.unusedVariables false
namespace Go.Proofs.YtahljdjhhapngaaGreat
open Go.Ab Go.ChangeShapes Go.WideShapes Go.ChangeAt Go.RowKit
set_option maxRecDepth 100000
theorem eqOk : ∀ t, E0 t = true → EqOk Tryz.prog t := by
 intro t ht
 have h : t = 26 := by simpa [E0] using ht
 subst h
 exact eqOk_pair kR Tryz.underlying26 kR (by decide) (by decide) Tryz.underlying3 Tryz.underlying3 kR kR J J kR
theorem mcells {cs : List LV} (h : HasC T 26 cs) : ∃ a : NM, cs = mc a ∧ I64 a.1 ∧ I64 a.2 := h.mcs (fs := []) rfl ⟨_, rfl, rfl⟩ rfl ⟨_, rfl, rfl⟩
theorem bcells {cs : List LV} (h : HasC T 84 cs) : ∃ b : BR, cs = brc b ∧ IB b := by
 obtain ⟨h1, h2⟩ := h.fields (ti := ti84) rfl rfl
 obtain ⟨a, b, c, rfl⟩ := len3 h1
 obtain ⟨z, h3, h4⟩ := (h2 (0, 3) ti3 (by simp) rfl).i64 rfl
 obtain ⟨m, h5, h6, h7⟩ := mcells (h2 (1, 26) ti26 (by simp) rfl)
 have e1 : a = .v (.int .i64 z) := by simpa [ti3] using h3
 have e2 : b = .v (.int .i64 m.1) ∧ c = .v (.int .i64 m.2) := by simpa [ti26, mc] using h5
 obtain ⟨e2, e3⟩ := e2
 subst e1; subst e2; subst e3
 exact ⟨(z, m), rfl, h4, h6, h7⟩
theorem ccells {cs : List LV} (h : HasC T 57 cs) : ∃ c : CH, cs = chc c ∧ IC c := by
 obtain ⟨h1, h2⟩ := h.fields (ti := ti57) rfl rfl
 obtain ⟨a, b, c, rfl⟩ := len3 h1
 obtain ⟨m, h5, h6, h7⟩ := mcells (h2 (0, 26) ti26 (by simp) rfl)
 obtain ⟨k, bs, h3, h4⟩ := (h2 (2, 55) ti55 (by simp) rfl).slice (f := brc) (Q := IB) rfl (fun row hr => bcells hr)
 have e1 : c = .sl k (bs.map brc) := by simpa [ti55] using h3
 have e2 : a = .v (.int .i64 m.1) ∧ b = .v (.int .i64 m.2) := by simpa [ti26, mc] using h5
 obtain ⟨e2, e3⟩ := e2
 subst e1; subst e2; subst e3
 exact ⟨(m, (k, bs)), rfl, h6, h7, h4⟩
theorem scells {cs : List LV} (h : HasC T 54 cs) : ∃ s : Go.Ab.ST, cs = stc s ∧ IS s := by
 obtain ⟨h1, h2⟩ := h.fields (ti := ti54) rfl rfl
 obtain ⟨a, b, c, rfl⟩ := len3 h1
 obtain ⟨y, h3, h4⟩ := (h2 (0, 3) ti3 (by simp) rfl).i64 rfl
 obtain ⟨z, h5, h6⟩ := (h2 (1, 3) ti3 (by simp) rfl).i64 rfl
 obtain ⟨k, bs, h7, h8⟩ := (h2 (2, 52) ti52 (by simp) rfl).slice (f := chc) (Q := IC) rfl (fun row hr => ccells hr)
 have e1 : a = .v (.int .i64 y) := by simpa [ti3] using h3
 have e2 : b = .v (.int .i64 z) := by simpa [ti3] using h5
 have e3 : c = .sl k (bs.map chc) := by simpa [ti52] using h7
 subst e1; subst e2; subst e3
 exact ⟨((y, z), (k, bs)), rfl, h4, h6, h8⟩
theorem mocells {l : LV} (h : HasC T 24 l.cells) (hg : (∃ ti, T 24 = some ti ∧ ti.agg = true) ∧ (∃ cs, l = .agg cs) ∨ (∃ ti, T 24 = some ti ∧ ti.agg = false) ∧ ∀ cs, l ≠ .agg cs) : ∃ (k : Nat) (ss : List Go.Ab.ST), l = lvMo k ss ∧ ∀ s, s ∈ ss → IS s := by
 obtain ⟨h1, h2⟩ := h.fields (ti := ti24) rfl rfl
 obtain ⟨a, ha⟩ := len1 h1
 obtain ⟨k, bs, h7, h8⟩ := (h2 (0, 22) ti22 (by simp) rfl).slice (f := stc) (Q := IS) rfl (fun row hr => scells hr)
 rw [ha] at h7
 have e3 : a = .sl k (bs.map stc) := by simpa [ti22] using h7
 rcases hg with ⟨_, cs, rfl⟩ | ⟨⟨ti, h8, h9⟩, _⟩
 ·have : cs = [a] := ha
  exact ⟨k, bs, by rw [this, e3]; rfl, h8⟩
 ·have h10 : ti24.agg = false := by cases h8; exact h9
  cases h10
theorem mnum {l : LV} (h : HasC T 26 l.cells) (hg : (∃ ti, T 26 = some ti ∧ ti.agg = true) ∧ (∃ cs, l = .agg cs) ∨ (∃ ti, T 26 = some ti ∧ ti.agg = false) ∧ ∀ cs, l ≠ .agg cs) : ∃ a : NM, l = lvM a ∧ I64 a.1 ∧ I64 a.2 := by
 obtain ⟨a, ha, h1, h2⟩ := mcells h
 rcases hg with ⟨_, cs, rfl⟩ | ⟨⟨ti, h8, h9⟩, _⟩
 ·have : cs = mc a := ha
  exact ⟨a, by rw [this]; rfl, h1, h2⟩
 ·have h10 : ti26.agg = false := by cases h8; exact h9
  cases h10
theorem mS : ∀ ls, ArgsTy T [24, 26, 26, 26] ls → (∀ l, l ∈ ls → Ab.Data l) → Run Tryz.prog T E0 (.call 4 ls (.v (.bool true)))
 | [l, l', l'', l3], ⟨⟨h, hg⟩, ⟨h', hg'⟩, ⟨h'', hg''⟩, ⟨h3, hg3⟩, _⟩, hd => by
  obtain ⟨k, ss, rfl, hI⟩ := mocells h hg
  obtain ⟨f, rfl, hf1, hf2⟩ := mnum h' hg'
  obtain ⟨kk, rfl, hk1, hk2⟩ := mnum h'' hg''
  obtain ⟨cc, rfl, hc1, hc2⟩ := mnum h3 hg3
  exact law_linear k ss f kk cc hI hf1 hf2 hk1 hk2 hc1 hc2
theorem mX : ownKnob Tryz.prog.godebug = none := by kernel_rfl
theorem eM : laidOutB Tryz.prog = true := by kernel_rfl
set_option maxRecDepth 100000 in
theorem lD (os : Os) (started : os.Started) (H : Type) (enc : TypeId × Value → H) :
  ReturnsInHanded {} Tryz.checked os 4 .any (Rows.discountLinearSpec.pre6 enc Tryz.prog Tryz.f4 Rows.discountLinearRow.domain false) (Rows.discountLinearSpec.post enc Tryz.prog Tryz.f4 false true false false) := by
 refine returnsInHanded_of_change_sized (C := Tryz.checked) mX started kR Tryz.func4
  (ChangeSpec.witness6 (enc := enc) (C := Tryz.checked) false ⟨#[], #[.agg #[.slice none 0 0], .agg #[.int .i64 0, .int .i64 0], .agg #[.int .i64 0, .int .i64 0], .agg #[.int .i64 0, .int .i64 0]], []⟩ 8 kR kR kR kR) ?_
 intro W base args ds gs before hval0 hW hcnd hsz0 _
 have hval : ∀ (j : Nat) t v, Tryz.f4.params[j]? = some t → args[j]? = some v → Value.okWide Tryz.prog W .any base t v := hval0
 have hW' := hW
 obtain ⟨p, q, hA0, hV, rfl, hfz, hnd⟩ := hW
 have hA : DataW.TrodAll enc Tryz.prog W 0 (fun _ => true) true Tryz.f4.params.toList args.toList ds p := hA0
 rw [Tryz.params4] at hA hval
 have hcall := entry typesOk eqOk Tryz.checked.mixed (ts := [24,22,54,3,52,57,26,55,84]) (by decide) (f := 4) (params := [24, 26, 26, 26]) (by decide) mS hA (fun j t v h1 h2 => hval j t v (by simpa using h1) h2)
 obtain ⟨v0, vs0, d0, ds0, p0, q0, hargs, rfl, rfl, h0, r0⟩ := trodAll_cons hA
 obtain ⟨v1, vs1, d1, ds1, p1, q1, rfl, rfl, rfl, h1, r1⟩ := trodAll_cons r0
 obtain ⟨v2, vs2, d2, ds2, p2, q2, rfl, rfl, rfl, h2, r2⟩ := trodAll_cons r1
 obtain ⟨v3, vs3, d3, ds3, p3, q3, rfl, rfl, rfl, h3, r3⟩ := trodAll_cons r2
 obtain ⟨rfl, rfl, rfl⟩ := trodAll_nil r3
 obtain rfl : args = #[v0, v1, v2, v3] := by cases args; simp_all
 obtain ⟨rfl, rfl⟩ := trodVars_none hV
 have lt0 : ∀ x ∈ p0, x.block < W.heap.size := by obtain ⟨m, hm⟩ := h0; exact DataW.trod_lt m _ _ _ hm
 have lt1 : ∀ x ∈ p1, x.block < W.heap.size := by obtain ⟨m, hm⟩ := h1; exact DataW.trod_lt m _ _ _ hm
 have lt2 : ∀ x ∈ p2, x.block < W.heap.size := by obtain ⟨m, hm⟩ := h2; exact DataW.trod_lt m _ _ _ hm
 have lt3 : ∀ x ∈ p3, x.block < W.heap.size := by obtain ⟨m, hm⟩ := h3; exact DataW.trod_lt m _ _ _ hm
 refine hcall.mono fun e W' ⟨he, bel⟩ => ?_
 subst he
 exact ⟨_, rfl, _, _, _, [], _, [], hW', trodAll_mk1 (shut_bool Tryz.underlying4 _), (trodAll_cons_mk (Below.trod eM kR (of_decide_eq_true kR) h0 bel lt0) (trodAll_cons_mk (Below.trod eM kR (of_decide_eq_true kR) h1 bel lt1) (trodAll_cons_mk (Below.trod eM kR (of_decide_eq_true kR) h2 bel lt2) (trodAll_cons_mk (Below.trod eM kR (of_decide_eq_true kR) h3 bel lt3) trodAll_mk0)))), rfl, bel.frame _, fun h => by cases h⟩
theorem mR : Rows.discountLinearRow.holds Tryz.pinned (OpenSpec.ofChange Rows.discountLinearSpec) :=
 OpenClaim.holds_of_wide 4 Tryz.f4 rfl rfl rfl rfl rfl rfl rfl ⟨rfl, rfl, rfl, rfl, rfl⟩ rfl rfl rfl rfl rfl kR Tryz.func4 kR
  (of_decide_eq_true kR) (by unfold Func.isWrapper; first | (rw [if_pos (by decide +kernel)]; kernel_rfl) | (rw [if_neg (by decide +kernel)]; exact ⟨rfl, rfl⟩))
  (fun os started H enc _ => lD os started H enc)
theorem discountLinear_holds : Rows.DiscountLinearSaid := mR
#print axioms discountLinear_holds
end Go.Proofs.YtahljdjhhapngaaGreat
