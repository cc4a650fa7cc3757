/- discountOwn_holds: for every input the law returns true, and its arguments read as before. No condition. -/
import Derived.Test.YtcblgjaomljikaaOwnE
import Derived.Test.YtcblgjaomljikaaRows
import Derived.WalkKit
import Derived.ProofKit
import Derived.OpenShut
import Derived.ChangeOld
import Derived.Below
import Derived.SizedLaws
set_option linter.unusedVariables false
namespace Go.Proofs.Ytcblgjaomljikaa
open Go.Ab Go.ChangeShapes Go.WideShapes Go.ChangeAt Go.RowKit
set_option maxRecDepth 100000
theorem eqOk : ∀ t, E0 t = true → EqOk Try.prog t := by
 intro t ht
 have h : (t = 28 ∨ t = 130) ∨ t = 34 := by simpa [E0] using ht
 rcases h with (rfl | rfl) | rfl
 ·exact eqOk_pair kR Try.underlying28 kR (by decide) (by decide) Try.underlying3 Try.underlying3 kR kR J J kR
 ·exact eqOk_arr kR Try.underlying130 J Try.underlying4 kR kR kR
 ·exact eqOk_nest kR Try.underlying34 kR (by decide) (by decide) Try.underlying3 kR Try.underlying28 kR (by decide) (by decide) Try.underlying3 Try.underlying3 kR kR J kR J J J J kR
theorem mcells {cs : List LV} (h : HasC T 28 cs) : ∃ a : NM, cs = mc a ∧ I64 a.1 ∧ I64 a.2 := h.mcs (fs := []) rfl ⟨_, rfl, rfl⟩ rfl ⟨_, rfl, rfl⟩
theorem bcells {cs : List LV} (h : HasC T 34 cs) : ∃ b : BR, cs = brc b ∧ IB b := by
 obtain ⟨h1, h2⟩ := h.fields (ti := ti34) rfl rfl
 obtain ⟨a, b, c, rfl⟩ := len3 h1
 obtain ⟨z, h3, h4⟩ := (h2 (0, 3) ti3 (by simp) rfl).i64 rfl
 obtain ⟨m, h5, h6, h7⟩ := mcells (h2 (1, 28) ti28 (by simp) rfl)
 have e1 : a = .v (.int .i64 z) := by simpa [ti3] using h3
 have e2 : b = .v (.int .i64 m.1) ∧ c = .v (.int .i64 m.2) := by simpa [ti28, mc] using h5
 obtain ⟨e2, e3⟩ := e2
 subst e1; subst e2; subst e3
 exact ⟨(z, m), rfl, h4, h6, h7⟩
theorem ccells {cs : List LV} (h : HasC T 37 cs) : ∃ c : CH, cs = chc c ∧ IC c ∧ KC c := by
 obtain ⟨h1, h2⟩ := h.fields (ti := ti37) rfl rfl
 obtain ⟨a, b, c, rfl⟩ := len3 h1
 obtain ⟨m, h5, h6, h7⟩ := mcells (h2 (0, 28) ti28 (by simp) rfl)
 have hx := h2 (2, 35) ti35 (by simp) rfl
 obtain ⟨k, bs, h3, h4⟩ := hx.slice (f := brc) (Q := IB) rfl (fun row hr => bcells hr)
 rw [h3] at hx
 have hk := hx.nil0 rfl
 have e1 : c = .sl k (bs.map brc) := by simpa [ti35] using h3
 have e2 : a = .v (.int .i64 m.1) ∧ b = .v (.int .i64 m.2) := by simpa [ti28, mc] using h5
 obtain ⟨e2, e3⟩ := e2
 subst e1; subst e2; subst e3
 exact ⟨(m, (k, bs)), rfl, ⟨h6, h7, h4⟩, fun h => List.map_eq_nil_iff.1 (hk h)⟩
theorem scells {cs : List LV} (h : HasC T 40 cs) : ∃ s : Go.Ab.ST, cs = stc s ∧ IS s ∧ ∀ c, c ∈ s.2.2 → KC c := by
 obtain ⟨h1, h2⟩ := h.fields (ti := ti40) rfl rfl
 obtain ⟨a, b, c, rfl⟩ := len3 h1
 obtain ⟨y, h3, h4⟩ := (h2 (0, 3) ti3 (by simp) rfl).i64 rfl
 obtain ⟨z, h5, h6⟩ := (h2 (1, 3) ti3 (by simp) rfl).i64 rfl
 obtain ⟨k, bs, h7, h8⟩ := (h2 (2, 38) ti38 (by simp) rfl).slice (f := chc) (Q := fun c => IC c ∧ KC c) rfl (fun row hr => ccells hr)
 have e1 : a = .v (.int .i64 y) := by simpa [ti3] using h3
 have e2 : b = .v (.int .i64 z) := by simpa [ti3] using h5
 have e3 : c = .sl k (bs.map chc) := by simpa [ti38] using h7
 subst e1; subst e2; subst e3
 exact ⟨((y, z), (k, bs)), rfl, ⟨h4, h6, fun c hc => (h8 c hc).1⟩, fun c hc => (h8 c hc).2⟩
theorem mocells {l : LV} (h : HasC T 26 l.cells) (hg : (∃ ti, T 26 = some ti ∧ ti.agg = true) ∧ (∃ cs, l = .agg cs) ∨ (∃ ti, T 26 = some ti ∧ ti.agg = false) ∧ ∀ cs, l ≠ .agg cs) : ∃ (k : Nat) (ss : List Go.Ab.ST), l = lvMo k ss ∧ (∀ s, s ∈ ss → IS s) ∧ KN ss := by
 obtain ⟨h1, h2⟩ := h.fields (ti := ti26) rfl rfl
 obtain ⟨a, ha⟩ := len1 h1
 obtain ⟨k, bs, h7, h8⟩ := (h2 (0, 24) ti24 (by simp) rfl).slice (f := stc) (Q := fun s => IS s ∧ ∀ c, c ∈ s.2.2 → KC c) rfl (fun row hr => scells hr)
 rw [ha] at h7
 have e3 : a = .sl k (bs.map stc) := by simpa [ti24] using h7
 rcases hg with ⟨_, cs, rfl⟩ | ⟨⟨ti, h8, h9⟩, _⟩
 ·have : cs = [a] := ha
  exact ⟨k, bs, by rw [this, e3]; rfl, fun s hs => (h8 s hs).1, fun s hs => (h8 s hs).2⟩
 ·have h10 : ti26.agg = false := by cases h8; exact h9
  cases h10
theorem licells {cs : List LV} (h : HasC T 22 cs) : ∃ (k : Nat) (us : List Int), cs = [.sl k (us.map ic)] ∧ ∀ z, z ∈ us → I64 z := by
 obtain ⟨k, us, h1, h2⟩ := h.slice (f := ic) (Q := I64) rfl (fun row hr => by
  obtain ⟨z, h3, h4⟩ := hr.i64 rfl
  exact ⟨z, h3, h4⟩)
 exact ⟨k, us, h1, h2⟩
theorem cells_sl {t : TypeId} {l : LV} {k : Nat} {xs : List (List LV)} (ht : ∃ ti, T t = some ti ∧ ti.agg = false) (h : l.cells = [.sl k xs]) (hg : (∃ ti, T t = some ti ∧ ti.agg = true) ∧ (∃ cs, l = .agg cs) ∨ (∃ ti, T t = some ti ∧ ti.agg = false) ∧ ∀ cs, l ≠ .agg cs) : l = .sl k xs := by
 have hn : ∀ cs, l ≠ .agg cs := by
  rcases hg with ⟨⟨ti, h1, h2⟩, _⟩ | ⟨_, hg⟩
  ·obtain ⟨ti', h3, h4⟩ := ht
   rw [h1] at h3; cases h3
   rw [h2] at h4; cases h4
  ·exact hg
 cases l <;> first | (exact absurd rfl (hn _)) | (simp [LV.cells] at h; done) | (simp only [LV.cells, List.cons.injEq, and_true] at h; exact h)
theorem lists {l : LV} (h : HasC T 22 l.cells) (hg : (∃ ti, T 22 = some ti ∧ ti.agg = true) ∧ (∃ cs, l = .agg cs) ∨ (∃ ti, T 22 = some ti ∧ ti.agg = false) ∧ ∀ cs, l ≠ .agg cs) : ∃ (k : Nat) (us : List Int), l = lvL k us ∧ (∀ z, z ∈ us → I64 z) ∧ (k = 0 → us = []) := by
 obtain ⟨k, us, h1, h2⟩ := licells h
 have h3 := h
 rw [h1] at h3
 exact ⟨k, us, cells_sl ⟨_, rfl, rfl⟩ h1 hg, h2, fun hk => List.map_eq_nil_iff.1 (h3.nil0 J hk)⟩
theorem mnum {l : LV} (h : HasC T 28 l.cells) (hg : (∃ ti, T 28 = some ti ∧ ti.agg = true) ∧ (∃ cs, l = .agg cs) ∨ (∃ ti, T 28 = some ti ∧ ti.agg = false) ∧ ∀ cs, l ≠ .agg cs) : ∃ a : NM, l = lvM a ∧ I64 a.1 ∧ I64 a.2 := by
 obtain ⟨a, ha, h1, h2⟩ := mcells h
 rcases hg with ⟨_, cs, rfl⟩ | ⟨⟨ti, h8, h9⟩, _⟩
 ·have : cs = mc a := ha
  exact ⟨a, by rw [this]; rfl, h1, h2⟩
 ·have h10 : ti28.agg = false := by cases h8; exact h9
  cases h10
theorem nscells {cs : List LV} (h : HasC T 41 cs) : ∃ (k : Nat) (ns : List NM), cs = [.sl k (ns.map mc)] ∧ IV ns := by
 obtain ⟨k, ns, h1, h2⟩ := h.slice (f := mc) (Q := fun a => I64 a.1 ∧ I64 a.2) rfl (fun row hr => mcells hr)
 exact ⟨k, ns, h1, h2⟩
theorem oO : ∀ ls, ArgsTy T [26, 28, 22, 41] ls → (∀ l, l ∈ ls → Ab.Data l) → Run Try.prog T E0 (.call 7 ls (.v (.bool true)))
 | [l0, l1, l2, l3], ⟨⟨h0, g0⟩, ⟨h1, g1⟩, ⟨h2, g2⟩, ⟨h3, g3⟩, _⟩, hd => by
  obtain ⟨k, ss, rfl, hI, hK⟩ := mocells h0 g0
  obtain ⟨f, rfl, hf1, hf2⟩ := mnum h1 g1
  obtain ⟨ks, st, rfl, _, _⟩ := lists h2 g2
  obtain ⟨kn, ns, h4, hns⟩ := nscells h3
  obtain rfl := cells_sl ⟨_, rfl, rfl⟩ h4 g3
  exact pW k ks kn ss f st ns hI hf1 hf2 hns
theorem pV : ownKnob Try.prog.godebug = none := by kernel_rfl
theorem fB : laidOutB Try.prog = true := by kernel_rfl
set_option maxRecDepth 100000 in
theorem mH (os : Os) (started : os.Started) (H : Type) (enc : TypeId × Value → H) :
  ReturnsInHanded {} Try.checked os 7 .any (Rows.discountOwnSpec.pre6 enc Try.prog Try.f7 Rows.discountOwnRow.domain false) (Rows.discountOwnSpec.post enc Try.prog Try.f7 false true false false) := by
 refine returnsInHanded_of_change_sized (C := Try.checked) pV started kR Try.func7
  (ChangeSpec.witness6 (enc := enc) (C := Try.checked) false ⟨#[], #[.agg #[.slice none 0 0], .agg #[.int .i64 0, .int .i64 0], .slice none 0 0, .slice none 0 0], []⟩ 8 kR kR kR kR) ?_
 intro W base args ds gs before hval0 hW hcnd hsz0 _
 have hval : ∀ (j : Nat) t v, Try.f7.params[j]? = some t → args[j]? = some v → Value.okWide Try.prog W .any base t v := hval0
 have hW' := hW
 obtain ⟨p, q, hA0, hV, rfl, hfz, hnd⟩ := hW
 have hA : DataW.TrodAll enc Try.prog W 0 (fun _ => true) true Try.f7.params.toList args.toList ds p := hA0
 rw [Try.params7] at hA hval
 have hcall := entry typesOk eqOk Try.checked.mixed (ts := [26,28,41,24,40,3,38,37,35,34,22]) (by decide) (f := 7) (params := [26, 28, 22, 41]) (by decide) oO hA (fun j t v h1 h2 => hval j t v (by simpa using h1) h2)
 obtain ⟨v0, vs0, d0, ds0, p0, q0, hargs, rfl, rfl, h0, r0⟩ := trodAll_cons hA
 obtain ⟨v1, vs1, d1, ds1, p1, q1, rfl, rfl, rfl, h1, r1⟩ := trodAll_cons r0
 obtain ⟨v2, vs2, d2, ds2, p2, q2, rfl, rfl, rfl, h2, r2⟩ := trodAll_cons r1
 obtain ⟨v3, vs3, d3, ds3, p3, q3, rfl, rfl, rfl, h3, r3⟩ := trodAll_cons r2
 obtain ⟨rfl, rfl, rfl⟩ := trodAll_nil r3
 obtain rfl : args = #[v0, v1, v2, v3] := by cases args; simp_all
 obtain ⟨rfl, rfl⟩ := trodVars_none hV
 have lt0 : ∀ x ∈ p0, x.block < W.heap.size := by obtain ⟨m, hm⟩ := h0; exact DataW.trod_lt m _ _ _ hm
 have lt1 : ∀ x ∈ p1, x.block < W.heap.size := by obtain ⟨m, hm⟩ := h1; exact DataW.trod_lt m _ _ _ hm
 have lt2 : ∀ x ∈ p2, x.block < W.heap.size := by obtain ⟨m, hm⟩ := h2; exact DataW.trod_lt m _ _ _ hm
 have lt3 : ∀ x ∈ p3, x.block < W.heap.size := by obtain ⟨m, hm⟩ := h3; exact DataW.trod_lt m _ _ _ hm
 refine hcall.mono fun e W' ⟨he, bel⟩ => ?_
 subst he
 exact ⟨_, rfl, _, _, _, [], _, [], hW', trodAll_mk1 (shut_bool Try.underlying4 _), (trodAll_cons_mk (Below.trod fB kR (of_decide_eq_true kR) h0 bel lt0) (trodAll_cons_mk (Below.trod fB kR (of_decide_eq_true kR) h1 bel lt1) (trodAll_cons_mk (Below.trod fB kR (of_decide_eq_true kR) h2 bel lt2) (trodAll_cons_mk (Below.trod fB kR (of_decide_eq_true kR) h3 bel lt3) trodAll_mk0)))), rfl, bel.frame _, fun h => by cases h⟩
theorem oK : Rows.discountOwnRow.holds Try.pinned (OpenSpec.ofChange Rows.discountOwnSpec) :=
 OpenClaim.holds_of_wide 7 Try.f7 rfl rfl rfl rfl rfl rfl rfl ⟨rfl, rfl, rfl, rfl, rfl⟩ rfl rfl rfl rfl rfl kR Try.func7 kR
  (of_decide_eq_true kR) (by unfold Func.isWrapper; first | (rw [if_pos (by decide +kernel)]; kernel_rfl) | (rw [if_neg (by decide +kernel)]; exact ⟨rfl, rfl⟩))
  (fun os started H enc _ => mH os started H enc)
theorem discountOwn_holds : Rows.DiscountOwnSaid := oK
#print axioms discountOwn_holds
end Go.Proofs.Ytcblgjaomljikaa
