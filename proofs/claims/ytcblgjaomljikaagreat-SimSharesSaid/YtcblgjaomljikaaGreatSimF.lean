/- simShares_holds: for every input the law returns true, and its arguments read as before. No condition. -/
import Derived.Test.YtcblgjaomljikaaGreatSimE
import Derived.Test.YtcblgjaomljikaaGreatRows
import Derived.WalkKit
import Derived.ProofKit
import Derived.OpenShut
import Derived.ChangeOld
import Derived.Below
import Derived.SizedLaws
set_option linter.unusedVariables false
namespace Go.Proofs.YtcblgjaomljikaaGreat
open Go.Ab Go.ChangeShapes Go.WideShapes Go.ChangeAt Go.RowKit
theorem eqOk : ∀ t, E0 t = true → EqOk Tryz.prog t := eqOkS
theorem mcells {cs : List LV} (h : HasC T 58 cs) : ∃ a : NM, cs = mc a ∧ I64 a.1 ∧ I64 a.2 := h.mcs (fs := []) rfl ⟨_, rfl, rfl⟩ rfl ⟨_, rfl, rfl⟩
theorem bcells {cs : List LV} (h : HasC T 90 cs) : ∃ b : BR, cs = brc b ∧ IB b := by
 obtain ⟨h1, h2⟩ := h.fields (ti := ti90) rfl rfl
 obtain ⟨a, b, c, rfl⟩ := len3 h1
 obtain ⟨z, h3, h4⟩ := (h2 (0, 3) ti3 (by simp) rfl).i64 rfl
 obtain ⟨m, h5, h6, h7⟩ := mcells (h2 (1, 58) ti58 (by simp) rfl)
 have e1 : a = .v (.int .i64 z) := by simpa [ti3] using h3
 have e2 : b = .v (.int .i64 m.1) ∧ c = .v (.int .i64 m.2) := by simpa [ti58, mc] using h5
 obtain ⟨e2, e3⟩ := e2
 subst e1; subst e2; subst e3
 exact ⟨(z, m), rfl, h4, h6, h7⟩
theorem ccells {cs : List LV} (h : HasC T 87 cs) : ∃ c : CH, cs = chc c ∧ IC c ∧ KC c := by
 obtain ⟨h1, h2⟩ := h.fields (ti := ti87) rfl rfl
 obtain ⟨a, b, c, rfl⟩ := len3 h1
 obtain ⟨m, h5, h6, h7⟩ := mcells (h2 (0, 58) ti58 (by simp) rfl)
 have hx := h2 (2, 85) ti85 (by simp) rfl
 obtain ⟨k, bs, h3, h4⟩ := hx.slice (f := brc) (Q := IB) rfl (fun row hr => bcells hr)
 rw [h3] at hx
 have hk := hx.nil0 rfl
 have e1 : c = .sl k (bs.map brc) := by simpa [ti85] using h3
 have e2 : a = .v (.int .i64 m.1) ∧ b = .v (.int .i64 m.2) := by simpa [ti58, mc] using h5
 obtain ⟨e2, e3⟩ := e2
 subst e1; subst e2; subst e3
 exact ⟨(m, (k, bs)), rfl, ⟨h6, h7, h4⟩, fun h => List.map_eq_nil_iff.1 (hk h)⟩
theorem scells {cs : List LV} (h : HasC T 119 cs) : ∃ s : Go.Ab.ST, cs = stc s ∧ IS s ∧ ∀ c, c ∈ s.2.2 → KC c := by
 obtain ⟨h1, h2⟩ := h.fields (ti := ti119) rfl rfl
 obtain ⟨a, b, c, rfl⟩ := len3 h1
 obtain ⟨y, h3, h4⟩ := (h2 (0, 3) ti3 (by simp) rfl).i64 rfl
 obtain ⟨z, h5, h6⟩ := (h2 (1, 3) ti3 (by simp) rfl).i64 rfl
 obtain ⟨k, bs, h7, h8⟩ := (h2 (2, 117) ti117 (by simp) rfl).slice (f := chc) (Q := fun c => IC c ∧ KC c) rfl (fun row hr => ccells hr)
 have e1 : a = .v (.int .i64 y) := by simpa [ti3] using h3
 have e2 : b = .v (.int .i64 z) := by simpa [ti3] using h5
 have e3 : c = .sl k (bs.map chc) := by simpa [ti117] using h7
 subst e1; subst e2; subst e3
 exact ⟨((y, z), (k, bs)), rfl, ⟨h4, h6, fun c hc => (h8 c hc).1⟩, fun c hc => (h8 c hc).2⟩
theorem mocells {l : LV} (h : HasC T 24 l.cells) (hg : (∃ ti, T 24 = some ti ∧ ti.agg = true) ∧ (∃ cs, l = .agg cs) ∨ (∃ ti, T 24 = some ti ∧ ti.agg = false) ∧ ∀ cs, l ≠ .agg cs) : ∃ (k : Nat) (ss : List Go.Ab.ST), l = lvMo k ss ∧ (∀ s, s ∈ ss → IS s) ∧ KN ss := by
 obtain ⟨h1, h2⟩ := h.fields (ti := ti24) rfl rfl
 obtain ⟨a, ha⟩ := len1 h1
 obtain ⟨k, bs, h7, h8⟩ := (h2 (0, 22) ti22 (by simp) rfl).slice (f := stc) (Q := fun s => IS s ∧ ∀ c, c ∈ s.2.2 → KC c) rfl (fun row hr => scells hr)
 rw [ha] at h7
 have e3 : a = .sl k (bs.map stc) := by simpa [ti22] using h7
 rcases hg with ⟨_, cs, rfl⟩ | ⟨⟨ti, h8, h9⟩, _⟩
 ·have : cs = [a] := ha
  exact ⟨k, bs, by rw [this, e3]; rfl, fun s hs => (h8 s hs).1, fun s hs => (h8 s hs).2⟩
 ·have h10 : ti24.agg = false := by cases h8; exact h9
  cases h10
theorem licells {cs : List LV} (h : HasC T 25 cs) : ∃ (k : Nat) (us : List Int), cs = [.sl k (us.map ic)] ∧ ∀ z, z ∈ us → I64 z := by
 obtain ⟨k, us, h1, h2⟩ := h.slice (f := ic) (Q := I64) rfl (fun row hr => by
  obtain ⟨z, h3, h4⟩ := hr.i64 rfl
  exact ⟨z, h3, h4⟩)
 exact ⟨k, us, h1, h2⟩
theorem cells_sl {t : TypeId} {l : LV} {k : Nat} {xs : List (List LV)} (ht : ∃ ti, T t = some ti ∧ ti.agg = false) (h : l.cells = [.sl k xs]) (hg : (∃ ti, T t = some ti ∧ ti.agg = true) ∧ (∃ cs, l = .agg cs) ∨ (∃ ti, T t = some ti ∧ ti.agg = false) ∧ ∀ cs, l ≠ .agg cs) : l = .sl k xs := by
 have hn : ∀ cs, l ≠ .agg cs := by
  rcases hg with ⟨⟨ti, h1, h2⟩, _⟩ | ⟨_, hg⟩
  ·obtain ⟨ti', h3, h4⟩ := ht
   rw [h1] at h3; cases h3
   rw [h2] at h4; cases h4
  ·exact hg
 cases l <;> first | (exact absurd rfl (hn _)) | (simp [LV.cells] at h; done) | (simp only [LV.cells, List.cons.injEq, and_true] at h; exact h)
theorem lists {l : LV} (h : HasC T 25 l.cells) (hg : (∃ ti, T 25 = some ti ∧ ti.agg = true) ∧ (∃ cs, l = .agg cs) ∨ (∃ ti, T 25 = some ti ∧ ti.agg = false) ∧ ∀ cs, l ≠ .agg cs) : ∃ (k : Nat) (us : List Int), l = lvL k us ∧ (∀ z, z ∈ us → I64 z) ∧ (k = 0 → us = []) := by
 obtain ⟨k, us, h1, h2⟩ := licells h
 have h3 := h
 rw [h1] at h3
 exact ⟨k, us, cells_sl ⟨_, rfl, rfl⟩ h1 hg, h2, fun hk => List.map_eq_nil_iff.1 (h3.nil0 J hk)⟩
theorem qW : ∀ ls, ArgsTy T [24, 25] ls → (∀ l, l ∈ ls → Ab.Data l) → Run Tryz.prog T E0 (.call 3 ls (.v (.bool true)))
 | [l0, l1], ⟨⟨h0, g0⟩, ⟨h1, g1⟩, _⟩, hd => by
  obtain ⟨k, ss, rfl, hI, _⟩ := mocells h0 g0
  obtain ⟨kp, p, rfl, _, _⟩ := lists h1 g1
  exact simShares_law k kp ss p hI
theorem simShares_own : ownKnob Tryz.prog.godebug = none := by kernel_rfl
theorem lC : laidOutB Tryz.prog = true := by kernel_rfl
set_option maxRecDepth 100000 in
theorem oS (os : Os) (started : os.Started) (H : Type) (enc : TypeId × Value → H) :
  ReturnsInHanded {} Tryz.checked os 3 .any (Rows.simSharesSpec.pre6 enc Tryz.prog Tryz.f3 Rows.simSharesRow.domain false) (Rows.simSharesSpec.post enc Tryz.prog Tryz.f3 false true false false) := by
 refine returnsInHanded_of_change_sized (C := Tryz.checked) simShares_own started kR Tryz.func3
  (ChangeSpec.witness6 (enc := enc) (C := Tryz.checked) false ⟨#[], #[.agg #[.slice none 0 0], .slice none 0 0], []⟩ 8 kR kR kR kR) ?_
 intro W base args ds gs before hval0 hW hcnd hsz0 _
 have hval : ∀ (j : Nat) t v, Tryz.f3.params[j]? = some t → args[j]? = some v → Value.okWide Tryz.prog W .any base t v := hval0
 have hW' := hW
 obtain ⟨p, q, hA0, hV, rfl, hfz, hnd⟩ := hW
 have hA : DataW.TrodAll enc Tryz.prog W 0 (fun _ => true) true Tryz.f3.params.toList args.toList ds p := hA0
 rw [Tryz.params3] at hA hval
 have hcall := entry typesOk eqOk Tryz.checked.mixed (ts := [24,22,119,3,117,87,58,85,90,25,30]) (by decide) (f := 3) (params := [24, 25]) (by decide) qW hA (fun j t v h1 h2 => hval j t v (by simpa using h1) h2)
 obtain ⟨v0, vs0, d0, ds0, p0, q0, hargs, rfl, rfl, h0, r0⟩ := trodAll_cons hA
 obtain ⟨v1, vs1, d1, ds1, p1, q1, rfl, rfl, rfl, h1, r1⟩ := trodAll_cons r0
 obtain ⟨rfl, rfl, rfl⟩ := trodAll_nil r1
 obtain rfl : args = #[v0, v1] := by cases args; simp_all
 obtain ⟨rfl, rfl⟩ := trodVars_none hV
 have lt0 : ∀ x ∈ p0, x.block < W.heap.size := by obtain ⟨m, hm⟩ := h0; exact DataW.trod_lt m _ _ _ hm
 have lt1 : ∀ x ∈ p1, x.block < W.heap.size := by obtain ⟨m, hm⟩ := h1; exact DataW.trod_lt m _ _ _ hm
 refine hcall.mono fun e W' ⟨he, bel⟩ => ?_
 subst he
 exact ⟨_, rfl, _, _, _, [], _, [], hW', trodAll_mk1 (shut_bool Tryz.underlying4 _), (trodAll_cons_mk (Below.trod lC kR (of_decide_eq_true kR) h0 bel lt0) (trodAll_cons_mk (Below.trod lC kR (of_decide_eq_true kR) h1 bel lt1) trodAll_mk0)), rfl, bel.frame _, fun h => by cases h⟩
theorem rO : Rows.simSharesRow.holds Tryz.pinned (OpenSpec.ofChange Rows.simSharesSpec) :=
 OpenClaim.holds_of_wide 3 Tryz.f3 rfl rfl rfl rfl rfl rfl rfl ⟨rfl, rfl, rfl, rfl, rfl⟩ rfl rfl rfl rfl rfl kR Tryz.func3 kR
  (of_decide_eq_true kR) (by unfold Func.isWrapper; first | (rw [if_pos (by decide +kernel)]; kernel_rfl) | (rw [if_neg (by decide +kernel)]; exact ⟨rfl, rfl⟩))
  (fun os started H enc _ => oS os started H enc)
theorem simShares_holds : Rows.SimSharesSaid := rO
#print axioms simShares_holds
end Go.Proofs.YtcblgjaomljikaaGreat
