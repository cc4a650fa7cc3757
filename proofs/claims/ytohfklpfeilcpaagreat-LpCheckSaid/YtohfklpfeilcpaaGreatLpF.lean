/- lpCheck_holds: for every input the law returns true, and its arguments read as before. No condition. -/
import Derived.Test.YtohfklpfeilcpaaGreatLpE
import Derived.Test.YtohfklpfeilcpaaGreatRows
import Derived.WalkKit
import Derived.ProofKit
import Derived.OpenShut
import Derived.ChangeOld
import Derived.Below
import Derived.SizedLaws
set_option linter.unusedVariables false
namespace Go.Proofs.YtohfklpfeilcpaaGreat
open Go.Ab Go.ChangeShapes Go.WideShapes Go.ChangeAt Go.RowKit
theorem eqOk : ∀ t, E0 t = true → EqOk Tryz.prog t := by
 intro t ht
 obtain rfl : t = 40 := by simpa [E0] using ht
 exact eqOk_pair kR Tryz.underlying40 kR (by decide) (by decide) Tryz.underlying3 Tryz.underlying3 kR kR J J kR
theorem mcells {cs : List LV} (h : HasC T 40 cs) : ∃ a : NM, cs = mc a ∧ I64 a.1 ∧ I64 a.2 := h.mcs (fs := []) rfl ⟨_, rfl, rfl⟩ rfl ⟨_, rfl, rfl⟩
theorem nS {cs : List LV} (h : HasC T 23 cs) : ∃ (k : Nat) (us : List NM), cs = [.sl k (us.map mc)] ∧ IV us := by
 obtain ⟨k, us, h1, h2⟩ := h.slice (f := mc) (Q := fun a : NM => I64 a.1 ∧ I64 a.2) rfl (fun row hr => mcells hr)
 exact ⟨k, us, h1, h2⟩
theorem mxcells {cs : List LV} (h : HasC T 22 cs) : ∃ (k : Nat) (us : List M1), cs = [.sl k (us.map fM)] ∧ IM us := by
 obtain ⟨k, us, h1, h2⟩ := h.slice (f := fM) (Q := fun a : M1 => IV a.2) rfl (fun row hr => by
  obtain ⟨k, us, h1, h2⟩ := nS hr
  exact ⟨(k, us), h1, h2⟩)
 exact ⟨k, us, h1, h2⟩
theorem cells_sl {t : TypeId} {l : LV} {k : Nat} {xs : List (List LV)} (ht : ∃ ti, T t = some ti ∧ ti.agg = false) (h : l.cells = [.sl k xs]) (hg : (∃ ti, T t = some ti ∧ ti.agg = true) ∧ (∃ cs, l = .agg cs) ∨ (∃ ti, T t = some ti ∧ ti.agg = false) ∧ ∀ cs, l ≠ .agg cs) : l = .sl k xs := by
 have hn : ∀ cs, l ≠ .agg cs := by
  rcases hg with ⟨⟨ti, h1, h2⟩, _⟩ | ⟨_, hg⟩
  ·obtain ⟨ti', h3, h4⟩ := ht
   rw [h1] at h3; cases h3
   rw [h2] at h4; cases h4
  ·exact hg
 cases l <;> first | (exact absurd rfl (hn _)) | (simp [LV.cells] at h; done) | (simp only [LV.cells, List.cons.injEq, and_true] at h; exact h)
theorem len6 {α : Type} {l : List α} (h : l.length = 6) : ∃ a b c d e f, l = [a, b, c, d, e, f] := by
 match l, h with
 | [a, b, c, d, e, f], _ => exact ⟨a, b, c, d, e, f, rfl⟩
theorem pcells {l : LV} (h : HasC T 25 l.cells) (hg : (∃ ti, T 25 = some ti ∧ ti.agg = true) ∧ (∃ cs, l = .agg cs) ∨ (∃ ti, T 25 = some ti ∧ ti.agg = false) ∧ ∀ cs, l ≠ .agg cs) : ∃ p : PB, l = lvPb p ∧ IM p.1.2 ∧ IV p.2.1.2 ∧ IV p.2.2.2 := by
 obtain ⟨h1, h2⟩ := h.fields (ti := ti25) rfl rfl
 obtain ⟨a, b, c, habc⟩ := len3 h1
 rcases hg with ⟨_, cs, rfl⟩ | ⟨⟨ti, h8, h9⟩, _⟩
 ·have hcs : cs = [a, b, c] := habc
  subst hcs
  obtain ⟨k1, m, e1, i1⟩ := mxcells (h2 (0, 22) ti22 (by simp) rfl)
  obtain ⟨k2, r, e2, i2⟩ := nS (h2 (1, 23) ti23 (by simp) rfl)
  obtain ⟨k3, g, e3, i3⟩ := nS (h2 (2, 23) ti23 (by simp) rfl)
  have ea : a = .sl k1 (m.map fM) := by simpa [ti22, LV.cells] using e1
  have eb : b = .sl k2 (r.map mc) := by simpa [ti23, LV.cells] using e2
  have ec : c = .sl k3 (g.map mc) := by simpa [ti23, LV.cells] using e3
  subst ea; subst eb; subst ec
  exact ⟨((k1, m), (k2, r), (k3, g)), rfl, i1, i2, i3⟩
 ·have h10 : ti25.agg = false := by cases h8; exact h9
  cases h10
theorem rcells {l : LV} (h : HasC T 42 l.cells) (hg : (∃ ti, T 42 = some ti ∧ ti.agg = true) ∧ (∃ cs, l = .agg cs) ∨ (∃ ti, T 42 = some ti ∧ ti.agg = false) ∧ ∀ cs, l ≠ .agg cs) : ∃ r : RS, l = lvRs r ∧ (I64 r.2.1.1 ∧ I64 r.2.1.2) ∧ IV r.2.2.1.2 ∧ IV r.2.2.2.1.2 ∧ IV r.2.2.2.2.2 ∧ I64 r.1 := by
 obtain ⟨h1, h2⟩ := h.fields (ti := ti42) rfl rfl
 obtain ⟨a, b, c, d, e, f, habc⟩ := len6 h1
 rcases hg with ⟨_, cs, rfl⟩ | ⟨⟨ti, h8, h9⟩, _⟩
 ·have hcs : cs = [a, b, c, d, e, f] := habc
  subst hcs
  obtain ⟨y, h3, h4⟩ := (h2 (0, 3) ti3 (by simp) rfl).i64 rfl
  obtain ⟨m, h5, h6, h7⟩ := mcells (h2 (1, 40) ti40 (by simp) rfl)
  obtain ⟨k1, u1, e1, i1⟩ := nS (h2 (3, 23) ti23 (by simp) rfl)
  obtain ⟨k2, u2, e2, i2⟩ := nS (h2 (4, 23) ti23 (by simp) rfl)
  obtain ⟨k3, u3, e3, i3⟩ := nS (h2 (5, 23) ti23 (by simp) rfl)
  have ea : a = .v (.int .i64 y) := by simpa [ti3, LV.cells] using h3
  have eb : b = .v (.int .i64 m.1) ∧ c = .v (.int .i64 m.2) := by simpa [ti40, mc, LV.cells] using h5
  obtain ⟨eb, ec⟩ := eb
  have ed : d = .sl k1 (u1.map mc) := by simpa [ti23, LV.cells] using e1
  have ee : e = .sl k2 (u2.map mc) := by simpa [ti23, LV.cells] using e2
  have ef : f = .sl k3 (u3.map mc) := by simpa [ti23, LV.cells] using e3
  subst ea; subst eb; subst ec; subst ed; subst ee; subst ef
  exact ⟨(y, m, (k1, u1), (k2, u2), (k3, u3)), rfl, ⟨h6, h7⟩, i1, i2, i3, h4⟩
 ·have h10 : ti42.agg = false := by cases h8; exact h9
  cases h10
theorem hrun_lpCheck : ∀ ls, ArgsTy T [25, 42, 23] ls → (∀ l, l ∈ ls → Ab.Data l) → Run Tryz.prog T E0 (.call 4 ls (.v (.bool true)))
 | [l0, l1, l2], ⟨⟨h0, g0⟩, ⟨h1, g1⟩, ⟨h2, g2⟩, _⟩, hd => by
  obtain ⟨p, rfl, i1, i2, i3⟩ := pcells h0 g0
  obtain ⟨r, rfl, j1, j2, j3, j4, _⟩ := rcells h1 g1
  obtain ⟨k, x, h3, hx⟩ := nS h2
  obtain rfl := cells_sl ⟨_, rfl, rfl⟩ h3 g2
  exact lpCheck_law k p r x awake03_run i1 i2 i3 j1 j2 j3 j4 hx
theorem lpCheck_own : ownKnob Tryz.prog.godebug = none := by kernel_rfl
theorem lH : laidOutB Tryz.prog = true := by kernel_rfl
set_option maxRecDepth 100000 in
theorem lpCheck_lifted (os : Os) (started : os.Started) (H : Type) (enc : TypeId × Value → H) :
  ReturnsInHanded {} Tryz.checked os 4 .any (Rows.lpCheckSpec.pre6 enc Tryz.prog Tryz.f4 Rows.lpCheckRow.domain false) (Rows.lpCheckSpec.post enc Tryz.prog Tryz.f4 false true false false) := by
 refine returnsInHanded_of_change_sized (C := Tryz.checked) lpCheck_own started kR Tryz.func4
  (ChangeSpec.witness6 (enc := enc) (C := Tryz.checked) false ⟨#[], #[.agg #[.slice none 0 0, .slice none 0 0, .slice none 0 0], .agg #[.int .i64 0, .int .i64 0, .int .i64 0, .slice none 0 0, .slice none 0 0, .slice none 0 0], .slice none 0 0], []⟩ 8 kR kR kR kR) ?_
 intro W base args ds gs before hval0 hW hcnd hsz0 _
 have hval : ∀ (j : Nat) t v, Tryz.f4.params[j]? = some t → args[j]? = some v → Value.okWide Tryz.prog W .any base t v := hval0
 have hW' := hW
 obtain ⟨p, q, hA0, hV, rfl, hfz, hnd⟩ := hW
 have hA : DataW.TrodAll enc Tryz.prog W 0 (fun _ => true) true Tryz.f4.params.toList args.toList ds p := hA0
 rw [Tryz.params4] at hA hval
 have hcall := entry typesOk eqOk Tryz.checked.mixed (ts := [25,42,22,23,40,3]) (by decide) (f := 4) (params := [25, 42, 23]) (by decide) hrun_lpCheck hA (fun j t v h1 h2 => hval j t v (by simpa using h1) h2)
 obtain ⟨v0, vs0, d0, ds0, p0, q0, hargs, rfl, rfl, h0, r0⟩ := trodAll_cons hA
 obtain ⟨v1, vs1, d1, ds1, p1, q1, rfl, rfl, rfl, h1, r1⟩ := trodAll_cons r0
 obtain ⟨v2, vs2, d2, ds2, p2, q2, rfl, rfl, rfl, h2, r2⟩ := trodAll_cons r1
 obtain ⟨rfl, rfl, rfl⟩ := trodAll_nil r2
 obtain rfl : args = #[v0, v1, v2] := by cases args; simp_all
 obtain ⟨rfl, rfl⟩ := trodVars_none hV
 have lt0 : ∀ x ∈ p0, x.block < W.heap.size := by obtain ⟨m, hm⟩ := h0; exact DataW.trod_lt m _ _ _ hm
 have lt1 : ∀ x ∈ p1, x.block < W.heap.size := by obtain ⟨m, hm⟩ := h1; exact DataW.trod_lt m _ _ _ hm
 have lt2 : ∀ x ∈ p2, x.block < W.heap.size := by obtain ⟨m, hm⟩ := h2; exact DataW.trod_lt m _ _ _ hm
 refine hcall.mono fun e W' ⟨he, bel⟩ => ?_
 subst he
 exact ⟨_, rfl, _, _, _, [], _, [], hW', trodAll_mk1 (shut_bool Tryz.underlying4 _), (trodAll_cons_mk (Below.trod lH kR (of_decide_eq_true kR) h0 bel lt0) (trodAll_cons_mk (Below.trod lH kR (of_decide_eq_true kR) h1 bel lt1) (trodAll_cons_mk (Below.trod lH kR (of_decide_eq_true kR) h2 bel lt2) trodAll_mk0))), rfl, bel.frame _, fun h => by cases h⟩
theorem lpCheck_over : Rows.lpCheckRow.holds Tryz.pinned (OpenSpec.ofChange Rows.lpCheckSpec) :=
 OpenClaim.holds_of_wide 4 Tryz.f4 rfl rfl rfl rfl rfl rfl rfl ⟨rfl, rfl, rfl, rfl, rfl⟩ rfl rfl rfl rfl rfl kR Tryz.func4 kR
  (of_decide_eq_true kR) (by unfold Func.isWrapper; first | (rw [if_pos (by decide +kernel)]; kernel_rfl) | (rw [if_neg (by decide +kernel)]; exact ⟨rfl, rfl⟩))
  (fun os started H enc _ => lpCheck_lifted os started H enc)
theorem lpCheck_holds : Rows.LpCheckSaid := lpCheck_over
#print axioms lpCheck_holds
end Go.Proofs.YtohfklpfeilcpaaGreat
