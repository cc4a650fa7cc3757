/- matrixReduces_holds: for every input the law returns true, and its arguments read as before. No condition. -/
import Derived.Test.YtcmieifjephdcaaGreatRedF
import Derived.Test.YtcmieifjephdcaaGreatRows
import Derived.WalkKit
import Derived.ProofKit
import Derived.OpenShut
import Derived.ChangeOld
import Derived.Below
import Derived.SizedLaws
set_option linter.unusedVariables false
set_option linter.unusedSimpArgs false
set_option maxRecDepth 100000
set_option maxHeartbeats 8000000
namespace Go.Proofs.YtcmieifjephdcaaGreat
open Go.Ab Go.RowKit
theorem law_reduces (k : Nat) (a : List M1) (hI : IM a) (hne : 0 < a.length) : Run Tryz.prog T E0 (.call 4 [.sl k (a.map fM)] (.v (.bool true))) := by
  refine mkcall Tryz.func4 rfl rfl (Nat.le_of_ble_eq_true rfl) ?_
  refine WC.weak [(0, _)] ⟨rfl, trivial⟩ ?_
  refine WC.reg (z := 1) rfl ?_
  refine WO.U (oAs rfl) rfl ?_
  refine WO.nil ?_
  refine WC.weak [(0, _)] ⟨rfl, trivial⟩ ?_
  refine WC.assoc ?_
  refine WC.reg (z := 4) rfl ?_
  refine WO.U (oMv rfl) rfl ?_
  refine WO.U (oBs' (cs := [_]) (rows := [[_]]) rfl rfl (by decide) rfl rfl rfl) rfl ?_
  refine WO.U (oCall rfl (few1_run k a) (by first | exact dc | exact dc1 | (simp [-data_sl]; done) | simp)) rfl ?_
  refine WO.B (fun h13 => ?_) (fun h13 => ?_)
  rotate_left
  · refine WO.U (oNot rfl) rfl ?_
    refine WO.nil ?_
    refine WC.weak [(0, _), (14, _)] ⟨rfl, rfl, trivial⟩ ?_
    refine WC.cT rfl ?_
    refine WC.assoc ?_
    refine WC.reg (z := 2) rfl ?_
    refine WO.U (oCall rfl (awake_run) (by first | exact dc | exact dc1 | (simp [-data_sl]; done) | simp)) rfl ?_
    refine WO.U (oAs rfl) rfl ?_
    refine WO.nil ?_
    refine WC.weak [(2, _)] ⟨rfl, trivial⟩ ?_
    refine WC.rets ?_
    refine post (n := 0) (.inr rfl) rfl ?_ (by first | exact dc | exact dc1 | (simp [-data_sl]; done) | simp)
    rfl
  refine WO.U (oNot rfl) rfl ?_
  refine WO.nil ?_
  refine WC.weak [(0, _), (14, _)] ⟨rfl, rfl, trivial⟩ ?_
  refine WC.cF rfl ?_
  refine WC.skips ?_
  have hF := few8 h13
  obtain ⟨l1, l2⟩ := rl_len hF
  refine WC.reg (z := 7) rfl ?_
  refine WO.U (oMv rfl) rfl ?_
  refine WO.U (oCall rfl (qreduce_run k a hI hF hne) (by first | exact dc | exact dc1 | (simp [-data_sl]; done) | simp)) rfl ?_
  refine WO.U (oMv rfl) rfl ?_
  refine WO.U (oEx rfl rfl) rfl ?_
  refine WO.U (oEx rfl rfl) rfl ?_
  refine WO.U (oAs rfl) rfl ?_
  refine WO.U (oAs rfl) rfl ?_
  refine WO.nil ?_
  refine WC.weak [(0, _), (3, _), (4, _)] ⟨rfl, rfl, rfl, trivial⟩ ?_
  refine WC.reg (z := 7) rfl ?_
  refine WO.U (oMv rfl) rfl ?_
  refine WO.U (oCall rfl (qrank_run k a hI hF hne) (by first | exact dc | exact dc1 | (simp [-data_sl]; done) | simp)) rfl ?_
  refine WO.U (oMv rfl) rfl ?_
  refine WO.U (oEx rfl rfl) rfl ?_
  refine WO.U (oEx rfl rfl) rfl ?_
  refine WO.U (oAs rfl) rfl ?_
  refine WO.U (oAs rfl) rfl ?_
  refine WO.nil ?_
  refine WC.weak [(0, _), (3, _), (4, _), (5, _), (6, _)] ⟨rfl, rfl, rfl, rfl, rfl, trivial⟩ ?_
  refine WC.reg (z := 7) rfl ?_
  refine WO.U (oMv rfl) rfl ?_
  refine WO.U (oCall rfl (mreduce_run k a hI hF hne) (by first | exact dc | exact dc1 | (simp [-data_sl]; done) | simp)) rfl ?_
  refine WO.U (oMv rfl) rfl ?_
  refine WO.U (oEx rfl rfl) rfl ?_
  refine WO.U (oEx rfl rfl) rfl ?_
  refine WO.U (oAs rfl) rfl ?_
  refine WO.U (oAs rfl) rfl ?_
  refine WO.nil ?_
  refine WC.weak [(0, _), (3, _), (4, _), (5, _), (6, _), (7, _), (8, _)] ⟨rfl, rfl, rfl, rfl, rfl, rfl, rfl, trivial⟩ ?_
  refine WC.reg (z := 7) rfl ?_
  refine WO.U (oMv rfl) rfl ?_
  refine WO.U (oCall rfl (mrank_run k a hI hF hne) (by first | exact dc | exact dc1 | (simp [-data_sl]; done) | simp)) rfl ?_
  refine WO.U (oMv rfl) rfl ?_
  refine WO.U (oEx rfl rfl) rfl ?_
  refine WO.U (oEx rfl rfl) rfl ?_
  refine WO.U (oAs rfl) rfl ?_
  refine WO.U (oAs rfl) rfl ?_
  refine WO.nil ?_
  refine WC.weak [(3, _), (4, _), (5, _), (6, _), (7, _), (8, _), (9, _), (10, _)] ⟨rfl, rfl, rfl, rfl, rfl, rfl, rfl, rfl, trivial⟩ ?_
  refine WC.reg (z := 22) rfl ?_
  refine WO.U (oMv rfl) rfl ?_
  refine WO.U (oMv rfl) rfl ?_
  refine WO.U (oCall rfl (msame_run _ _ (rl a) (by omega) (fun r hr => by have := l2 r hr; omega)) (by first | exact dc | exact dc1 | (simp [-data_sl]; done) | simp)) rfl ?_
  refine WO.U (oMv rfl) rfl ?_
  refine WO.Ug rfl (oMv rfl) rfl ?_
  refine WO.Ug rfl (oMv rfl) rfl ?_
  refine WO.Ug rfl (oEql rfl rfl) rfl ?_
  refine WO.D (fun h42 => ?_) (fun h42 => ?_)
  rotate_left
  · exact absurd rfl h42
  refine WO.U (oPkT rfl rfl) rfl ?_
  refine WO.U (oMv rfl) rfl ?_
  refine WO.Ug rfl (oMv rfl) rfl ?_
  refine WO.Ug rfl (oMv rfl) rfl ?_
  refine WO.Ug rfl (oEql rfl rfl) rfl ?_
  refine WO.D (fun h47 => ?_) (fun h47 => ?_)
  rotate_left
  · exact absurd rfl h47
  refine WO.U (oPkT rfl rfl) rfl ?_
  refine WO.U (oMv rfl) rfl ?_
  refine WO.Ug rfl (oMv rfl) rfl ?_
  refine WO.Ug rfl (oMv rfl) rfl ?_
  refine WO.Ug rfl (oEql rfl rfl) rfl ?_
  refine WO.D (fun h52 => ?_) (fun h52 => ?_)
  rotate_left
  · exact absurd rfl h52
  refine WO.U (oPkT rfl rfl) rfl ?_
  refine WO.U (oMv rfl) rfl ?_
  refine WO.Ug rfl (oCall rfl (awake_run) (by first | exact dc | exact dc1 | (simp [-data_sl]; done) | simp)) rfl ?_
  refine WO.U (oPkT rfl rfl) rfl ?_
  refine WO.U (oAs rfl) rfl ?_
  refine WO.nil ?_
  refine WC.weak [(2, _)] ⟨rfl, trivial⟩ ?_
  refine WC.ret ?_
  refine post (n := 0) (.inr rfl) rfl ?_ (by first | exact dc | exact dc1 | (simp [-data_sl]; done) | simp)
  rfl
theorem law_reduces_nil (k : Nat) : Run Tryz.prog T E0 (.call 4 [.sl k (([] : List M1).map fM)] (.v (.bool true))) := by
  refine mkcall Tryz.func4 rfl rfl (Nat.le_of_ble_eq_true rfl) ?_
  refine WC.weak [(0, _)] ⟨rfl, trivial⟩ ?_
  refine WC.reg (z := 1) rfl ?_
  refine WO.U (oAs rfl) rfl ?_
  refine WO.nil ?_
  refine WC.weak [(0, _)] ⟨rfl, trivial⟩ ?_
  refine WC.assoc ?_
  refine WC.reg (z := 4) rfl ?_
  refine WO.U (oMv rfl) rfl ?_
  refine WO.U (oBs' (cs := [_]) (rows := [[_]]) rfl rfl (by decide) rfl rfl rfl) rfl ?_
  refine WO.U (oCall rfl (few1_run k ([] : List M1)) (by first | exact dc | exact dc1 | (simp [-data_sl]; done) | simp)) rfl ?_
  refine WO.B (fun h13 => ?_) (fun h13 => ?_)
  rotate_left
  · refine WO.U (oNot rfl) rfl ?_
    refine WO.nil ?_
    refine WC.weak [(0, _), (14, _)] ⟨rfl, rfl, trivial⟩ ?_
    refine WC.cT rfl ?_
    refine WC.assoc ?_
    refine WC.reg (z := 2) rfl ?_
    refine WO.U (oCall rfl (awake_run) (by first | exact dc | exact dc1 | (simp [-data_sl]; done) | simp)) rfl ?_
    refine WO.U (oAs rfl) rfl ?_
    refine WO.nil ?_
    refine WC.weak [(2, _)] ⟨rfl, trivial⟩ ?_
    refine WC.rets ?_
    refine post (n := 0) (.inr rfl) rfl ?_ (by first | exact dc | exact dc1 | (simp [-data_sl]; done) | simp)
    rfl
  refine WO.U (oNot rfl) rfl ?_
  refine WO.nil ?_
  refine WC.weak [(0, _), (14, _)] ⟨rfl, rfl, trivial⟩ ?_
  refine WC.cF rfl ?_
  refine WC.skips ?_
  have hF : Few8 ([] : List M1) := few8 (by decide)
  obtain ⟨l1, l2⟩ := rl_len hF
  refine WC.reg (z := 7) rfl ?_
  refine WO.U (oMv rfl) rfl ?_
  refine WO.U (oCall rfl (qreduce_nil k) (by first | exact dc | exact dc1 | (simp [-data_sl]; done) | simp)) rfl ?_
  refine WO.U (oMv rfl) rfl ?_
  refine WO.U (oEx rfl rfl) rfl ?_
  refine WO.U (oEx rfl rfl) rfl ?_
  refine WO.U (oAs rfl) rfl ?_
  refine WO.U (oAs rfl) rfl ?_
  refine WO.nil ?_
  refine WC.weak [(0, _), (3, _), (4, _)] ⟨rfl, rfl, rfl, trivial⟩ ?_
  refine WC.reg (z := 7) rfl ?_
  refine WO.U (oMv rfl) rfl ?_
  refine WO.U (oCall rfl (qrank_nil k) (by first | exact dc | exact dc1 | (simp [-data_sl]; done) | simp)) rfl ?_
  refine WO.U (oMv rfl) rfl ?_
  refine WO.U (oEx rfl rfl) rfl ?_
  refine WO.U (oEx rfl rfl) rfl ?_
  refine WO.U (oAs rfl) rfl ?_
  refine WO.U (oAs rfl) rfl ?_
  refine WO.nil ?_
  refine WC.weak [(0, _), (3, _), (4, _), (5, _), (6, _)] ⟨rfl, rfl, rfl, rfl, rfl, trivial⟩ ?_
  refine WC.reg (z := 7) rfl ?_
  refine WO.U (oMv rfl) rfl ?_
  refine WO.U (oCall rfl (mreduce_nil k) (by first | exact dc | exact dc1 | (simp [-data_sl]; done) | simp)) rfl ?_
  refine WO.U (oMv rfl) rfl ?_
  refine WO.U (oEx rfl rfl) rfl ?_
  refine WO.U (oEx rfl rfl) rfl ?_
  refine WO.U (oAs rfl) rfl ?_
  refine WO.U (oAs rfl) rfl ?_
  refine WO.nil ?_
  refine WC.weak [(0, _), (3, _), (4, _), (5, _), (6, _), (7, _), (8, _)] ⟨rfl, rfl, rfl, rfl, rfl, rfl, rfl, trivial⟩ ?_
  refine WC.reg (z := 7) rfl ?_
  refine WO.U (oMv rfl) rfl ?_
  refine WO.U (oCall rfl (mrank_nil k) (by first | exact dc | exact dc1 | (simp [-data_sl]; done) | simp)) rfl ?_
  refine WO.U (oMv rfl) rfl ?_
  refine WO.U (oEx rfl rfl) rfl ?_
  refine WO.U (oEx rfl rfl) rfl ?_
  refine WO.U (oAs rfl) rfl ?_
  refine WO.U (oAs rfl) rfl ?_
  refine WO.nil ?_
  refine WC.weak [(3, _), (4, _), (5, _), (6, _), (7, _), (8, _), (9, _), (10, _)] ⟨rfl, rfl, rfl, rfl, rfl, rfl, rfl, rfl, trivial⟩ ?_
  refine WC.reg (z := 22) rfl ?_
  refine WO.U (oMv rfl) rfl ?_
  refine WO.U (oMv rfl) rfl ?_
  refine WO.U (oCall rfl (msame_run _ _ (rl ([] : List M1)) (by omega) (fun r hr => by have := l2 r hr; omega)) (by first | exact dc | exact dc1 | (simp [-data_sl]; done) | simp)) rfl ?_
  refine WO.U (oMv rfl) rfl ?_
  refine WO.Ug rfl (oMv rfl) rfl ?_
  refine WO.Ug rfl (oMv rfl) rfl ?_
  refine WO.Ug rfl (oEql rfl rfl) rfl ?_
  refine WO.D (fun h42 => ?_) (fun h42 => ?_)
  rotate_left
  · exact absurd rfl h42
  refine WO.U (oPkT rfl rfl) rfl ?_
  refine WO.U (oMv rfl) rfl ?_
  refine WO.Ug rfl (oMv rfl) rfl ?_
  refine WO.Ug rfl (oMv rfl) rfl ?_
  refine WO.Ug rfl (oEql rfl rfl) rfl ?_
  refine WO.D (fun h47 => ?_) (fun h47 => ?_)
  rotate_left
  · exact absurd rfl h47
  refine WO.U (oPkT rfl rfl) rfl ?_
  refine WO.U (oMv rfl) rfl ?_
  refine WO.Ug rfl (oMv rfl) rfl ?_
  refine WO.Ug rfl (oMv rfl) rfl ?_
  refine WO.Ug rfl (oEql rfl rfl) rfl ?_
  refine WO.D (fun h52 => ?_) (fun h52 => ?_)
  rotate_left
  · exact absurd rfl h52
  refine WO.U (oPkT rfl rfl) rfl ?_
  refine WO.U (oMv rfl) rfl ?_
  refine WO.Ug rfl (oCall rfl (awake_run) (by first | exact dc | exact dc1 | (simp [-data_sl]; done) | simp)) rfl ?_
  refine WO.U (oPkT rfl rfl) rfl ?_
  refine WO.U (oAs rfl) rfl ?_
  refine WO.nil ?_
  refine WC.weak [(2, _)] ⟨rfl, trivial⟩ ?_
  refine WC.ret ?_
  refine post (n := 0) (.inr rfl) rfl ?_ (by first | exact dc | exact dc1 | (simp [-data_sl]; done) | simp)
  rfl
end Go.Proofs.YtcmieifjephdcaaGreat
set_option linter.unusedVariables false
namespace Go.Proofs.YtcmieifjephdcaaGreat
open Go.Ab Go.ChangeShapes Go.WideShapes Go.ChangeAt Go.RowKit
theorem eqOk : ∀ t, E0 t = true → EqOk Tryz.prog t := by
  intro t ht
  obtain rfl : t = 38 := by simpa [E0] using ht
  exact eqOk_pair (by kernel_rfl) Tryz.underlying38 (by kernel_rfl) (by decide) (by decide) Tryz.underlying3 Tryz.underlying3 (by kernel_rfl) (by kernel_rfl) rfl rfl (by kernel_rfl)
theorem mcells {cs : List LV} (h : HasC T 38 cs) : ∃ a : NM, cs = mc a ∧ I64 a.1 ∧ I64 a.2 := h.mcs (fs := []) rfl ⟨_, rfl, rfl⟩ rfl ⟨_, rfl, rfl⟩
theorem vcells {cs : List LV} (h : HasC T 23 cs) : ∃ (k : Nat) (us : List NM), cs = [.sl k (us.map mc)] ∧ IV us := by
  obtain ⟨k, us, h1, h2⟩ := h.slice (f := mc) (Q := fun a : NM => I64 a.1 ∧ I64 a.2) rfl (fun row hr => mcells hr)
  exact ⟨k, us, h1, h2⟩
theorem mxcells {cs : List LV} (h : HasC T 22 cs) : ∃ (k : Nat) (us : List M1), cs = [.sl k (us.map fM)] ∧ IM us := by
  obtain ⟨k, us, h1, h2⟩ := h.slice (f := fM) (Q := fun a : M1 => IV a.2) rfl (fun row hr => by
    obtain ⟨k, us, h1, h2⟩ := vcells hr
    exact ⟨(k, us), h1, h2⟩)
  exact ⟨k, us, h1, h2⟩
theorem cells_sl {t : TypeId} {l : LV} {k : Nat} {xs : List (List LV)} (ht : ∃ ti, T t = some ti ∧ ti.agg = false) (h : l.cells = [.sl k xs]) (hg : (∃ ti, T t = some ti ∧ ti.agg = true) ∨ ∀ cs, l ≠ .agg cs) : l = .sl k xs := by
  have hn : ∀ cs, l ≠ .agg cs := by
    rcases hg with ⟨ti, h1, h2⟩ | hg
    · obtain ⟨ti', h3, h4⟩ := ht
      rw [h1] at h3; cases h3
      rw [h2] at h4; cases h4
    · exact hg
  cases l <;> first | (exact absurd rfl (hn _)) | (simp [LV.cells] at h; done) | (simp only [LV.cells, List.cons.injEq, and_true] at h; exact h)
theorem hrun_matrixReduces : ∀ ls, ArgsTy T [22] ls → (∀ l, l ∈ ls → Ab.Data l) → Run Tryz.prog T E0 (.call 4 ls (.v (.bool true)))
  | [l], ⟨⟨h, hg⟩, _⟩, hd => by
    obtain ⟨k, a, h1, h2⟩ := mxcells h
    obtain rfl := cells_sl ⟨_, rfl, rfl⟩ h1 hg
    cases a with
    | nil => exact law_reduces_nil k
    | cons r a => exact law_reduces k _ h2 (by simp)
theorem matrixReduces_own : ownKnob Tryz.prog.godebug = none := by kernel_rfl
theorem matrixReduces_laid : laidOutB Tryz.prog = true := by kernel_rfl
set_option maxRecDepth 100000 in
theorem matrixReduces_lifted (os : Os) (started : os.Started) (H : Type) (enc : TypeId × Value → H) :
    ReturnsInHanded {} Tryz.checked os 4 .any (Rows.matrixReducesSpec.pre6 enc Tryz.prog Tryz.f4 Rows.matrixReducesRow.domain false) (Rows.matrixReducesSpec.post enc Tryz.prog Tryz.f4 false true false false) := by
  refine returnsInHanded_of_change_sized (C := Tryz.checked) matrixReduces_own started (by kernel_rfl) Tryz.func4
    (ChangeSpec.witness6 (enc := enc) (C := Tryz.checked) false ⟨#[], #[.slice none 0 0], []⟩ 8 (by kernel_rfl) (by kernel_rfl) (by kernel_rfl) (by kernel_rfl)) ?_
  intro W base args ds gs before hval0 hW hcnd hsz0 _
  have hval : ∀ (j : Nat) t v, Tryz.f4.params[j]? = some t → args[j]? = some v → Value.okWide Tryz.prog W .any base t v := hval0
  have hW' := hW
  obtain ⟨p, q, hA0, hV, rfl, hfz, hnd⟩ := hW
  have hA : DataW.TrodAll enc Tryz.prog W 0 (fun _ => true) true Tryz.f4.params.toList args.toList ds p := hA0
  rw [Tryz.params4] at hA hval
  have hcall := entry typesOk eqOk Tryz.checked.mixed (ts := [22, 23, 38, 3]) (by decide) (f := 4) (params := [22]) (by decide) hrun_matrixReduces hA (fun j t v h1 h2 => hval j t v (by simpa using h1) h2)
  obtain ⟨v0, vs0, d0, ds0, p0, q0, hargs, rfl, rfl, h0, r0⟩ := trodAll_cons hA
  obtain ⟨rfl, rfl, rfl⟩ := trodAll_nil r0
  obtain rfl : args = #[v0] := by cases args; simp_all
  obtain ⟨rfl, rfl⟩ := trodVars_none hV
  have lt0 : ∀ x ∈ p0, x.block < W.heap.size := by obtain ⟨m, hm⟩ := h0; exact DataW.trod_lt m _ _ _ hm
  refine hcall.mono fun e W' ⟨he, bel⟩ => ?_
  subst he
  exact ⟨_, rfl, _, _, _, [], _, [], hW', trodAll_mk1 (shut_bool Tryz.underlying4 _), (trodAll_cons_mk (Below.trod matrixReduces_laid (by kernel_rfl) (of_decide_eq_true (by kernel_rfl)) h0 bel lt0) trodAll_mk0), rfl, bel.frame _, fun h => by cases h⟩
theorem matrixReduces_over : Rows.matrixReducesRow.holds Tryz.pinned (OpenSpec.ofChange Rows.matrixReducesSpec) :=
  OpenClaim.holds_of_wide 4 Tryz.f4 rfl rfl rfl rfl rfl rfl rfl ⟨rfl, rfl, rfl, rfl, rfl⟩ rfl rfl rfl rfl rfl (by kernel_rfl) Tryz.func4 (by kernel_rfl)
    (of_decide_eq_true (by kernel_rfl)) (by unfold Func.isWrapper; first | (rw [if_pos (by decide +kernel)]; kernel_rfl) | (rw [if_neg (by decide +kernel)]; exact ⟨rfl, rfl⟩))
    (fun os started H enc _ => matrixReduces_lifted os started H enc)
theorem matrixReduces_holds : Rows.MatrixReducesSaid := matrixReduces_over
#print axioms matrixReduces_holds
end Go.Proofs.YtcmieifjephdcaaGreat
