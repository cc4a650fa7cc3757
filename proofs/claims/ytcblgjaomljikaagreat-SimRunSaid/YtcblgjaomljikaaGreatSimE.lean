/- Part E of the proof of simRun_holds: what it rests on. No condition. -/
import Derived.Test.YtcblgjaomljikaaGreatSimD
import Derived.Test.YtcblgjaomljikaaGreatChecked
set_option linter.unusedVariables false
set_option linter.unusedSimpArgs false
set_option maxRecDepth 100000
set_option maxHeartbeats 4000000
namespace Go.Proofs.YtcblgjaomljikaaGreat
open Go.Ab Go.RowKit
theorem idx1_run (k : Nat) (ns : List NM) (g : FuncId) (cap : List LV) (p : NM → Bool) (hcap : ∀ c, c ∈ cap → Go.Ab.Data c) (ln : ns.length < 4611686018427387904) (hp : ∀ a, a ∈ ns → Run Tryz.prog T E0 (.call g ([lvM a] ++ cap) (.v (.bool (p a))))) : Run Tryz.prog T E0 (.call 136 [.sl k (ns.map mc), .fn (.func g) [] cap] (.v (.int .i64 (fidx p ns)))) := by
 refine bA Tryz.func136 J J (cU J) <| Rg 1 J <| Ua J J <| Wn <| aB <| Rg 3 J <| Um J J <| aA (aU J J) J <| Um J J <| Wn <| aK <| aZ (α := Nat) (fun i => [(0, .sl k (ns.map mc)), (1, .fn (.func g) [] cap), (7, .v (.int .i64 (ns.length : Int))), (8, .v (.int .i64 (i : Int)))]) (fun i => []) (fun i n => i ≤ ns.length ∧ (ns.take i).any p = false) (fun i => ns.length - i) (0) ⟨J, J, J, J, trivial⟩ trivial ⟨Nat.zero_le _, by simp⟩ ?_
 rintro i n hF
 change WC _ _ _ _ _ (_ :: _) ([]) n _
 obtain ⟨hi, ha⟩ := hF
 refine Rg 1 J <| aA (bP J J) J <| aV (fun h9 => ?_) (fun h9 => ?_)
 rotate_left
 ·refine Wn <| aS J <| aX <| aP <| aR J <| Rg 1 J <| Ua J J <| Wn <| aL <| post (n := 0) (.inr J) J ?_ (by first | (simp [-fZ]; done) | simp)
  exact congrArg (fun z => LV.v (.int .i64 z)) (nT ha om).symm
 refine Wn <| aO J <| aD <| aK <| Rg 2 J <| Um J J <| Ua J J <| Wn <| Rg 6 J <| Um J J <| Um J J <| Um J J <| aA (bQ J J J J J om J) J <| aA (cW (l := .agg [_, _]) J J J) J <| aA (oCallV J J (hp _ (bN om)) (aY (by simpa [-fZ] using hcap))) J <| dB (fun h16 => ?_) (fun h16 => ?_)
 rotate_left
 ·refine Wn <| bV J <| bZ <| aF <| aH (z := 2) J <| aA (cI (((i + 1 : Nat) : Int)) (aQ J J om) om) J <| Um J J <| Wn <| aG <| ⟨i + 1, ⟨J, J, J, J, trivial⟩, trivial, ⟨om, rI ha om h16⟩, by show ns.length - (i + 1) < ns.length - i; omega⟩
 refine Wn <| bS J <| Rg 2 J <| Um J J <| Ua J J <| Nk [4] J <| aL <| aJ <| bC <| aJ <| post (n := 0) (.inr J) J ?_ (by first | (simp [-fZ]; done) | simp)
 exact congrArg (fun z => LV.v (.int .i64 z)) (qG ha om h16).symm
theorem con1_run (k : Nat) (ns : List NM) (g : FuncId) (cap : List LV) (p : NM → Bool) (hcap : ∀ c, c ∈ cap → Go.Ab.Data c) (ln : ns.length < 4611686018427387904) (hp : ∀ a, a ∈ ns → Run Tryz.prog T E0 (.call g ([lvM a] ++ cap) (.v (.bool (p a))))) : Run Tryz.prog T E0 (.call 102 [.sl k (ns.map mc), .fn (.func g) [] cap] (.v (.bool (ns.any p)))) := by
 refine bA Tryz.func102 J J (cU J) <| Rg 1 J <| Ua J J <| Wn <| Rg 5 J <| Um J J <| Um J J <| aA (aM J (idx1_run k ns g cap p hcap ln hp) (by simpa [-fZ] using hcap)) J <| aA (fD J J) J <| Ua J J <| Wn <| aL <| post (n := 0) (.inr J) J ?_ (by first | (simp [-fZ]; done) | simp)
 exact congrArg (fun z => LV.v (.bool z)) (kI p ns)
theorem oC (k : Nat) (ns : List NM) (ln : ns.length < 1099511627776) (hI : IV ns) (h0 : ∀ a, a ∈ ns → a.2 ≠ 0) : Run Tryz.prog T E0 (.call 62 [.sl k (ns.map mc)] (.sl (kd (ns.map nx).length) ((ns.map nx).map xc))) := by
 refine bA Tryz.func62 J J (cU J) <| Rg 1 J <| Ua J J <| Wn <| Rg 1 J <| Ua J J <| Wn <| aB <| Rg 3 J <| Um J J <| aA (aU J J) J <| Um J J <| Wn <| aK <| aZ (α := Nat × Nat × (List X)) (fun ⟨i, q, ds⟩ => [(3, outV q 4 (ds.map xc)), (6, .sl k (ns.map mc)), (7, .v (.int .i64 (ns.length : Int))), (8, .v (.int .i64 (i : Int)))]) (fun ⟨i, q, ds⟩ => outH q 4 103 (ds.map xc) []) (fun ⟨i, q, ds⟩ n => i ≤ ns.length ∧ ds = (ns.take i).map nx ∧ ds.length = i ∧ q < n) (fun ⟨i, q, ds⟩ => ns.length - i) (0, 0, []) ⟨J, J, J, J, trivial⟩ trivial ⟨Nat.zero_le _, by simp, rfl, om⟩ ?_
 rintro ⟨i, q, ds⟩ n hF
 change WC _ _ _ _ _ (_ :: _) (outH _ _ _ _ _) n _
 obtain ⟨hi, hds, hdl, hq⟩ := hF
 refine Rg 1 J <| aA (bP J J) J <| aV (fun h9 => ?_) (fun h9 => ?_)
 rotate_left
 ·refine Wn <| aS J <| aX <| aP <| aR J <| Rg 2 J <| Um J J <| Ua J J <| Wn <| aL ?_
  rw [List.take_of_length_le om] at hds
  rw [← hds, ← outR_kd]
  exact jU (n := 0) (.inr J) J (by decide) (gB (n := 4) (fun _ => rfl)) (bL dxc)
 refine Wn <| aO J <| aD <| aK <| Rg 4 J <| aA (bQ J J J J J om J) J <| aA (cW (l := .agg [_, _]) J J J) J <| bE (eM J) J <| bB (cM (cs' := [_, _]) J J J g0 J J J J) <| cL ?_
 have hm := bN (us := ns) (i := i) om
 refine aH (z := 6) J <| Um J J <| aA (aN (l := .agg [_, _]) J J g0 J J) J <| aA (aM J (mV (ns.getD i default) (hI _ hm).1 (hI _ hm).2 (h0 _ hm)) (by first | (simp [-fZ]; done) | simp)) J <| aA (cP (cs := [_, _, _, _]) (rows := [[_, _, _, _]]) J J (by decide) J J J) J <| kD (outH q 4 103 ((ds).map xc) []) (Hp.le_skip (lE om J) (Hp.le_skip (lE om J) (Hp.le_refl _))) <| cS (te := ti103) (f := xc) (q := q) (us := ds) (u := (nx (ns.getD i default))) J J J J J (fun _ => rfl) (by decide) (by show (2 * (ds.length + 1) + 256) * 64 ≤ _; omega) om J J J <| Ua J J <| Wn <| aF <| aH (z := 2) J <| aA (cI (((i + 1 : Nat) : Int)) (aQ J J om) om) J <| Um J J <| Wn <| aG <| ⟨⟨i + 1, _, ds ++ [nx (ns.getD i default)]⟩, ⟨J, J, J, J, trivial⟩, cO, ⟨om, by rw [rT om, hds], by simp; omega, om⟩, by show ns.length - (i + 1) < ns.length - i; omega⟩
theorem qall_run (k : Nat) (ns : List NM) (hI : IV ns) (ln : ns.length < 1099511627776) : Run Tryz.prog T E0 (.call 41 [.sl k (ns.map mc)] (.v (.bool (ns.all vn)))) := by
 refine bA Tryz.func41 J J (cU J) <| Rg 1 J <| Ua J J <| Wn <| aB <| Rg 3 J <| Um J J <| aA (aU J J) J <| Um J J <| Wn <| aK <| aZ (α := Nat) (fun i => [(5, .sl k (ns.map mc)), (6, .v (.int .i64 (ns.length : Int))), (7, .v (.int .i64 (i : Int)))]) (fun i => []) (fun i n => i ≤ ns.length ∧ (ns.take i).all vn = true) (fun i => ns.length - i) (0) ⟨J, J, J, trivial⟩ trivial ⟨Nat.zero_le _, by simp⟩ ?_
 rintro i n hF
 change WC _ _ _ _ _ (_ :: _) ([]) n _
 obtain ⟨hi, ha⟩ := hF
 refine Rg 1 J <| aA (bP J J) J <| aV (fun h8 => ?_) (fun h8 => ?_)
 rotate_left
 ·refine Wn <| aS J <| aX <| aP <| aR J <| Rg 1 J <| Ua J J <| Wn <| aL <| post (n := 0) (.inr J) J ?_ (by first | (simp [-fZ]; done) | simp)
  exact congrArg (fun z => LV.v (.bool z)) ((fY ha om).symm)
 refine Wn <| aO J <| aD <| aK <| Rg 4 J <| aA (bQ J J J J J om J) J <| aA (cW (l := .agg [_, _]) J J J) J <| bE (eM J) J <| bB (cM (cs' := [_, _]) J J J g0 J J J J) <| cL ?_
 have hm := bN (us := ns) (i := i) om
 refine Rg 3 J <| aA (aN (l := .agg [_, _]) J J g0 J J) J <| aA (bG (b := .v (.bool (vn (ns.getD i default)))) (aM J (iS (ns.getD i default) (hI _ hm).1 (hI _ hm).2) (by first | (simp [-fZ]; done) | simp)) J) J <| dB (fun h12 => ?_) (fun h12 => ?_)
 ·refine aA (cY J) J <| Wn <| bV J <| bZ <| aF <| aH (z := 2) J <| aA (cI (((i + 1 : Nat) : Int)) (aQ J J om) om) J <| Um J J <| Wn <| aG <| ⟨i + 1, ⟨J, J, J, trivial⟩, trivial, ⟨om, fG ha om h12⟩, by show ns.length - (i + 1) < ns.length - i; omega⟩
 refine aA (cY J) J <| Wn <| bS J <| Rg 1 J <| Ua J J <| Wn <| aL <| aJ <| bC <| aJ <| post (n := 0) (.inr J) J ?_ (by first | (simp [-fZ]; done) | simp)
 exact congrArg (fun z => LV.v (.bool z)) ((nM (i := i) om h12).symm)
end Go.Proofs.YtcblgjaomljikaaGreat
set_option maxHeartbeats 8000000
namespace Go.Proofs.YtcblgjaomljikaaGreat
open Go.Ab Go.RowKit
theorem rsub_run (x y : X) (hx : Bd 34359738368 x.1) (hy : Bd 34359738368 y.1) : Run Tryz.prog T E0 (.call 122 [lvX x, lvX y] (lvX (xadd x (xneg y)))) := by
 refine bA Tryz.func122 J J (cU J) <| Rg 3 J <| bE (dO J J) J <| bE (dO J J) J <| bE (eM J) J <| Wn <| bO (z := 5) J kR <| aI (aN (l := lvX x) J J (by repeat (first | exact g0 | refine g1 (by decide) ?_)) J J) J ?_
 refine aI (aN (l := lvX y) J J (by repeat (first | exact g0 | refine g1 (by decide) ?_)) J J) J ?_
 refine aI (aM J (rneg_run y) dD) J <| aI (aM J (qZ x (xneg y) (hx.mono (by decide)) (hy.neg.mono (by decide))) dD) J <| cV (cM (cs' := xc (xadd x (xneg y))) J J J (by repeat (first | exact g0 | refine g1 (by decide) ?_)) J J J J) ?_
 refine bK (aT kR) J <| aL <| post (n := 0) (.inr J) J ?_ dD
 rfl
theorem rcmp_run (x y : X) (hx : Bd 34359738368 x.1) (hy : Bd 34359738368 y.1) : Run Tryz.prog T E0 (.call 121 [lvX x, lvX y] (.v (.int .i64 (x.1 - y.1).num.sign))) := by
 refine bA Tryz.func121 J J (cU J) <| Rg 3 J <| bE (dO J J) J <| bE (dO J J) J <| Ua J J <| Wn <| Rg 5 J <| aA (aN (l := lvX x) J J (by repeat (first | exact g0 | refine g1 (by decide) ?_)) J J) J ?_
 refine aA (aN (l := lvX y) J J (by repeat (first | exact g0 | refine g1 (by decide) ?_)) J J) J ?_
 refine aA (aM J (rsub_run x y hx hy) dD) J <| aA (bG (b := .v (.int .i64 (x.1 - y.1).num.sign)) (aM J (rsign_run (xadd x (xneg y))) dD) (by rw [show (xadd x (xneg y)).1 = x.1 - y.1 from (Rat.sub_eq_add_neg _ _).symm])) J <| Ua J J <| Wn <| aL <| post (n := 0) (.inr J) J ?_ dD
 rfl
theorem mchoice_run (m : Nat) (c : CH) (hI : IC c) (hm : m < 1000000) : Run Tryz.prog T E0 (.call 135 [.v (.int .i64 (m : Int)), lvC c] (.v (.bool (VC m c)))) := by
 refine bA Tryz.func135 J J (cU J) <| Rg 2 J <| bE (dO J J) J <| Ua J J <| Wn <| aB <| Rg 16 J <| aA (bD J J J J J) J <| aA (aN (l := lvM c.1) J J (by repeat (first | exact g0 | refine g1 (by decide) ?_)) J J) J ?_
 refine aA (aM J (lV c.1 hI.1 hI.2.1) dD) J <| dB (fun h11 => ?_) (fun h11 => ?_)
 rotate_left
 ·refine aA (cY J) J <| Um J J <| K1 J J <| K1 J J <| K1 J J <| K1 J J <| aA (bI J J) J <| Um J J <| K1 J J <| K1 J J <| K1 J J <| K1 J J <| aA (bI J J) J <| Nk [0,3,24] J <| aO J <| aB <| Rg 1 J <| Ua J J <| Wn <| aW <| post (n := 0) (.inr J) J ?_ dD
  exact congrArg (fun z => LV.v (.bool z)) (show false = VC m c from (VC_no1 h11).symm)
 refine aA (cY J) J <| Um J J <| aE J (bD J J J J J) J <| aE J (aN J J (by repeat (first | exact g0 | refine g1 (by decide) ?_)) J J) J ?_
 refine aE J (aU J J) J <| aE J (bP J J) J <| aV (fun h17 => ?_) (fun h17 => ?_)
 ·refine aA (bF J J) J <| Um J J <| K1 J J <| K1 J J <| K1 J J <| K1 J J <| aA (bI J J) J <| Nk [0,3,24] J <| aO J <| aB <| Rg 1 J <| Ua J J <| Wn <| aW <| post (n := 0) (.inr J) J ?_ dD
  exact congrArg (fun z => LV.v (.bool z)) (show false = VC m c from (VC_no2 om).symm)
 refine aA (bF J J) J <| Um J J <| aE J (bD J J J J J) J <| aE J (aN J J (by repeat (first | exact g0 | refine g1 (by decide) ?_)) J J) J ?_
 refine aE J (aU J J) J <| aE J (dK J J) J <| aV (fun h23 => ?_) (fun h23 => ?_)
 ·refine aA (bF J J) J <| Nk [0,3,24] J <| aO J <| aB <| Rg 1 J <| Ua J J <| Wn <| aW <| post (n := 0) (.inr J) J ?_ dD
  exact congrArg (fun z => LV.v (.bool z)) (show false = VC m c from (VC_no2 om).symm)
 refine aA (bF J J) J <| Nk [0,3,24] J <| aS J <| aD <| Rg 1 J <| bE (eM J) J <| Wn <| Rg 1 J <| Ua J J <| Wn <| aB <| Rg 4 J <| aA (bD J J J J J) J <| aA (aN J J (by repeat (first | exact g0 | refine g1 (by decide) ?_)) J J) J ?_
 refine aA (aU J J) J <| Um J J <| Wn <| aK <| aZ (α := Nat × X) (fun ⟨i, s⟩ => [(0, .v (.int .i64 (m : Int))), (5, .ptr 18 0), (6, .v (.int .i64 (lastB c.2.2 i))), (26, .sl c.2.1 (c.2.2.map brc)), (27, .v (.int .i64 (c.2.2.length : Int))), (28, .v (.int .i64 (i : Int)))]) (fun ⟨i, s⟩ => [(18, { cells := xc (s), sz := 4, elem := 103, st := 0 })]) (fun ⟨i, s⟩ n => i ≤ c.2.2.length ∧ s.1 = psum c.2.2 i ∧ (∀ j, j < i → okB m c.2.2 j = true) ∧ 18 < n) (fun ⟨i, s⟩ => c.2.2.length - i) (0, x0) ⟨J, J, J, J, J, J, trivial⟩ ⟨(by repeat (first | exact g0 | refine g1 (by decide) ?_)), trivial⟩ ⟨Nat.zero_le _, rfl, fun j hj => absurd hj om, om⟩ ?_
 rintro ⟨i, s⟩ n hF
 change WC _ _ _ _ _ (_ :: _) (_ :: _) n _
 obtain ⟨hi, hs, hok, hn⟩ := hF
 refine Rg 1 J <| aA (bP J J) J <| aV (fun h29 => ?_) (fun h29 => ?_)
 rotate_left
 ·refine Wn <| aS J <| aX <| aP <| aR J ?_
  have hok' : ∀ j, j < c.2.2.length → okB m c.2.2 j = true := fun j hj => hok j om
  have hsb := iU (bs := c.2.2) i om (fun j hj => (lX (hok j hj)).1)
  have hil : i = c.2.2.length := by omega
  refine bO (z := 5) J kR <| aI (aN (l := lvX s) J J gG J J) J ?_
  refine aI (aM J (whole_run 1 (by unfold I64; omega)) dD) J <| aI (aM J (rcmp_run s (xint 1) (by rw [hs]; exact hsb.mono om) (Bd1.mono (by decide))) dD) J <| aI (bG (b := .v (.bool (decide (psum c.2.2 c.2.2.length = 1)))) (dS J J) (congrArg (fun z => LV.v (.bool z)) (decide_eq_decide.2 (by rw [show (s.1 - (xint 1).1) = psum c.2.2 c.2.2.length - 1 by rw [hs, hil]; rfl]; exact sign_one)))) J <| aI (iG J) J <| bK (aT kR) J <| aL <| post (n := 0) (.inr J) J ?_ dD
  exact congrArg (fun z => LV.v (.bool z)) (show decide (psum c.2.2 c.2.2.length = 1) = VC m c from (VC_yes h11 om om hok').symm)
 refine Wn <| aO J <| aD <| aK ?_
 have hIb := hI.2.2 _ (bN (us := c.2.2) (i := i) om)
 refine Rg 4 J <| aA (bQ J J J J J om J) J <| aA (cW (l := .agg [_, _, _]) J J J) J <| bE (eM J) J <| bB (cM (cs' := [_, _, _]) J J J gG J J J J) ?_
 refine Wn <| aB <| Rg 22 J <| aA (bD J J J J J) J <| aA (aN J J gG J J) J ?_
 refine Um J J <| aA (kA J J) J <| aV (fun h35 => ?_) (fun h35 => ?_)
 ·refine Um J J <| K1 J J <| K1 J J <| K1 J J <| K1 J J <| aA (bI J J) J <| Um J J <| K1 J J <| K1 J J <| K1 J J <| K1 J J <| aA (bI J J) J <| Um J J <| K1 J J <| K1 J J <| K1 J J <| K1 J J <| aA (bI J J) J <| Nk [0,5,8,26,27,28,37,38,39,40,43,44,45,46,49,50,51,52,53] J <| aO J <| aB <| Rg 1 J <| Ua J J ?_
  refine Nk [4] J <| aW <| aJ <| bC <| aJ <| post (n := 0) (.inr J) J ?_ dD
  exact congrArg (fun z => LV.v (.bool z)) (show false = VC m c from (hJ (i := i) om (iI (.inl om))).symm)
 refine Um J J <| aE J (bD J J J J J) J <| aE J (aN J J gG J J) J ?_
 refine aE J (dL J) J <| aE J (fD J J) J <| aV (fun h40 => ?_) (fun h40 => ?_)
 ·refine aA (bF J J) J <| Um J J <| K1 J J <| K1 J J <| K1 J J <| K1 J J <| aA (bI J J) J <| Um J J <| K1 J J <| K1 J J <| K1 J J <| K1 J J <| aA (bI J J) J <| Nk [0,5,8,26,27,28,37,38,39,40,43,44,45,46,49,50,51,52,53] J <| aO J <| aB <| Rg 1 J <| Ua J J <| Nk [4] J <| aW <| aJ <| bC ?_
  refine aJ <| post (n := 0) (.inr J) J ?_ dD
  exact congrArg (fun z => LV.v (.bool z)) (show false = VC m c from (hJ (i := i) om (iI (.inr (.inl om)))).symm)
 refine aA (bF J J) J <| Um J J <| aE J (bD J J J J J) J <| aE J (aN (l := lvM (c.2.2.getD i default).2) J J gG J J) J ?_
 refine aE J (aM J (lV (c.2.2.getD i default).2 hIb.2.1 hIb.2.2) dD) J <| dB (fun h45 => ?_) (fun h45 => ?_)
 rotate_left
 ·refine aE J (cY J) J <| aA (bF J J) J <| Um J J <| K1 J J <| K1 J J <| K1 J J <| K1 J J <| aA (bI J J) J <| Nk [0,5,8,26,27,28,37,38,39,40,43,44,45,46,49,50,51,52,53] J <| aO J <| aB <| Rg 1 J <| Ua J J <| Nk [4] J <| aW <| aJ <| bC <| aJ <| post (n := 0) (.inr J) J ?_ dD
  exact congrArg (fun z => LV.v (.bool z)) (show false = VC m c from (hJ (i := i) om (iI (.inr (.inr (.inl h45))))).symm)
 refine aE J (cY J) J <| aA (bF J J) J <| Um J J <| aE J (bD J J J J J) J <| aE J (bD J J J J J) J <| aE J (aN J J gG J J) J ?_
 refine aE J (kA J J) J <| aV (fun h52 => ?_) (fun h52 => ?_)
 ·refine aA (bF J J) J <| Nk [0,5,8,26,27,28,37,38,39,40,43,44,45,46,49,50,51,52,53] J <| aO J <| aB <| Rg 1 J <| Ua J J <| Nk [4] J <| aW <| aJ <| bC <| aJ <| post (n := 0) (.inr J) J ?_ dD
  exact congrArg (fun z => LV.v (.bool z)) (show false = VC m c from (hJ (i := i) om (iI (.inr (.inr (.inr om))))).symm)
 refine aA (bF J J) J <| Nk [0,5,8,26,27,28,37,38,39,40,43,44,45,46,49,50,51,52,53] J <| aS J <| aD ?_
 have hvb : VN (c.2.2.getD i default).2 := of_decide_eq_true h45
 have hokI : okB m c.2.2 i = true := okB_yes om om h45 om
 have hsb := iU (bs := c.2.2) i om (fun j hj => (lX (hok j hj)).1)
 refine Rg 3 J <| aA (bD J J J J J) J <| aA (aN J J gG J J) J ?_
 refine Ua J J <| Nk [0,5,6,8,26,27,28,37,38,39,40,43,44,45,46,49,50,51,52] J <| dT (z := 6) J kR <| aI (aN (l := lvX s) J J gG J J) J ?_
 refine aI (bD J J J J J) J <| aI (aN (l := lvM (c.2.2.getD i default).2) J J gG J J) J ?_
 refine aI (bG (b := lvX (nx (c.2.2.getD i default).2)) (aM J (mV (c.2.2.getD i default).2 hIb.2.1 hIb.2.2 (by have := hvb.1; omega)) dD) J) J <| aI (aM J (qZ s (nx (c.2.2.getD i default).2) (by rw [hs]; exact hsb.mono om) (hvb.bd.mono (by decide))) dD) J <| cV (cM (cs' := xc (xadd s (nx (c.2.2.getD i default).2))) J J J gG J J J J) ?_
 refine bK (aT kR) J <| aF <| Ck [0,5,6,26,27,28,37,38,39,40,43,44,45,46,49,50,51,52] J <| aH (z := 2) J <| aA (cI (((i + 1 : Nat) : Int)) (aQ J J om) om) J <| Um J J <| Wn <| aG <| ⟨⟨i + 1, xadd s (nx (c.2.2.getD i default).2)⟩, ⟨J, J, J, J, J, J, trivial⟩, ⟨gG, trivial⟩, ⟨om, by rw [psum, ← hs]; rfl, fun j hj => ?_, om⟩, by show c.2.2.length - (i + 1) < c.2.2.length - i; omega⟩
 by_cases e : j = i
 ·rw [e]; exact hokI
 ·exact hok j om
end Go.Proofs.YtcblgjaomljikaaGreat
namespace Go.Proofs.YtcblgjaomljikaaGreat
open Go.Ab Go.RowKit
theorem qchoice_run (m : Nat) (c : CH) (hI : IC c) (hm : m < 1000000) : Run Tryz.prog T E0 (.call 99 [lvC c, .v (.int .i64 (m : Int))] (.v (.bool (VC m c)))) := by
 refine bA Tryz.func99 J J (cU J) <| Rg 2 J <| bE (dO J J) J <| Ua J J <| Wn <| aB <| Rg 16 J <| aA (bD J J J J J) J <| aA (aN (l := lvM c.1) J J (by repeat (first | exact g0 | refine g1 (by decide) ?_)) J J) J ?_
 refine aA (aM J (iS c.1 hI.1 hI.2.1) dD) J <| dB (fun h10 => ?_) (fun h10 => ?_)
 rotate_left
 ·refine aA (cY J) J <| Um J J <| K1 J J <| K1 J J <| K1 J J <| K1 J J <| aA (bI J J) J <| Um J J <| K1 J J <| K1 J J <| K1 J J <| K1 J J <| aA (bI J J) J <| Nk [1,2,23] J <| aO J <| aB <| Rg 1 J <| Ua J J <| Wn <| aW <| post (n := 0) (.inr J) J ?_ dD
  exact congrArg (fun z => LV.v (.bool z)) (show false = VC m c from (VC_no1 h10).symm)
 refine aA (cY J) J <| Um J J <| aE J (bD J J J J J) J <| aE J (aN J J (by repeat (first | exact g0 | refine g1 (by decide) ?_)) J J) J ?_
 refine aE J (aU J J) J <| aE J (bP J J) J <| aV (fun h16 => ?_) (fun h16 => ?_)
 ·refine aA (bF J J) J <| Um J J <| K1 J J <| K1 J J <| K1 J J <| K1 J J <| aA (bI J J) J <| Nk [1,2,23] J <| aO J <| aB <| Rg 1 J <| Ua J J <| Wn <| aW <| post (n := 0) (.inr J) J ?_ dD
  exact congrArg (fun z => LV.v (.bool z)) (show false = VC m c from (VC_no2 om).symm)
 refine aA (bF J J) J <| Um J J <| aE J (bD J J J J J) J <| aE J (aN J J (by repeat (first | exact g0 | refine g1 (by decide) ?_)) J J) J ?_
 refine aE J (aU J J) J <| aE J (dK J J) J <| aV (fun h22 => ?_) (fun h22 => ?_)
 ·refine aA (bF J J) J <| Nk [1,2,23] J <| aO J <| aB <| Rg 1 J <| Ua J J <| Wn <| aW <| post (n := 0) (.inr J) J ?_ dD
  exact congrArg (fun z => LV.v (.bool z)) (show false = VC m c from (VC_no2 om).symm)
 refine aA (bF J J) J <| Nk [1,2,23] J <| aS J <| aD <| Rg 3 J <| aA (bG (b := lvQ 0) (aM J (lW 0 (by unfold I64; omega)) dD) J) J <| bE (eM J) J <| bB (cM (cs' := qc 0) J J J g0 J J J J) <| Wn <| aB <| Rg 4 J <| aA (bD J J J J J) J <| aA (aN J J (by repeat (first | exact g0 | refine g1 (by decide) ?_)) J J) J ?_
 refine aA (aU J J) J <| Um J J <| Wn <| aK <| aZ (α := Nat × Rat) (fun ⟨i, s⟩ => [(1, .v (.int .i64 (m : Int))), (2, .ptr 0 0), (5, .ptr 19 0), (26, .sl c.2.1 (c.2.2.map brc)), (27, .v (.int .i64 (c.2.2.length : Int))), (28, .v (.int .i64 (i : Int)))]) (fun ⟨i, s⟩ => [(19, { cells := qc (s), sz := 6, elem := 64, st := 0 }), (0, { cells := chc c, sz := 3, elem := (87), st := 0 })]) (fun ⟨i, s⟩ n => i ≤ c.2.2.length ∧ s = psum c.2.2 i ∧ (∀ j, j < i → okB m c.2.2 j = true) ∧ 19 < n) (fun ⟨i, s⟩ => c.2.2.length - i) (0, 0) ⟨J, J, J, J, J, J, trivial⟩ ⟨(by repeat (first | exact g0 | refine g1 (by decide) ?_)), (by repeat (first | exact g0 | refine g1 (by decide) ?_)), trivial⟩ ⟨Nat.zero_le _, rfl, fun j hj => absurd hj om, om⟩ ?_
 rintro ⟨i, s⟩ n hF
 change WC _ _ _ _ _ (_ :: _) (_ :: _) n _
 obtain ⟨hi, hs, hok, hn⟩ := hF
 refine Rg 1 J <| aA (bP J J) J <| aV (fun h29 => ?_) (fun h29 => ?_)
 rotate_left
 ·refine Wn <| aS J <| aX <| aP <| aR J ?_
  have hok' : ∀ j, j < c.2.2.length → okB m c.2.2 j = true := fun j hj => hok j om
  have hsb := iU (bs := c.2.2) i om (fun j hj => (lX (hok j hj)).1)
  have hil : i = c.2.2.length := by omega
  refine bO (z := 5) J kR <| aI (aN (l := lvQ s) J J gG J J) J ?_
  refine aI (bG (b := lvQ 1) (aM J (lW 1 (by unfold I64; omega)) dD) J) J <| aI (aM J (nrcmp_run s 1 (by rw [hs]; exact hsb.mono om) (Bd1.mono (by decide))) dD) J <| aI (bG (b := .v (.bool (decide (psum c.2.2 c.2.2.length = 1)))) (dS J J) (congrArg (fun z => LV.v (.bool z)) (decide_eq_decide.2 (by rw [hs, hil]; exact sign_one)))) J <| aI (iG J) J <| bK (aT kR) J <| aL <| post (n := 0) (.inr J) J ?_ dD
  exact congrArg (fun z => LV.v (.bool z)) (show decide (psum c.2.2 c.2.2.length = 1) = VC m c from (VC_yes h10 om om hok').symm)
 refine Wn <| aO J <| aD <| aK ?_
 have hIb := hI.2.2 _ (bN (us := c.2.2) (i := i) om)
 have hlo := okB_lo i hok
 have hl0 : 0 < i → lastB c.2.2 i = (c.2.2.getD (i - 1) default).1 := lastB_pos
 have hl1 : ¬ 0 < i → lastB c.2.2 i = -1 := fun h => by rw [show i = 0 by omega]; rfl
 refine Rg 6 J <| Um J J <| aA (bQ J J J J J om J) J <| aA (cW (l := .agg [_, _, _]) J J J) J <| bE (eM J) J <| Ua J J <| bB (cM (cs' := [_, _, _]) J J J gG J J J J) ?_
 refine Wn <| aB <| bO (z := 37) J kR <| aI (bD J J J J J) J <| aI (aN J J gG J J) J ?_
 refine aI (bP J J) J <| kC (fun h35 => ?_) (fun h35 => ?_)
 ·refine Dm J J <| bX J J <| bX J J <| bX J J <| bX J J <| aI (bI J J) J <| Dm J J <| bX J J <| bX J J <| bX J J <| bX J J <| bX J J <| bX J J <| bX J J <| bX J J <| bX J J <| bX J J <| bX J J <| bX J J <| bX J J <| bX J J <| aI (bI J J) J <| Dm J J <| bX J J ?_
  refine bX J J <| bX J J <| bX J J <| aI (bI J J) J <| Dm J J <| bX J J <| bX J J <| bX J J <| bX J J <| aI (bI J J) J <| bK (aT kR) J <| Ck [1,2,5,7,26,27,28,37,38,39,40,43,44,45,46,47,48,49,50,51,52,53,54,55,56,59,60,61,62,65,66,67,68,69] J <| aO J <| aB <| Rg 1 J <| Ua J J <| Nk [4] J <| aW <| aJ <| bC <| aJ <| post (n := 0) (.inr J) J ?_ dD
  exact congrArg (fun z => LV.v (.bool z)) (show false = VC m c from (hJ (i := i) om (iI (.inl om))).symm)
 refine Dm J J <| cA J (bD J J J J J) J <| cA J (aN J J gG J J) J ?_
 refine cA J (dL J) J <| cA J (fD J J) J <| kC (fun h40 => ?_) (fun h40 => ?_)
 ·refine aI (bF J J) J <| Dm J J <| bX J J <| bX J J <| bX J J <| bX J J <| bX J J <| bX J J <| bX J J <| bX J J <| bX J J <| bX J J <| bX J J <| bX J J <| bX J J <| bX J J <| aI (bI J J) J <| Dm J J <| bX J J <| bX J J <| bX J J <| bX J J <| aI (bI J J) J <| Dm J J ?_
  refine bX J J <| bX J J <| bX J J <| bX J J <| aI (bI J J) J <| bK (aT kR) J <| Ck [1,2,5,7,26,27,28,37,38,39,40,43,44,45,46,47,48,49,50,51,52,53,54,55,56,59,60,61,62,65,66,67,68,69] J <| aO J <| aB <| Rg 1 J <| Ua J J <| Nk [4] J <| aW <| aJ <| bC <| aJ <| post (n := 0) (.inr J) J ?_ dD
  exact congrArg (fun z => LV.v (.bool z)) (show false = VC m c from (hJ (i := i) om (iI (.inr (.inl om)))).symm)
 refine aI (bF J J) J <| Dm J J <| cA J (dL J) J <| cA J (dK J J) J <| kC (fun h44 => ?_) (fun h44 => ?_)
 rotate_left
 ·refine cA J (dL J) J <| bX J J <| bX J J <| bX J J <| bX J J <| bX J J <| bX J J <| bX J J <| bX J J <| bX J J <| bX J J <| cA J (bF J J) J <| aI (bF J J) J <| Dm J J <| cA J (bD J J J J J) J <| cA J (aN (l := lvM (c.2.2.getD i default).2) J J gG J J) J ?_
  refine cA J (aM J (iS (c.2.2.getD i default).2 hIb.2.1 hIb.2.2) dD) J <| WD.B (fun h61 => ?_) (fun h61 => ?_)
  rotate_left
  ·refine cA J (cY J) J <| aI (bF J J) J <| Dm J J <| bX J J <| bX J J <| bX J J <| bX J J <| aI (bI J J) J <| bK (aT kR) J <| Ck [1,2,5,7,26,27,28,37,38,39,40,43,44,45,46,47,48,49,50,51,52,53,54,55,56,59,60,61,62,65,66,67,68,69] J <| aO J <| aB <| Rg 1 J <| Ua J J <| Nk [4] J <| aW <| aJ <| bC <| aJ <| post (n := 0) (.inr J) J ?_ dD
   exact congrArg (fun z => LV.v (.bool z)) (show false = VC m c from (hJ (i := i) om (iI (.inr (.inr (.inl h61))))).symm)
  refine cA J (cY J) J <| aI (bF J J) J <| Dm J J <| cA J (bD J J J J J) J <| cA J (bD J J J J J) J <| cA J (aN J J gG J J) J ?_
  refine cA J (kA J J) J <| kC (fun h68 => ?_) (fun h68 => ?_)
  ·refine aI (bF J J) J <| bK (aT kR) J <| Ck [1,2,5,7,26,27,28,37,38,39,40,43,44,45,46,47,48,49,50,51,52,53,54,55,56,59,60,61,62,65,66,67,68,69] J <| aO J <| aB <| Rg 1 J <| Ua J J <| Nk [4] J <| aW <| aJ <| bC <| aJ <| post (n := 0) (.inr J) J ?_ dD
   exact congrArg (fun z => LV.v (.bool z)) (show false = VC m c from (hJ (i := i) om (iI (.inr (.inr (.inr om))))).symm)
  refine aI (bF J J) J <| bK (aT kR) J <| Ck [1,2,5,7,26,27,28,37,38,39,40,43,44,45,46,47,48,49,50,51,52,53,54,55,56,59,60,61,62,65,66,67,68,69] J <| aS J <| aD ?_
  have hvb : VN (c.2.2.getD i default).2 := of_decide_eq_true h61
  have hokI : okB m c.2.2 i = true := okB_yes om om h61 om
  have hsb := iU (bs := c.2.2) i om (fun j hj => (lX (hok j hj)).1)
  refine dT (z := 6) J kR <| aI (aN (l := lvQ s) J J gG J J) J ?_
  refine aI (bD J J J J J) J <| aI (aN (l := lvM (c.2.2.getD i default).2) J J gG J J) J ?_
  refine aI (bG (b := lvQ (nq (c.2.2.getD i default).2)) (aM J (pT (c.2.2.getD i default).2 hIb.2.1 hIb.2.2 hvb) dD) J) J <| aI (aM J (lC s (nq (c.2.2.getD i default).2) (by rw [hs]; exact hsb.mono om) (hvb.bd.mono (by decide))) dD) J <| cV (cM (cs' := qc (s + nq (c.2.2.getD i default).2)) J J J gG J J J J) ?_
  refine bK (aT kR) J <| aF <| Ck [1,2,5,26,27,28,37,38,39,40,43,44,45,46,47,48,49,50,51,52,53,54,55,56,59,60,61,62,65,66,67,68] J <| aH (z := 2) J <| aA (cI (((i + 1 : Nat) : Int)) (aQ J J om) om) J <| Um J J <| Wn <| aG <| ⟨⟨i + 1, s + nq (c.2.2.getD i default).2⟩, ⟨J, J, J, J, J, J, trivial⟩, ⟨gG, gG, trivial⟩, ⟨om, by rw [psum, ← hs], fun j hj => ?_, om⟩, by show c.2.2.length - (i + 1) < c.2.2.length - i; omega⟩
  by_cases e : j = i
  ·rw [e]; exact hokI
  ·exact hok j om
 refine cA J (dL J) J <| cA J (bD J J J J J) J <| cA J (aN J J gG J J) J ?_
 refine cA J (bD J J J J J) J <| cA J (aN J J gG J J) J ?_
 refine cA J (dL J) J <| cA J (cI (((i - 1 : Nat) : Int)) (bT J J om) om) J <| cA J (bQ (j := i - 1) J J J J om om J) J <| cA J (oFa J J J J J) J <| cA J (cW J J J) J <| cA J (kA J J) J <| kC (fun h55 => ?_) (fun h55 => ?_)
 ·refine cA J (bI J J) J <| aI (bF J J) J <| Dm J J <| bX J J <| bX J J <| bX J J <| bX J J <| aI (bI J J) J <| Dm J J <| bX J J <| bX J J <| bX J J <| bX J J <| aI (bI J J) J <| bK (aT kR) J <| Ck [1,2,5,7,26,27,28,37,38,39,40,43,44,45,46,47,48,49,50,51,52,53,54,55,56,59,60,61,62,65,66,67,68,69] J <| aO J <| aB <| Rg 1 J <| Ua J J <| Nk [4] J <| aW <| aJ ?_
  refine bC <| aJ <| post (n := 0) (.inr J) J ?_ dD
  exact congrArg (fun z => LV.v (.bool z)) (show false = VC m c from (hJ (i := i) om (iI (.inl (by rw [hl0 om]; omega)))).symm)
 refine cA J (bI J J) J <| aI (bF J J) J <| Dm J J <| cA J (bD J J J J J) J <| cA J (aN (l := lvM (c.2.2.getD i default).2) J J gG J J) J ?_
 refine cA J (aM J (iS (c.2.2.getD i default).2 hIb.2.1 hIb.2.2) dD) J <| WD.B (fun h61 => ?_) (fun h61 => ?_)
 rotate_left
 ·refine cA J (cY J) J <| aI (bF J J) J <| Dm J J <| bX J J <| bX J J <| bX J J <| bX J J <| aI (bI J J) J <| bK (aT kR) J <| Ck [1,2,5,7,26,27,28,37,38,39,40,43,44,45,46,47,48,49,50,51,52,53,54,55,56,59,60,61,62,65,66,67,68,69] J <| aO J <| aB <| Rg 1 J <| Ua J J <| Nk [4] J <| aW <| aJ <| bC <| aJ <| post (n := 0) (.inr J) J ?_ dD
  exact congrArg (fun z => LV.v (.bool z)) (show false = VC m c from (hJ (i := i) om (iI (.inr (.inr (.inl h61))))).symm)
 refine cA J (cY J) J <| aI (bF J J) J <| Dm J J <| cA J (bD J J J J J) J <| cA J (bD J J J J J) J <| cA J (aN J J gG J J) J ?_
 refine cA J (kA J J) J <| kC (fun h68 => ?_) (fun h68 => ?_)
 ·refine aI (bF J J) J <| bK (aT kR) J <| Ck [1,2,5,7,26,27,28,37,38,39,40,43,44,45,46,47,48,49,50,51,52,53,54,55,56,59,60,61,62,65,66,67,68,69] J <| aO J <| aB <| Rg 1 J <| Ua J J <| Nk [4] J <| aW <| aJ <| bC <| aJ <| post (n := 0) (.inr J) J ?_ dD
  exact congrArg (fun z => LV.v (.bool z)) (show false = VC m c from (hJ (i := i) om (iI (.inr (.inr (.inr om))))).symm)
 refine aI (bF J J) J <| bK (aT kR) J <| Ck [1,2,5,7,26,27,28,37,38,39,40,43,44,45,46,47,48,49,50,51,52,53,54,55,56,59,60,61,62,65,66,67,68,69] J <| aS J <| aD ?_
 have hvb : VN (c.2.2.getD i default).2 := of_decide_eq_true h61
 have hokI : okB m c.2.2 i = true := okB_yes om om h61 om
 have hsb := iU (bs := c.2.2) i om (fun j hj => (lX (hok j hj)).1)
 refine dT (z := 6) J kR <| aI (aN (l := lvQ s) J J gG J J) J ?_
 refine aI (bD J J J J J) J <| aI (aN (l := lvM (c.2.2.getD i default).2) J J gG J J) J ?_
 refine aI (bG (b := lvQ (nq (c.2.2.getD i default).2)) (aM J (pT (c.2.2.getD i default).2 hIb.2.1 hIb.2.2 hvb) dD) J) J <| aI (aM J (lC s (nq (c.2.2.getD i default).2) (by rw [hs]; exact hsb.mono om) (hvb.bd.mono (by decide))) dD) J <| cV (cM (cs' := qc (s + nq (c.2.2.getD i default).2)) J J J gG J J J J) ?_
 refine bK (aT kR) J <| aF <| Ck [1,2,5,26,27,28,37,38,39,40,43,44,45,46,47,48,49,50,51,52,53,54,55,56,59,60,61,62,65,66,67,68] J <| aH (z := 2) J <| aA (cI (((i + 1 : Nat) : Int)) (aQ J J om) om) J <| Um J J <| Wn <| aG <| ⟨⟨i + 1, s + nq (c.2.2.getD i default).2⟩, ⟨J, J, J, J, J, J, trivial⟩, ⟨gG, gG, trivial⟩, ⟨om, by rw [psum, ← hs], fun j hj => ?_, om⟩, by show c.2.2.length - (i + 1) < c.2.2.length - i; omega⟩
 by_cases e : j = i
 ·rw [e]; exact hokI
 ·exact hok j om
theorem mvmodel_run (k : Nat) (ss : List ST) (hI : ∀ s, s ∈ ss → IS s) : Run Tryz.prog T E0 (.call 100 [lvMo k ss] (.v (.bool (VMo ss)))) := by
 refine bA Tryz.func100 J J (cU J) <| Rg 2 J <| bE (dO J J) J <| Ua J J <| Wn <| Rg 4 J <| aA (bD J J J J J) J <| aA (aN J J (by repeat (first | exact g0 | refine g1 (by decide) ?_)) J J) J ?_
 refine aA (aU J J) J <| Ua J J <| Wn <| aB <| Rg 6 J <| Um J J <| aA (bP J J) J <| aV (fun h12 => ?_) (fun h12 => ?_)
 ·refine Um J J <| K1 J J <| K1 J J <| aA (bI J J) J <| Wn <| aO J <| aB <| Rg 1 J <| Ua J J <| Wn <| aW <| post (n := 0) (.inr J) J ?_ dD
  exact congrArg (fun z => LV.v (.bool z)) (show false = VMo ss from (VMo_no om).symm)
 refine Um J J <| aE J (dL J) J <| aE J (dK J J) J <| aV (fun h15 => ?_) (fun h15 => ?_)
 ·refine aA (bF J J) J <| Wn <| aO J <| aB <| Rg 1 J <| Ua J J <| Wn <| aW <| post (n := 0) (.inr J) J ?_ dD
  exact congrArg (fun z => LV.v (.bool z)) (show false = VMo ss from (VMo_no om).symm)
 refine aA (bF J J) J <| Wn <| aS J <| aD <| aB <| Rg 4 J <| aA (bD J J J J J) J <| aA (aN J J (by repeat (first | exact g0 | refine g1 (by decide) ?_)) J J) J ?_
 refine aA (aU J J) J <| Um J J <| Nk [3,18,19,20] J <| aK <| aZ (α := Nat) (fun i => [(3, .v (.int .i64 (ss.length : Int))), (18, .sl k (ss.map stc)), (19, .v (.int .i64 (ss.length : Int))), (20, .v (.int .i64 (i : Int)))]) (fun i => []) (fun i n => i ≤ ss.length ∧ (ss.take i).all (VS ss.length) = true ∧ 0 < n) (fun i => ss.length - i) (0) ⟨J, J, J, J, trivial⟩ trivial ⟨Nat.zero_le _, by simp, om⟩ ?_
 rintro i n hF
 change WC _ _ _ _ _ (_ :: _) ([]) n _
 obtain ⟨hi, ha, hn0⟩ := hF
 refine Rg 1 J <| aA (bP J J) J <| aV (fun h21 => ?_) (fun h21 => ?_)
 rotate_left
 ·refine Wn <| aS J <| aX <| aP <| aR J <| Rg 1 J <| Ua J J <| Wn <| aL <| post (n := 0) (.inr J) J ?_ dD
  exact congrArg (fun z => LV.v (.bool z)) (show true = VMo ss from (VMo_yes om om (fY ha om)).symm)
 refine Wn <| aO J <| aD <| aK ?_
 have hIs := hI _ (bN (us := ss) (i := i) om)
 refine Rg 4 J <| aA (bQ J J J J J om J) J <| aA (cW (l := .agg [_, _, _]) J J J) J <| bE (eM J) J <| bB (cM (cs' := [_, _, _]) J J J gG J J J J) ?_
 refine Wn <| aB <| Rg 30 J <| aA (bD J J J J J) J <| aA (aN J J gG J J) J ?_
 refine aA (bP J J) J <| aV (fun h26 => ?_) (fun h26 => ?_)
 ·refine Um J J <| K1 J J <| K1 J J <| K1 J J <| aA (bI J J) J <| Um J J <| K1 J J <| K1 J J <| K1 J J <| aA (bI J J) J <| Um J J <| K1 J J <| K1 J J <| K1 J J <| aA (bI J J) J <| Um J J <| K1 J J <| K1 J J <| K1 J J <| K1 J J <| aA (bI J J) J <| Um J J <| K1 J J <| K1 J J ?_
  refine K1 J J <| K1 J J <| aA (bI J J) J <| Nk [3,5,18,19,20,28,29,30,33,34,35,38,39,40,43,44,45,46,49,50,51,52,53] J <| aO J <| aB <| Rg 1 J <| Ua J J <| Nk [2] J <| aW <| aJ <| bC <| aJ <| post (n := 0) (.inr J) J ?_ dD
  exact congrArg (fun z => LV.v (.bool z)) (show false = VMo ss from (eP (i := i) om (jZ (.inl om))).symm)
 refine Um J J <| aE J (bD J J J J J) J <| aE J (aN J J gG J J) J ?_
 refine aE J (dK J J) J <| aV (fun h30 => ?_) (fun h30 => ?_)
 ·refine aA (bF J J) J <| Um J J <| K1 J J <| K1 J J <| K1 J J <| aA (bI J J) J <| Um J J <| K1 J J <| K1 J J <| K1 J J <| aA (bI J J) J <| Um J J <| K1 J J <| K1 J J <| K1 J J <| K1 J J <| aA (bI J J) J <| Um J J <| K1 J J <| K1 J J <| K1 J J <| K1 J J <| aA (bI J J) J <| cL ?_
  refine Ck [3,5,18,19,20,28,29,30,33,34,35,38,39,40,43,44,45,46,49,50,51,52,53] J <| aO J <| aB <| Rg 1 J <| Ua J J <| Nk [2] J <| aW <| aJ <| bC <| aJ <| post (n := 0) (.inr J) J ?_ dD
  exact congrArg (fun z => LV.v (.bool z)) (show false = VMo ss from (eP (i := i) om (jZ (.inr (.inl om)))).symm)
 refine aA (bF J J) J <| Um J J <| aE J (bD J J J J J) J <| aE J (aN J J gG J J) J ?_
 refine aE J (bP J J) J <| aV (fun h35 => ?_) (fun h35 => ?_)
 ·refine aA (bF J J) J <| Um J J <| K1 J J <| K1 J J <| K1 J J <| aA (bI J J) J <| Um J J <| K1 J J <| K1 J J <| K1 J J <| K1 J J <| aA (bI J J) J <| Um J J <| K1 J J <| K1 J J <| K1 J J <| K1 J J <| aA (bI J J) J <| Nk [3,5,18,19,20,28,29,30,33,34,35,38,39,40,43,44,45,46,49,50,51,52,53] J <| aO J <| aB <| Rg 1 J <| Ua J J ?_
  refine Nk [2] J <| aW <| aJ <| bC <| aJ <| post (n := 0) (.inr J) J ?_ dD
  exact congrArg (fun z => LV.v (.bool z)) (show false = VMo ss from (eP (i := i) om (jZ (.inr (.inr (.inl om))))).symm)
 refine aA (bF J J) J <| Um J J <| aE J (bD J J J J J) J <| aE J (aN J J gG J J) J ?_
 refine aE J (dK J J) J <| aV (fun h40 => ?_) (fun h40 => ?_)
 ·refine aA (bF J J) J <| Um J J <| K1 J J <| K1 J J <| K1 J J <| K1 J J <| aA (bI J J) J <| Um J J <| K1 J J <| K1 J J <| K1 J J <| K1 J J <| aA (bI J J) J <| Nk [3,5,18,19,20,28,29,30,33,34,35,38,39,40,43,44,45,46,49,50,51,52,53] J <| aO J <| aB <| Rg 1 J <| Ua J J <| Nk [2] J <| aW <| aJ <| bC ?_
  refine aJ <| post (n := 0) (.inr J) J ?_ dD
  exact congrArg (fun z => LV.v (.bool z)) (show false = VMo ss from (eP (i := i) om (jZ (.inr (.inr (.inr (.inl om)))))).symm)
 refine aA (bF J J) J <| Um J J <| aE J (bD J J J J J) J <| aE J (aN J J gG J J) J ?_
 refine aE J (aU J J) J <| aE J (bP J J) J <| aV (fun h46 => ?_) (fun h46 => ?_)
 ·refine aA (bF J J) J <| Um J J <| K1 J J <| K1 J J <| K1 J J <| K1 J J <| aA (bI J J) J <| Nk [3,5,18,19,20,28,29,30,33,34,35,38,39,40,43,44,45,46,49,50,51,52,53] J <| aO J <| aB <| Rg 1 J <| Ua J J <| Nk [2] J <| aW <| aJ <| bC <| aJ <| post (n := 0) (.inr J) J ?_ dD
  exact congrArg (fun z => LV.v (.bool z)) (show false = VMo ss from (eP (i := i) om (jZ (.inr (.inr (.inr (.inr (.inl om))))))).symm)
 refine aA (bF J J) J <| Um J J <| aE J (bD J J J J J) J <| aE J (aN J J gG J J) J ?_
 refine aE J (aU J J) J <| aE J (dK J J) J <| aV (fun h52 => ?_) (fun h52 => ?_)
 ·refine aA (bF J J) J <| Nk [3,5,18,19,20,28,29,30,33,34,35,38,39,40,43,44,45,46,49,50,51,52,53] J <| aO J <| aB <| Rg 1 J <| Ua J J <| Nk [2] J <| aW <| aJ <| bC <| aJ <| post (n := 0) (.inr J) J ?_ dD
  exact congrArg (fun z => LV.v (.bool z)) (show false = VMo ss from (eP (i := i) om (jZ (.inr (.inr (.inr (.inr (.inr om))))))).symm)
 refine aA (bF J J) J <| Nk [3,5,18,19,20,28,29,30,33,34,35,38,39,40,43,44,45,46,49,50,51,52,53] J <| aS J <| aD <| Rg 4 J <| aA (bD J J J J J) J <| aA (aN J J gG J J) J ?_
 refine aA (aU J J) J <| Um J J <| Nk [3,18,19,20,28,29,30,33,34,35,38,39,40,43,44,45,46,49,50,51,52,55,56,57] J <| cJ <| aZ (α := Nat) (fun j => [(3, .v (.int .i64 (ss.length : Int))), (18, .sl k (ss.map stc)), (19, .v (.int .i64 (ss.length : Int))), (20, .v (.int .i64 (i : Int))), (55, .sl (ss.getD i default).2.1 ((ss.getD i default).2.2.map chc)), (56, .v (.int .i64 ((ss.getD i default).2.2.length : Int))), (57, .v (.int .i64 (j : Int)))]) (fun j => []) (fun j n => j ≤ (ss.getD i default).2.2.length ∧ ((ss.getD i default).2.2.take j).all (VC ss.length) = true ∧ 0 < n) (fun j => (ss.getD i default).2.2.length - j) (0) ⟨J, J, J, J, J, J, J, trivial⟩ trivial ⟨Nat.zero_le _, by simp, om⟩ ?_
 rintro j n hF
 change WC _ _ _ _ _ (_ :: _) ([]) n _
 obtain ⟨hj, hb, hn2⟩ := hF
 refine Rg 1 J <| aA (bP J J) J <| aV (fun h58 => ?_) (fun h58 => ?_)
 rotate_left
 ·refine Wn <| aS J <| aX <| aP <| eQ J <| aF <| aH (z := 2) J <| aA (cI (((i + 1 : Nat) : Int)) (aQ J J om) om) J <| Um J J <| Wn <| aG <| ⟨i + 1, ⟨J, J, J, J, trivial⟩, trivial, ⟨om, fG ha om (VS_yes om om om om om om (fY hb om)), om⟩, by show ss.length - (i + 1) < ss.length - i; omega⟩
 refine Wn <| aO J <| aD <| aK ?_
 have hIc := hIs.2.2 _ (bN (us := (ss.getD i default).2.2) (i := j) om)
 refine Rg 4 J <| aA (bQ J J J J J om J) J <| aA (cW (l := .agg [_, _, _]) J J J) J <| bE (eM J) J <| bB (cM (cs' := [_, _, _]) J J J gG J J J J) ?_
 refine Wn <| Rg 4 J <| Um J J <| aA (aN (l := lvC ((ss.getD i default).2.2.getD j default)) J J gG J J) J ?_
 refine aA (aM J (mchoice_run ss.length ((ss.getD i default).2.2.getD j default) hIc om) dD) J <| dB (fun h63 => ?_) (fun h63 => ?_)
 ·refine aA (cY J) J <| Nk [3,18,19,20,55,56,57,64] J <| bV J <| bZ <| aF <| aH (z := 2) J <| aA (cI (((j + 1 : Nat) : Int)) (aQ J J om) om) J <| Um J J <| Wn <| aG <| ⟨j + 1, ⟨J, J, J, J, J, J, J, trivial⟩, trivial, ⟨om, fG hb om h63, om⟩, by show (ss.getD i default).2.2.length - (j + 1) < (ss.getD i default).2.2.length - j; omega⟩
 refine aA (cY J) J <| Nk [3,18,19,20,55,56,57,64] J <| bS J <| Rg 1 J <| Ua J J <| Wn <| aL <| aJ <| bC <| fJ <| aJ <| bC <| aJ <| post (n := 0) (.inr J) J ?_ dD
 exact congrArg (fun z => LV.v (.bool z)) (show false = VMo ss from (eP (i := i) om (VS_no2 (j := j) om h63)).symm)
theorem qvmodel_run (k : Nat) (ss : List ST) (hI : ∀ s, s ∈ ss → IS s) : Run Tryz.prog T E0 (.call 45 [lvMo k ss] (.v (.bool (VMo ss)))) := by
 refine bA Tryz.func45 J J (cU J) <| Rg 2 J <| bE (dO J J) J <| Ua J J <| Wn <| aB <| Rg 10 J <| aA (bD J J J J J) J <| aA (aN J J (by repeat (first | exact g0 | refine g1 (by decide) ?_)) J J) J ?_
 refine aA (aU J J) J <| aA (bP J J) J <| aV (fun h10 => ?_) (fun h10 => ?_)
 ·refine Um J J <| K1 J J <| K1 J J <| K1 J J <| K1 J J <| aA (bI J J) J <| Wn <| aO J <| aB <| Rg 1 J <| Ua J J <| Wn <| aW <| post (n := 0) (.inr J) J ?_ dD
  exact congrArg (fun z => LV.v (.bool z)) (show false = VMo ss from (VMo_no om).symm)
 refine Um J J <| aE J (bD J J J J J) J <| aE J (aN J J (by repeat (first | exact g0 | refine g1 (by decide) ?_)) J J) J ?_
 refine aE J (aU J J) J <| aE J (dK J J) J <| aV (fun h15 => ?_) (fun h15 => ?_)
 ·refine aA (bF J J) J <| Wn <| aO J <| aB <| Rg 1 J <| Ua J J <| Wn <| aW <| post (n := 0) (.inr J) J ?_ dD
  exact congrArg (fun z => LV.v (.bool z)) (show false = VMo ss from (VMo_no om).symm)
 refine aA (bF J J) J <| Wn <| aS J <| aD <| aB <| Rg 4 J <| aA (bD J J J J J) J <| aA (aN J J (by repeat (first | exact g0 | refine g1 (by decide) ?_)) J J) J ?_
 refine aA (aU J J) J <| Um J J <| Nk [1,18,19,20] J <| aK <| aZ (α := Nat) (fun i => [(1, .ptr 0 0), (18, .sl k (ss.map stc)), (19, .v (.int .i64 (ss.length : Int))), (20, .v (.int .i64 (i : Int)))]) (fun i => [(0, { cells := [.sl k (ss.map stc)], sz := 1, elem := (24), st := 0 })]) (fun i n => i ≤ ss.length ∧ (ss.take i).all (VS ss.length) = true ∧ 0 < n) (fun i => ss.length - i) (0) ⟨J, J, J, J, trivial⟩ ⟨(by repeat (first | exact g0 | refine g1 (by decide) ?_)), trivial⟩ ⟨Nat.zero_le _, by simp, om⟩ ?_
 rintro i n hF
 change WC _ _ _ _ _ (_ :: _) (_ :: _) n _
 obtain ⟨hi, ha, hn0⟩ := hF
 refine Rg 1 J <| aA (bP J J) J <| aV (fun h21 => ?_) (fun h21 => ?_)
 rotate_left
 ·refine Wn <| aS J <| aX <| aP <| aR J <| Rg 1 J <| Ua J J <| Wn <| aL <| post (n := 0) (.inr J) J ?_ dD
  exact congrArg (fun z => LV.v (.bool z)) (show true = VMo ss from (VMo_yes om om (fY ha om)).symm)
 refine Wn <| aO J <| aD <| aK ?_
 have hIs := hI _ (bN (us := ss) (i := i) om)
 refine Rg 4 J <| aA (bQ J J J J J om J) J <| aA (cW (l := .agg [_, _, _]) J J J) J <| bE (eM J) J <| bB (cM (cs' := [_, _, _]) J J J gG J J J J) ?_
 refine Wn <| aB <| Rg 30 J <| aA (bD J J J J J) J <| aA (aN J J gG J J) J ?_
 refine aA (bP J J) J <| aV (fun h26 => ?_) (fun h26 => ?_)
 ·refine Um J J <| K1 J J <| K1 J J <| K1 J J <| aA (bI J J) J <| Um J J <| K1 J J <| K1 J J <| K1 J J <| aA (bI J J) J <| Um J J <| K1 J J <| K1 J J <| K1 J J <| aA (bI J J) J <| Um J J <| K1 J J <| K1 J J <| K1 J J <| K1 J J <| aA (bI J J) J <| Um J J <| K1 J J <| K1 J J ?_
  refine K1 J J <| K1 J J <| aA (bI J J) J <| Nk [1,4,18,19,20,28,29,30,33,34,35,38,39,40,43,44,45,46,49,50,51,52,53] J <| aO J <| aB <| Rg 1 J <| Ua J J <| Nk [2] J <| aW <| aJ <| bC <| aJ <| post (n := 0) (.inr J) J ?_ dD
  exact congrArg (fun z => LV.v (.bool z)) (show false = VMo ss from (eP (i := i) om (jZ (.inl om))).symm)
 refine Um J J <| aE J (bD J J J J J) J <| aE J (aN J J gG J J) J ?_
 refine aE J (dK J J) J <| aV (fun h30 => ?_) (fun h30 => ?_)
 ·refine aA (bF J J) J <| Um J J <| K1 J J <| K1 J J <| K1 J J <| aA (bI J J) J <| Um J J <| K1 J J <| K1 J J <| K1 J J <| aA (bI J J) J <| Um J J <| K1 J J <| K1 J J <| K1 J J <| K1 J J <| aA (bI J J) J <| Um J J <| K1 J J <| K1 J J <| K1 J J <| K1 J J <| aA (bI J J) J <| cL ?_
  refine Ck [1,4,18,19,20,28,29,30,33,34,35,38,39,40,43,44,45,46,49,50,51,52,53] J <| aO J <| aB <| Rg 1 J <| Ua J J <| Nk [2] J <| aW <| aJ <| bC <| aJ <| post (n := 0) (.inr J) J ?_ dD
  exact congrArg (fun z => LV.v (.bool z)) (show false = VMo ss from (eP (i := i) om (jZ (.inr (.inl om)))).symm)
 refine aA (bF J J) J <| Um J J <| aE J (bD J J J J J) J <| aE J (aN J J gG J J) J ?_
 refine aE J (bP J J) J <| aV (fun h35 => ?_) (fun h35 => ?_)
 ·refine aA (bF J J) J <| Um J J <| K1 J J <| K1 J J <| K1 J J <| aA (bI J J) J <| Um J J <| K1 J J <| K1 J J <| K1 J J <| K1 J J <| aA (bI J J) J <| Um J J <| K1 J J <| K1 J J <| K1 J J <| K1 J J <| aA (bI J J) J <| Nk [1,4,18,19,20,28,29,30,33,34,35,38,39,40,43,44,45,46,49,50,51,52,53] J <| aO J <| aB <| Rg 1 J <| Ua J J ?_
  refine Nk [2] J <| aW <| aJ <| bC <| aJ <| post (n := 0) (.inr J) J ?_ dD
  exact congrArg (fun z => LV.v (.bool z)) (show false = VMo ss from (eP (i := i) om (jZ (.inr (.inr (.inl om))))).symm)
 refine aA (bF J J) J <| Um J J <| aE J (bD J J J J J) J <| aE J (aN J J gG J J) J ?_
 refine aE J (dK J J) J <| aV (fun h40 => ?_) (fun h40 => ?_)
 ·refine aA (bF J J) J <| Um J J <| K1 J J <| K1 J J <| K1 J J <| K1 J J <| aA (bI J J) J <| Um J J <| K1 J J <| K1 J J <| K1 J J <| K1 J J <| aA (bI J J) J <| Nk [1,4,18,19,20,28,29,30,33,34,35,38,39,40,43,44,45,46,49,50,51,52,53] J <| aO J <| aB <| Rg 1 J <| Ua J J <| Nk [2] J <| aW <| aJ <| bC ?_
  refine aJ <| post (n := 0) (.inr J) J ?_ dD
  exact congrArg (fun z => LV.v (.bool z)) (show false = VMo ss from (eP (i := i) om (jZ (.inr (.inr (.inr (.inl om)))))).symm)
 refine aA (bF J J) J <| Um J J <| aE J (bD J J J J J) J <| aE J (aN J J gG J J) J ?_
 refine aE J (aU J J) J <| aE J (bP J J) J <| aV (fun h46 => ?_) (fun h46 => ?_)
 ·refine aA (bF J J) J <| Um J J <| K1 J J <| K1 J J <| K1 J J <| K1 J J <| aA (bI J J) J <| Nk [1,4,18,19,20,28,29,30,33,34,35,38,39,40,43,44,45,46,49,50,51,52,53] J <| aO J <| aB <| Rg 1 J <| Ua J J <| Nk [2] J <| aW <| aJ <| bC <| aJ <| post (n := 0) (.inr J) J ?_ dD
  exact congrArg (fun z => LV.v (.bool z)) (show false = VMo ss from (eP (i := i) om (jZ (.inr (.inr (.inr (.inr (.inl om))))))).symm)
 refine aA (bF J J) J <| Um J J <| aE J (bD J J J J J) J <| aE J (aN J J gG J J) J ?_
 refine aE J (aU J J) J <| aE J (dK J J) J <| aV (fun h52 => ?_) (fun h52 => ?_)
 ·refine aA (bF J J) J <| Nk [1,4,18,19,20,28,29,30,33,34,35,38,39,40,43,44,45,46,49,50,51,52,53] J <| aO J <| aB <| Rg 1 J <| Ua J J <| Nk [2] J <| aW <| aJ <| bC <| aJ <| post (n := 0) (.inr J) J ?_ dD
  exact congrArg (fun z => LV.v (.bool z)) (show false = VMo ss from (eP (i := i) om (jZ (.inr (.inr (.inr (.inr (.inr om))))))).symm)
 refine aA (bF J J) J <| Nk [1,4,18,19,20,28,29,30,33,34,35,38,39,40,43,44,45,46,49,50,51,52,53] J <| aS J <| aD <| Rg 4 J <| aA (bD J J J J J) J <| aA (aN J J gG J J) J ?_
 refine aA (aU J J) J <| Um J J <| Nk [1,18,19,20,28,29,30,33,34,35,38,39,40,43,44,45,46,49,50,51,52,55,56,57] J <| cJ <| aZ (α := Nat) (fun j => [(1, .ptr 0 0), (18, .sl k (ss.map stc)), (19, .v (.int .i64 (ss.length : Int))), (20, .v (.int .i64 (i : Int))), (55, .sl (ss.getD i default).2.1 ((ss.getD i default).2.2.map chc)), (56, .v (.int .i64 ((ss.getD i default).2.2.length : Int))), (57, .v (.int .i64 (j : Int)))]) (fun j => [(0, { cells := [.sl k (ss.map stc)], sz := 1, elem := (24), st := 0 })]) (fun j n => j ≤ (ss.getD i default).2.2.length ∧ ((ss.getD i default).2.2.take j).all (VC ss.length) = true ∧ 0 < n) (fun j => (ss.getD i default).2.2.length - j) (0) ⟨J, J, J, J, J, J, J, trivial⟩ ⟨gG, trivial⟩ ⟨Nat.zero_le _, by simp, om⟩ ?_
 rintro j n hF
 change WC _ _ _ _ _ (_ :: _) (_ :: _) n _
 obtain ⟨hj, hb, hn2⟩ := hF
 refine Rg 1 J <| aA (bP J J) J <| aV (fun h58 => ?_) (fun h58 => ?_)
 rotate_left
 ·refine Wn <| aS J <| aX <| aP <| eQ J <| aF <| aH (z := 2) J <| aA (cI (((i + 1 : Nat) : Int)) (aQ J J om) om) J <| Um J J <| Wn <| aG <| ⟨i + 1, ⟨J, J, J, J, trivial⟩, ⟨gG, trivial⟩, ⟨om, fG ha om (VS_yes om om om om om om (fY hb om)), om⟩, by show ss.length - (i + 1) < ss.length - i; omega⟩
 refine Wn <| aO J <| aD <| aK ?_
 have hIc := hIs.2.2 _ (bN (us := (ss.getD i default).2.2) (i := j) om)
 refine Rg 4 J <| aA (bQ J J J J J om J) J <| aA (cW (l := .agg [_, _, _]) J J J) J <| bE (eM J) J <| bB (cM (cs' := [_, _, _]) J J J gG J J J J) ?_
 refine Wn <| Rg 6 J <| aA (aN (l := lvC ((ss.getD i default).2.2.getD j default)) J J gG J J) J ?_
 refine aA (bD J J J J J) J <| aA (aN J J gG J J) J ?_
 refine aA (cI ((ss.length : Int)) (aU J J) (by simp)) J <| aA (aM J (qchoice_run ss.length ((ss.getD i default).2.2.getD j default) hIc om) dD) J <| dB (fun h65 => ?_) (fun h65 => ?_)
 ·refine aA (cY J) J <| Nk [1,18,19,20,55,56,57,66] J <| bV J <| bZ <| aF <| aH (z := 2) J <| aA (cI (((j + 1 : Nat) : Int)) (aQ J J om) om) J <| Um J J <| Wn <| aG <| ⟨j + 1, ⟨J, J, J, J, J, J, J, trivial⟩, ⟨gG, trivial⟩, ⟨om, fG hb om h65, om⟩, by show (ss.getD i default).2.2.length - (j + 1) < (ss.getD i default).2.2.length - j; omega⟩
 refine aA (cY J) J <| Nk [1,18,19,20,55,56,57,66] J <| bS J <| Rg 1 J <| Ua J J <| Wn <| aL <| aJ <| bC <| fJ <| aJ <| bC <| aJ <| post (n := 0) (.inr J) J ?_ dD
 exact congrArg (fun z => LV.v (.bool z)) (show false = VMo ss from (eP (i := i) om (VS_no2 (j := j) om h65)).symm)
end Go.Proofs.YtcblgjaomljikaaGreat
set_option maxHeartbeats 16000000
namespace Go.Proofs.YtcblgjaomljikaaGreat
open Go.Ab Go.RowKit
theorem mset_run (k kl : Nat) (ss : List ST) (l : List Int) (ll : l.length < 1099511627776) : Run Tryz.prog T E0 (.call 101 [lvMo k ss, lvL kl l] (.v (.bool (VSet ss.length l)))) := by
 refine bA Tryz.func101 J J (cU J) <| Rg 2 J <| bE (dO J J) J <| Ua J J <| Wn <| Rg 1 J <| Ua J J <| Wn <| aB <| Rg 3 J <| Um J J <| aA (aU J J) J <| Um J J <| Wn <| aK <| aZ (α := Nat) (fun i => [(2, .ptr 0 0), (5, .v (.int .i64 (lastI l i : Int))), (8, lvL kl l), (9, .v (.int .i64 (l.length : Int))), (10, .v (.int .i64 (i : Int)))]) (fun i => [(0, { cells := [.sl k (ss.map stc)], sz := 1, elem := (24), st := 0 })]) (fun i n => i ≤ l.length ∧ (∀ j, j < i → okI ss.length l j = true) ∧ 0 < n) (fun i => l.length - i) (0) ⟨J, J, J, J, J, trivial⟩ ⟨(by repeat (first | exact g0 | refine g1 (by decide) ?_)), trivial⟩ ⟨Nat.zero_le _, fun j hj => absurd hj om, om⟩ ?_
 rintro i n hF
 change WC _ _ _ _ _ (_ :: _) (_ :: _) n _
 obtain ⟨hi, hok, hn⟩ := hF
 refine Rg 1 J <| aA (bP J J) J <| aV (fun h11 => ?_) (fun h11 => ?_)
 rotate_left
 ·refine Wn <| aS J <| aX <| aP <| aR J <| Rg 1 J <| Ua J J <| Wn <| aL <| post (n := 0) (.inr J) J ?_ dD
  exact congrArg (fun z => LV.v (.bool z)) (show true = VSet ss.length l from (iX fun j hj => hok j om).symm)
 refine Wn <| aO J <| aD <| aK <| Rg 3 J <| aA (bQ J J J J J om J) J <| aA (cW J J J) J <| Ua J J <| Wn <| aB <| Rg 10 J <| Um J J <| Um J J <| aA (kA J J) J <| aV (fun h16 => ?_) (fun h16 => ?_)
 ·refine Um J J <| K1 J J <| K1 J J <| K1 J J <| K1 J J <| K1 J J <| aA (bI J J) J <| Nk [2,7,8,9,10,18,19,20,21,22,23] J <| aO J <| aB <| Rg 1 J <| Ua J J <| Wn <| aW <| aJ <| bC <| aJ <| post (n := 0) (.inr J) J ?_ dD
  exact congrArg (fun z => LV.v (.bool z)) (show false = VSet ss.length l from (eY (i := i) om (qV (.inl om))).symm)
 refine Um J J <| aE J (dL J) J <| aE J (bD J J J J J) J <| aE J (aN J J gG J J) J ?_
 refine aE J (aU J J) J <| aE J (fD J J) J <| aV (fun h22 => ?_) (fun h22 => ?_)
 ·refine aA (bF J J) J <| Nk [2,7,8,9,10,18,19,20,21,22,23] J <| aO J <| aB <| Rg 1 J <| Ua J J <| Wn <| aW <| aJ <| bC <| aJ <| post (n := 0) (.inr J) J ?_ dD
  exact congrArg (fun z => LV.v (.bool z)) (show false = VSet ss.length l from (eY (i := i) om (qV (.inr om))).symm)
 refine aA (bF J J) J <| Nk [2,7,8,9,10,18,19,20,21,22,23] J <| aS J <| aD <| aH (z := 2) J <| Um J J <| Ua J J <| Wn <| aF <| aH (z := 2) J <| aA (cI (((i + 1 : Nat) : Int)) (aQ J J om) om) J <| Um J J <| Wn <| aG <| ⟨i + 1, ⟨J, J, J, J, J, trivial⟩, ⟨gG, trivial⟩, ⟨om, fun j hj => ?_, om⟩, by show l.length - (i + 1) < l.length - i; omega⟩
 by_cases e : j = i
 ·rw [e]; exact okI_yes om om
 ·exact hok j om
theorem qset_run (k kl : Nat) (ss : List ST) (l : List Int) (ll : l.length < 1099511627776) : Run Tryz.prog T E0 (.call 46 [lvMo k ss, lvL kl l] (.v (.bool (VSet ss.length l)))) := by
 refine bA Tryz.func46 J J (cU J) <| Rg 2 J <| bE (dO J J) J <| Ua J J <| Wn <| aB <| Rg 3 J <| Um J J <| aA (aU J J) J <| Um J J <| Wn <| aK <| aZ (α := Nat) (fun i => [(1, lvL kl l), (2, .ptr 0 0), (7, lvL kl l), (8, .v (.int .i64 (l.length : Int))), (9, .v (.int .i64 (i : Int)))]) (fun i => [(0, { cells := [.sl k (ss.map stc)], sz := 1, elem := (24), st := 0 })]) (fun i n => i ≤ l.length ∧ (∀ j, j < i → okI ss.length l j = true) ∧ 0 < n) (fun i => l.length - i) (0) ⟨J, J, J, J, J, trivial⟩ ⟨(by repeat (first | exact g0 | refine g1 (by decide) ?_)), trivial⟩ ⟨Nat.zero_le _, fun j hj => absurd hj om, om⟩ ?_
 rintro i n hF
 change WC _ _ _ _ _ (_ :: _) (_ :: _) n _
 obtain ⟨hi, hok, hn⟩ := hF
 refine Rg 1 J <| aA (bP J J) J <| aV (fun h10 => ?_) (fun h10 => ?_)
 rotate_left
 ·refine Wn <| aS J <| aX <| aP <| aR J <| Rg 1 J <| Ua J J <| Wn <| aL <| post (n := 0) (.inr J) J ?_ dD
  exact congrArg (fun z => LV.v (.bool z)) (show true = VSet ss.length l from (iX fun j hj => hok j om).symm)
 refine Wn <| aO J <| aD <| aK <| Rg 5 J <| Um J J <| aA (bQ J J J J J om J) J <| aA (cW J J J) J <| Ua J J <| Ua J J <| cL ?_
 have hlo := okI_lo i hok
 have hl0 : 0 < i → lastI l i = l.getD (i - 1) default := lastI_pos
 refine Rg 22 J <| Um J J <| aA (bP J J) J <| aV (fun h15 => ?_) (fun h15 => ?_)
 ·refine Um J J <| K1 J J <| K1 J J <| K1 J J <| K1 J J <| K1 J J <| aA (bI J J) J <| Um J J <| K1 J J <| K1 J J <| K1 J J <| K1 J J <| K1 J J <| K1 J J <| K1 J J <| K1 J J <| K1 J J <| K1 J J <| K1 J J <| aA (bI J J) J <| Nk [1,2,7,8,9,17,18,19,20,21,24,25,26,27,28,29,30,31,32,33,34,35] J <| bS J <| Rg 1 J ?_
  refine Ua J J <| Nk [4] J <| aL <| aJ <| bC <| aJ <| post (n := 0) (.inr J) J ?_ dD
  exact congrArg (fun z => LV.v (.bool z)) (show false = VSet ss.length l from (eY (i := i) om (qV (.inl om))).symm)
 refine Um J J <| aE J (dL J) J <| aE J (bD J J J J J) J <| aE J (aN J J gG J J) J ?_
 refine aE J (aU J J) J <| aE J (fD J J) J <| aV (fun h21 => ?_) (fun h21 => ?_)
 ·refine aA (bF J J) J <| Um J J <| K1 J J <| K1 J J <| K1 J J <| K1 J J <| K1 J J <| K1 J J <| K1 J J <| K1 J J <| K1 J J <| K1 J J <| K1 J J <| aA (bI J J) J <| Nk [1,2,7,8,9,17,18,19,20,21,24,25,26,27,28,29,30,31,32,33,34,35] J <| bS J <| Rg 1 J <| Ua J J <| Nk [4] J <| aL <| aJ <| bC ?_
  refine aJ <| post (n := 0) (.inr J) J ?_ dD
  exact congrArg (fun z => LV.v (.bool z)) (show false = VSet ss.length l from (eY (i := i) om (qV (.inr om))).symm)
 refine aA (bF J J) J <| Um J J <| aE J (dL J) J <| aE J (dK J J) J <| aV (fun h25 => ?_) (fun h25 => ?_)
 rotate_left
 ·refine aE J (dL J) J <| K1 J J <| K1 J J <| K1 J J <| K1 J J <| K1 J J <| K1 J J <| K1 J J <| aE J (bF J J) J <| aA (bF J J) J <| Nk [1,2,7,8,9,17,18,19,20,21,24,25,26,27,28,29,30,31,32,33,34,35] J <| bV J <| bZ <| aF <| Ck [1,2,7,8,9,17,18,19,20,21,24,25,26,27,28,29,30,31,32,33,34] J <| aH (z := 2) J <| aA (cI (((i + 1 : Nat) : Int)) (aQ J J om) om) J <| Um J J <| Wn <| aG ?_
  have hl2 : lastI l i < (l.getD i default) := by
   rcases Nat.eq_zero_or_pos i with e | e
   ·subst e; show (-1 : Int) < _; omega
   ·rw [hl0 e]; omega
  refine ⟨i + 1, ⟨J, J, J, J, J, trivial⟩, ⟨gG, trivial⟩, ⟨om, fun j hj => ?_, om⟩, by show l.length - (i + 1) < l.length - i; omega⟩
  by_cases e : j = i
  ·rw [e]; exact okI_yes hl2 om
  ·exact hok j om
 refine aE J (dL J) J <| aE J (dL J) J <| aE J (dL J) J <| aE J (dL J) J <| aE J (cI (((i - 1 : Nat) : Int)) (bT J J om) om) J <| aE J (bQ (j := i - 1) J J J J om om J) J <| aE J (cW J J J) J <| aE J (kA J J) J <| aV (fun h33 => ?_) (fun h33 => ?_)
 ·refine aE J (bI J J) J <| aA (bF J J) J <| Nk [1,2,7,8,9,17,18,19,20,21,24,25,26,27,28,29,30,31,32,33,34,35] J <| bS J <| Rg 1 J <| Ua J J <| Nk [4] J <| aL <| aJ <| bC <| aJ <| post (n := 0) (.inr J) J ?_ dD
  exact congrArg (fun z => LV.v (.bool z)) (show false = VSet ss.length l from (eY (i := i) om (qV (.inl (by rw [hl0 om]; omega)))).symm)
 refine aE J (bI J J) J <| aA (bF J J) J <| Nk [1,2,7,8,9,17,18,19,20,21,24,25,26,27,28,29,30,31,32,33,34,35] J <| bV J <| bZ <| aF <| Ck [1,2,7,8,9,17,18,19,20,21,24,25,26,27,28,29,30,31,32,33,34] J <| aH (z := 2) J <| aA (cI (((i + 1 : Nat) : Int)) (aQ J J om) om) J <| Um J J <| Wn <| aG ?_
 have hl2 : lastI l i < (l.getD i default) := by
  rcases Nat.eq_zero_or_pos i with e | e
  ·subst e; show (-1 : Int) < _; omega
  ·rw [hl0 e]; omega
 refine ⟨i + 1, ⟨J, J, J, J, J, trivial⟩, ⟨gG, trivial⟩, ⟨om, fun j hj => ?_, om⟩, by show l.length - (i + 1) < l.length - i; omega⟩
 by_cases e : j = i
 ·rw [e]; exact okI_yes hl2 om
 ·exact hok j om
end Go.Proofs.YtcblgjaomljikaaGreat
namespace Go.Proofs.YtcblgjaomljikaaGreat
open Go.Ab Go.RowKit
theorem succ_round (n : Nat) (H : Hp) (u ac nxt : X) (t t0 : Int) (hn : 14 < n) (hu : getH H 1 = some { cells := xc (u), sz := 4, elem := (103), st := 0 }) (ht : getH H 4 = some { cells := [.v (.int .i64 (t0))], sz := 1, elem := (3), st := 0 }) (hub : Bd 34359738368 u.1) (hnb : Bd 34359738368 nxt.1) : WC Tryz.prog T E0 Tryz.f110.ntmps (rfA (codeOf Tryz.f110)) [(15, .agg (xc ac ++ xc nxt)), (14, .v (.int .i64 (t : Int))), (3, .ptr 0 0), (5, .ptr 1 0), (7, .ptr 4 0)] H n (fun x e1 h1 n1 => x = .normal ∧ WC Tryz.prog T E0 Tryz.f110.ntmps (rfB (codeOf Tryz.f110)) e1 h1 n1 (fun x _ h2 n2 => SucR u.1 nxt.1 x ∧ n ≤ n2 ∧ getH h2 4 = some { cells := [.v (.int .i64 (t))], sz := 1, elem := (3), st := 0 } ∧ ∀ r o, r ≠ 4 → r < n → getH H r = some o → getH h2 r = some o)) := by
 refine Rg 1 J <| Ua J J <| Wn <| aH (z := 2) J <| bE (eM J) J <| bB (cM (cs' := xc ac ++ xc nxt) J J J g0 J J J J) <| Wn <| ⟨rfl, ?_⟩
 refine cJ <| Rg 2 J <| Um J J <| bB (cM (cs' := [.v (.int .i64 (t : Int))]) J J J (by repeat (first | exact g0 | exact hu | exact ht | refine g1 om ?_)) J J J J) ?_
 refine Wn <| Rg 5 J <| aA (aN (l := lvX u) J J (by repeat (first | exact g0 | exact hu | exact ht | refine g1 om ?_)) J J) J ?_
 refine aA (bD J J J J J) J <| aA (aN (l := lvX nxt) J J (by repeat (first | exact g0 | exact hu | exact ht | refine g1 om ?_)) J J) J ?_
 refine aA (aM J (rcmp_run u nxt hub hnb) (aY (by intro c hc; simp only [List.mem_cons, List.not_mem_nil, or_false] at hc; rcases hc with rfl | rfl; exact iK; exact iK))) J <| aA (bP J J) J <| aV (fun h21 => ?_) (fun h21 => ?_)
 ·refine Wn <| bS J <| kY <| gP J ?_
  have hlt : u.1 < nxt.1 := by have := gV.1 h21; rw [Rat.sub_eq_add_neg] at this; grind
  exact ⟨.inl ⟨hlt, rfl⟩, om, (by repeat (first | exact g0 | exact hu | exact ht | refine g1 om ?_)), (fun r o hr hn h => by repeat (first | exact h | refine g1 om ?_))⟩
 refine Wn <| bV J <| bZ <| cK ?_
 have hlt : ¬ u.1 < nxt.1 := fun h => h21 (gV.2 (by rw [Rat.sub_eq_add_neg]; grind))
 exact ⟨.inr ⟨hlt, rfl⟩, om, (by repeat (first | exact g0 | exact hu | exact ht | refine g1 om ?_)), (fun r o hr hn h => by repeat (first | exact h | refine g1 om ?_))⟩
theorem shares_it (k s : Nat) (ss : List Go.Ab.ST) (u : X) (C : RC) (hps : C.ps = #[14, 15]) (hasg : C.asg = rfA (codeOf Tryz.f110)) (hbody : C.body = rfB (codeOf Tryz.f110)) (hfit : Fits Tryz.f110.ntmps [(3, .ptr 0 0), (5, .ptr 1 0), (7, .ptr 4 0)] C.s0) (hs : s < ss.length) (hc : 1 ≤ (ss.getD s default).2.2.length) (hb8 : (brs ss s).length ≤ 1000) (hbn : ∀ b, b ∈ (brs ss s) → VN b.2) (hub : Bd 34359738368 u.1) : WIt Tryz.prog T E0 C Tryz.f108.ntmps (codeOf Tryz.f108) (argsEnv 0 [.fn (.yield (C.d + 1)) [] [], .ptr 9 0, .ptr 10 0]) [(10, { cells := [.v (.int .i64 (s))], sz := 1, elem := (3), st := 0 }), (9, { cells := [.sl k (ss.map stc)], sz := 1, elem := (24), st := 0 }), (4, { cells := [.v (.int .i64 (s))], sz := 1, elem := (3), st := 0 }), (1, { cells := xc (u), sz := 4, elem := (103), st := 0 }), (0, { cells := [.sl k (ss.map stc)], sz := 1, elem := (24), st := 0 })] 14 none (fun p' x e' h' n' => (x = .normal ∨ x = .ret) ∧ (∃ ls, resE e' T h' Tryz.f108.results.toList = some ls) ∧ (p' = none ∨ p' = some (.exit 0)) ∧ getH h' 4 = some { cells := [.v (.int .i64 (sucF (brs ss s) u.1 s))], sz := 1, elem := (3), st := 0 }) := by
 change WIt _ _ _ _ _ _ [(0, .fn (.yield (C.d + 1)) [] []), (1, .ptr 9 0), (2, .ptr 10 0)] _ _ _ _
 refine WIt.reg (z := 1) J <| bE (eM J) J <| Wn <| WIt.reg (z := 11) J <| aA (bD J J J J J) J <| aA (aN J J gG J J) J ?_
 refine aA (aN J J gG J J) J ?_
 refine aA (bQ (j := s) J J J J om om J) J <| aA (oFa J J J J J) J <| aA (cW J J J) J <| aA (bQ (j := 0) J J J J om om J) J <| aA (oFa J J J J J) J <| aA (bG (b := .sl ((ss.getD s default).2.2.getD 0 default).2.1 ((brs ss s).map brc)) (cW J J J) J) J <| aA (aU J J) J <| Um J J <| Wn <| WIt.weak [(0, _), (4, _), (16, _), (17, _), (18, _)] ⟨J, J, J, J, J, trivial⟩ <| WIt.block1 <| WIt.loopV (α := Nat × X × Int) (fun ⟨i, ac, t⟩ => [(0, .fn (.yield (C.d + 1)) [] []), (4, .ptr 14 0), (16, .sl ((ss.getD s default).2.2.getD 0 default).2.1 ((brs ss s).map brc)), (17, .v (.int .i64 ((brs ss s).length : Int))), (18, .v (.int .i64 (i : Int)))]) (fun ⟨i, ac, t⟩ => [(14, { cells := xc (ac), sz := 4, elem := (103), st := 0 }), (4, { cells := [.v (.int .i64 (t))], sz := 1, elem := (3), st := 0 }), (1, { cells := xc (u), sz := 4, elem := (103), st := 0 })]) (fun ⟨i, ac, t⟩ n => i ≤ (brs ss s).length ∧ ac.1 = psum (brs ss s) i ∧ sucG (brs ss s) u.1 ((brs ss s).length - i) i t = sucF (brs ss s) u.1 s ∧ 14 < n) (fun ⟨i, ac, t⟩ => (brs ss s).length - i) (0, x0, (s : Int)) ⟨J, J, J, J, J, trivial⟩ ⟨gG, gG, gG, trivial⟩ ⟨Nat.zero_le _, rfl, rfl, om⟩ ?_
 rintro ⟨i, ac, t⟩ n hF
 change WIt _ _ _ _ _ _ [(0, .fn (.yield (C.d + 1)) [] []), (4, .ptr 14 0), (16, .sl ((ss.getD s default).2.2.getD 0 default).2.1 ((brs ss s).map brc)), (17, .v (.int .i64 ((brs ss s).length : Int))), (18, .v (.int .i64 (i : Int)))] ([(14, { cells := xc (ac), sz := 4, elem := (103), st := 0 }), (4, { cells := [.v (.int .i64 (t))], sz := 1, elem := (3), st := 0 }), (1, { cells := xc (u), sz := 4, elem := (103), st := 0 })]) n _ _
 obtain ⟨hi, hac, hsu, hn⟩ := hF
 refine WIt.reg (z := 1) J <| aA (bP J J) J <| aV (fun h19 => ?_) (fun h19 => ?_)
 rotate_left
 ·refine Wn <| WIt.cF J <| WIt.exits <| loopY_exit <| afterY0_exit J ?_
  exact ⟨.inl J, ⟨_, rfl⟩, .inl J, by rw [← hsu, sucG_end om]; exact gG⟩
 refine Wn <| WIt.cT J <| WIt.skips <| WIt.block ?_
 have hm := bN (us := (brs ss s)) (i := i) om
 have hvb := hbn _ hm
 have hpb := iU (bs := (brs ss s)) i om (fun j hj => decide_eq_true (hbn _ (bN (us := (brs ss s)) (i := j) om)))
 rw [← hac] at hpb
 have hnv : (xadd ac (nx ((brs ss s).getD i default).2)).1 = psum (brs ss s) (i + 1) := by show ac.1 + nq ((brs ss s).getD i default).2 = _; rw [hac]; rfl
 have hnb : Bd 34359738368 (xadd ac (nx ((brs ss s).getD i default).2)).1 := (hpb.add hvb.bd).mono om
 refine WIt.reg (z := 4) J <| aA (bQ J J J J J om J) J <| aA (cW (l := .agg (brc ((brs ss s).getD i default))) J J J) J <| bE (eM J) J <| bB (cM (cs' := brc ((brs ss s).getD i default)) J J J g0 J J J J) <| Wn <| WIt.draw (z := 7) J kR <| aI (aN (l := lvX ac) J J gG J J) J ?_
 refine aI (bD J J J J J) J <| aI (aN (l := lvM ((brs ss s).getD i default).2) J J gG J J) J ?_
 refine aI (bG (b := lvX (nx ((brs ss s).getD i default).2)) (aM J (mV ((brs ss s).getD i default).2 hvb.i64.1 hvb.i64.2 hvb.all3.2.2) (aY (by intro c hc; simp only [List.mem_cons, List.not_mem_nil, or_false] at hc; rcases hc with rfl; exact iK))) J) J <| aI (bG (b := lvX (xadd ac (nx ((brs ss s).getD i default).2))) (aM J (qZ ac (nx ((brs ss s).getD i default).2) (hpb.mono om) (hvb.bd.mono om)) (aY (by intro c hc; simp only [List.mem_cons, List.not_mem_nil, or_false] at hc; rcases hc with rfl | rfl; exact iK; exact iK))) J) J <| WD.S (eM J) J <| cV (cM (cs' := xc (xadd ac (nx ((brs ss s).getD i default).2))) J J J g0 J J J J) <| bK (iA (rn n) (by simp only [List.reverse_cons, List.reverse_nil, List.nil_append, List.cons_append, List.map_cons, List.map_nil, ren, keys, Nat.add_assoc, rB, show rn n 14 = 0 from rn_lt om]; kernel_rfl)) J <| WIt.weak [(0, _), (4, _), (6, _), (7, _), (16, _), (17, _), (18, _)] ⟨J, J, J, J, J, J, J, trivial⟩ <| WIt.assoc <| WIt.regy (z := 8) J <| WYd.U (dL J) J <| WYd.U (bD J J J J J) J <| WYd.U (aN J J gG J J) J ?_
 refine WYd.U (aN (l := lvX ac) J J gG J J) J ?_
 refine WYd.U (aN (l := lvX (xadd ac (nx ((brs ss s).getD i default).2))) J J gG J J) J ?_
 refine WYd.U (fP (cs := xc ac ++ xc (xadd ac (nx ((brs ss s).getD i default).2))) J J J J J) J <| WYd.weakH (((n + 1 + 4 + 5), { cells := xc ((xadd ac (nx ((brs ss s).getD i default).2))), sz := 4, elem := (103), st := 0 }) :: ((n + 1 + 2), { cells := brc ((brs ss s).getD i default), sz := 3, elem := (90), st := 0 }) :: [(14, { cells := xc (ac), sz := 4, elem := (103), st := 0 }), (4, { cells := [.v (.int .i64 (t))], sz := 1, elem := (3), st := 0 }), (1, { cells := xc (u), sz := 4, elem := (103), st := 0 })]) (subsM.get ⟨gG, gG, gG, gG, gG, trivial⟩) ?_
 refine WYd.Y (x1 := .v (.int .i64 ((brs ss s).getD i default).1)) (x2 := .agg (xc ac ++ xc (xadd ac (nx ((brs ss s).getD i default).2)))) (p1 := 14) (p2 := 15) (asg := rfA (codeOf Tryz.f110)) (body := rfB (codeOf Tryz.f110)) (e0 := [(3, .ptr 0 0), (5, .ptr 1 0), (7, .ptr 4 0)]) (N0 := Tryz.f110.ntmps) J J J hps hasg hbody J hfit J J (succ_round ((n + 1 + 4 + 7) + 8) (((n + 1 + 4 + 5), { cells := xc ((xadd ac (nx ((brs ss s).getD i default).2))), sz := 4, elem := (103), st := 0 }) :: ((n + 1 + 2), { cells := brc ((brs ss s).getD i default), sz := 3, elem := (90), st := 0 }) :: [(14, { cells := xc (ac), sz := 4, elem := (103), st := 0 }), (4, { cells := [.v (.int .i64 (t))], sz := 1, elem := (3), st := 0 }), (1, { cells := xc (u), sz := 4, elem := (103), st := 0 })]) u ac (xadd ac (nx ((brs ss s).getD i default).2)) ((brs ss s).getD i default).1 t om gG gG hub hnb) ?_
 rintro x h' n' ⟨hsr, hn', h4, hkk⟩
 refine WN.O <| dB (fun h33 => ?_) (fun h33 => ?_)
 rotate_left
 ·obtain ⟨hlt, rfl⟩ := sucR_stop hsr h33
  refine aA (cY J) J <| Wn <| WIt.weak [(0, _), (4, _), (7, _), (16, _), (17, _), (18, _), (34, _)] ⟨J, J, J, J, J, J, J, trivial⟩ <| WIt.cT J <| WIt.rets <| afterY_ret <| loopY_ret <| afterY0_ret ?_
  exact ⟨.inr J, ⟨_, rfl⟩, .inr J, by rw [← hsu, sucG_stop om (by rw [← hnv]; exact hlt)]; exact h4⟩
 obtain ⟨hlt, rfl⟩ := sucR_go hsr h33
 refine aA (cY J) J <| Wn <| WIt.weak [(0, _), (4, _), (7, _), (16, _), (17, _), (18, _), (34, _)] ⟨J, J, J, J, J, J, J, trivial⟩ <| WIt.cF J <| WIt.skips <| WIt.reg1z (z := 2) J <| aA (aN (l := lvX (xadd ac (nx ((brs ss s).getD i default).2))) J J (hkk _ _ om om gG) J J) J ?_
 refine bB (cM (cs' := xc (xadd ac (nx ((brs ss s).getD i default).2))) J J J (hkk _ _ om om gG) J J J J) ?_
 refine Wn <| rO <| WIt.reg1z (z := 2) J <| aA (cI (((i + 1 : Nat) : Int)) (aQ J J om) om) J <| Um J J <| Wn <| loopY_normal <| ⟨⟨i + 1, (xadd ac (nx ((brs ss s).getD i default).2)), ((brs ss s).getD i default).1⟩, ⟨J, J, J, J, J, trivial⟩, ⟨g0, g1 om h4, g1 om (hkk _ _ om om gG), trivial⟩, ⟨om, by show ac.1 + nq ((brs ss s).getD i default).2 = _; rw [hac]; rfl, (sucG_go (i := i) (t := t) om (by rw [← hnv]; exact hlt)).symm.trans hsu, om⟩, by show (brs ss s).length - (i + 1) < (brs ss s).length - i; omega⟩
end Go.Proofs.YtcblgjaomljikaaGreat
namespace Go.Proofs.YtcblgjaomljikaaGreat
open Go.Ab Go.RowKit
theorem eqOkS : ∀ t, E0 t = true → EqOk Tryz.prog t := by
 intro t ht
 have h : t = 58 := by simpa [E0] using ht
 subst h
 exact eqOk_pair kR Tryz.underlying58 kR (by decide) (by decide) Tryz.underlying3 Tryz.underlying3 kR kR J J kR
theorem shares_mk (k s : Nat) (ss : List Go.Ab.ST) (H : Hp) (n : Nat) : WC Tryz.prog T E0 Tryz.f55.ntmps (codeOf Tryz.f55) (argsEnv 0 [lvMo k ss, .v (.int .i64 (s : Int))]) H n (fun x e' h' n' => (x = .normal ∨ x = .ret) ∧ ∃ ls', resE e' T h' Tryz.f55.results.toList = some ls' ∧ resultLV ls' = .fn (.func 108) [] [.ptr n 0, .ptr (n + 1) 0] ∧ h' = (n + 1, { cells := [.v (.int .i64 (s))], sz := 1, elem := (3), st := 0 }) :: (n, { cells := [.sl k (ss.map stc)], sz := 1, elem := (24), st := 0 }) :: H ∧ n' = n + 5) := by
 change WC _ _ _ _ _ [(0, _), (1, _)] _ _ _
 refine Rg 3 J <| bE (dO J J) J <| bE (dO J J) J <| Ua J J <| Wn <| Rg 2 J <| aA (oMf J) J <| Ua J J <| Wn <| aL ?_
 exact ⟨.inr J, _, rfl, rfl, rfl, rfl⟩
theorem suc_run (k s : Nat) (ss : List Go.Ab.ST) (u : X) (hs : s < ss.length) (hc : 1 ≤ (ss.getD s default).2.2.length) (hb8 : (brs ss s).length ≤ 1000) (hbn : ∀ b, b ∈ (brs ss s) → VN b.2) (hub : Bd 34359738368 u.1) : Run Tryz.prog T E0 (.call 110 [lvMo k ss, .v (.int .i64 (s : Int)), lvX u] (.v (.int .i64 (sucF (brs ss s) u.1 s : Int)))) := by
 refine WLp.call typesOk eqOkS Tryz.checked.mixed Tryz.func110 J J (cU J) ?_ (by simp)
 change WLp _ _ _ _ _ [(0, lvMo k ss), (1, .v (.int .i64 (s : Int))), (2, lvX u)] _ _ _
 refine WLp.reg (z := 3) J <| bE (dO J J) J <| bE (dO J J) J <| Ua J J <| Wn <| WLp.reg (z := 3) J <| Um J J <| bE (eM J) J <| bB (cM (cs' := [_]) J J J J J J J J) <| Wn <| WLp.assoc <| WLp.weakM [(4, { cells := [.v (.int .i64 (s))], sz := 1, elem := (3), st := 0 }), (1, { cells := xc (u), sz := 4, elem := (103), st := 0 }), (0, { cells := [.sl k (ss.map stc)], sz := 1, elem := (24), st := 0 })] ⟨J, J, J, trivial⟩ <| WLp.regn (z := 3) J <| pW (aN (l := .agg [_]) J J J J J) J <| pW (dL J) J <| WN.G (Φ := fun r h' n' => r = .fn (.func 108) [] [.ptr 9 0, .ptr 10 0] ∧ h' = [(10, { cells := [.v (.int .i64 (s))], sz := 1, elem := (3), st := 0 }), (9, { cells := [.sl k (ss.map stc)], sz := 1, elem := (24), st := 0 }), (4, { cells := [.v (.int .i64 (s))], sz := 1, elem := (3), st := 0 }), (1, { cells := xc (u), sz := 4, elem := (103), st := 0 }), (0, { cells := [.sl k (ss.map stc)], sz := 1, elem := (24), st := 0 })] ∧ n' = 14) J J J J (cU J) J (shares_mk k s ss _ 9) ?_
 rintro r h' n' ⟨rfl, rfl, rfl⟩
 refine WN.nil <| WLp.block <| WLp.range (gf := 108) J Tryz.func108 J J (cU J) ?_
 intro C hps hasg hbody hfit
 refine WIt.mono (shares_it k s ss u C hps hasg hbody (hfit.weak ⟨J, J, J, trivial⟩) hs hc hb8 hbn hub) ?_
 rintro p' x e' h' n' ⟨hx, hls, hp, h4⟩
 refine ⟨hx, hls, ?_⟩
 have JJ : WLp Tryz.prog T E0 Tryz.f110.ntmps (codeR (codeR (codeR (codeOf Tryz.f110)))) [(7, .ptr 4 0)] h' n' (fun x e' h' n' => (x = .normal ∨ x = .ret) ∧ ∃ ls, resE e' T h' Tryz.f110.results.toList = some ls ∧ resultLV ls = .v (.int .i64 (sucF (brs ss s) u.1 s : Int))) := by
  refine WLp.reg (z := 2) J <| aA (aN (l := .v (.int .i64 (sucF (brs ss s) u.1 s : Int))) J J h4 J J) J <| Ua J J <| Wn <| WLp.ret ?_
  exact ⟨.inr J, _, rfl, rfl⟩
 rcases hp with rfl | rfl
 ·exact WLp.weak [(7, _)] ⟨J, trivial⟩ JJ
 ·exact WLp.weak [(7, _)] ⟨J, trivial⟩ JJ
end Go.Proofs.YtcblgjaomljikaaGreat
namespace Go.Proofs.YtcblgjaomljikaaGreat
open Go.Ab Go.RowKit
theorem pN (k k' : Nat) (l l' : List Int) (ll : l.length < 1099511627776) : Run Tryz.prog T E0 (.call 23 [lvL k l, lvL k' l'] (.v (.bool (decide (l = l'))))) := by
 refine bA Tryz.func23 J J (cU J) <| Rg 1 J <| Ua J J <| Wn <| aB <| Rg 5 J <| Um J J <| aA (aU J J) J <| Um J J <| aA (aU J J) J <| aA (fK J J) J <| aV (fun h10 => ?_) (fun h10 => ?_)
 ·refine Wn <| aO J <| aB <| Rg 1 J <| Ua J J <| Wn <| aW <| post (n := 0) (.inr J) J ?_ dD
  exact congrArg (fun z => LV.v (.bool z)) (show false = decide (l = l') from (decide_eq_false fun h => h10 (by rw [h])).symm)
 refine Wn <| aS J <| aD <| aB <| Rg 3 J <| Um J J <| aA (aU J J) J <| Um J J <| Wn <| aK <| aZ (α := Nat) (fun i => [(0, lvL k l), (1, lvL k' l'), (12, .v (.int .i64 (l.length : Int))), (13, .v (.int .i64 (i : Int)))]) (fun i => []) (fun i n => i ≤ l.length ∧ l.take i = l'.take i) (fun i => l.length - i) (0) ⟨J, J, J, J, trivial⟩ trivial ⟨Nat.zero_le _, by simp⟩ ?_
 rintro i n hF
 change WC _ _ _ _ _ (_ :: _) ([]) n _
 obtain ⟨hi, ha⟩ := hF
 refine Rg 1 J <| aA (bP J J) J <| aV (fun h14 => ?_) (fun h14 => ?_)
 rotate_left
 ·refine Wn <| aS J <| aX <| aP <| aR J <| Rg 1 J <| Ua J J <| Wn <| aL <| post (n := 0) (.inr J) J ?_ dD
  exact congrArg (fun z => LV.v (.bool z)) (show true = decide (l = l') from (decide_eq_true (by rw [List.take_of_length_le om, List.take_of_length_le om] at ha; exact ha)).symm)
 refine Wn <| aO J <| aD <| aK <| Rg 2 J <| Um J J <| Ua J J <| Wn <| bO (z := 9) J kR <| Dm J J <| Dm J J <| aI (bQ (j := i) J J J J om om J) J <| aI (cW J J J) J <| Dm J J <| Dm J J <| aI (bQ (j := i) J J J J om om J) J <| aI (cW J J J) J <| aI (fK J J) J <| kC (fun h24 => ?_) (fun h24 => ?_)
 rotate_left
 ·refine bK (aT kR) J <| Ck [0,1,12,13,24] J <| bV J <| bZ <| aF <| aH (z := 2) J <| aA (cI (((i + 1 : Nat) : Int)) (aQ J J om) om) J <| Um J J <| Wn <| aG <| ⟨i + 1, ⟨J, J, J, J, trivial⟩, trivial, ⟨om, eqL_take ha om om om⟩, by show l.length - (i + 1) < l.length - i; omega⟩
 refine bK (aT kR) J <| Ck [0,1,12,13,24] J <| bS J <| Rg 1 J <| Ua J J <| Wn <| aL <| aJ <| bC <| aJ <| post (n := 0) (.inr J) J ?_ dD
 exact congrArg (fun z => LV.v (.bool z)) (show false = decide (l = l') from (decide_eq_false (eqL_no (i := i) om om om)).symm)
end Go.Proofs.YtcblgjaomljikaaGreat
namespace Go.Proofs.YtcblgjaomljikaaGreat
open Go.Ab Go.RowKit
theorem qloop_run (i : Nat) : Run Tryz.prog T E0 (.call 98 [.v (.int .i64 (i : Int))] (lvC (lpc i))) := by
 refine bA Tryz.func98 J J (cU J) <| Rg 1 J <| bE (eM J) J <| Wn <| Rg 7 J <| aA (fP (cs := [_, _]) J J J J J) J <| Um J J <| aA (fP (cs := [_, _]) J J J J J) J <| aA (fP (cs := [_, _, _]) J J J J J) J <| aA (cP (cs := [_, _, _]) (rows := [[_, _, _]]) J J (by decide) J J J) J <| aA (fP (cs := [_, _, _]) J J J J J) J <| bB (cM (cs' := [_, _, _]) J J J J J J J J) <| Wn <| aL <| post (n := 0) (.inr J) J ?_ dD
 rfl
end Go.Proofs.YtcblgjaomljikaaGreat
namespace Go.Proofs.YtcblgjaomljikaaGreat
open Go.Ab Go.RowKit
theorem idxi_run (k : Nat) (ns : List Int) (g : FuncId) (cap : List LV) (p : Int → Bool) (hcap : ∀ c, c ∈ cap → Go.Ab.Data c) (ln : ns.length < 4611686018427387904) (hp : ∀ a, a ∈ ns → Run Tryz.prog T E0 (.call g ([.v (.int .i64 a)] ++ cap) (.v (.bool (p a))))) : Run Tryz.prog T E0 (.call 107 [lvL k ns, .fn (.func g) [] cap] (.v (.int .i64 (fidx p ns)))) := by
 refine bA Tryz.func107 J J (cU J) <| Rg 1 J <| Ua J J <| Wn <| aB <| Rg 3 J <| Um J J <| aA (aU J J) J <| Um J J <| Wn <| aK <| aZ (α := Nat) (fun i => [(0, lvL k ns), (1, .fn (.func g) [] cap), (7, .v (.int .i64 (ns.length : Int))), (8, .v (.int .i64 (i : Int)))]) (fun i => []) (fun i n => i ≤ ns.length ∧ (ns.take i).any p = false) (fun i => ns.length - i) (0) ⟨J, J, J, J, trivial⟩ trivial ⟨Nat.zero_le _, by simp⟩ ?_
 rintro i n hF
 change WC _ _ _ _ _ (_ :: _) ([]) n _
 obtain ⟨hi, ha⟩ := hF
 refine Rg 1 J <| aA (bP J J) J <| aV (fun h9 => ?_) (fun h9 => ?_)
 rotate_left
 ·refine Wn <| aS J <| aX <| aP <| aR J <| Rg 1 J <| Ua J J <| Wn <| aL <| post (n := 0) (.inr J) J ?_ dD
  exact congrArg (fun z => LV.v (.int .i64 z)) (nT ha om).symm
 refine Wn <| aO J <| aD <| aK <| Rg 2 J <| Um J J <| Ua J J <| Wn <| Rg 6 J <| Um J J <| Um J J <| Um J J <| aA (bQ J J J J J om J) J <| aA (cW J J J) J <| aA (oCallVD J J (hp _ (bN om)) (data3 d0 (dII _) hcap)) J <| dB (fun h16 => ?_) (fun h16 => ?_)
 rotate_left
 ·refine Wn <| bV J <| bZ <| aF <| aH (z := 2) J <| aA (cI (((i + 1 : Nat) : Int)) (aQ J J om) om) J <| Um J J <| Wn <| aG <| ⟨i + 1, ⟨J, J, J, J, trivial⟩, trivial, ⟨om, rI ha om h16⟩, by show ns.length - (i + 1) < ns.length - i; omega⟩
 refine Wn <| bS J <| Rg 2 J <| Um J J <| Ua J J <| Nk [4] J <| aL <| aJ <| bC <| aJ <| post (n := 0) (.inr J) J ?_ dD
 exact congrArg (fun z => LV.v (.int .i64 z)) (qG ha om h16).symm
theorem coni_run (k : Nat) (ns : List Int) (g : FuncId) (cap : List LV) (p : Int → Bool) (hcap : ∀ c, c ∈ cap → Go.Ab.Data c) (ln : ns.length < 4611686018427387904) (hp : ∀ a, a ∈ ns → Run Tryz.prog T E0 (.call g ([.v (.int .i64 a)] ++ cap) (.v (.bool (p a))))) : Run Tryz.prog T E0 (.call 53 [lvL k ns, .fn (.func g) [] cap] (.v (.bool (ns.any p)))) := by
 refine bA Tryz.func53 J J (cU J) <| Rg 1 J <| Ua J J <| Wn <| Rg 5 J <| Um J J <| Um J J <| aA (iH [] [lvL k ns, .fn (.func g) [] cap] J (idxi_run k ns g cap p hcap ln hp) (SnapB.datas (by intro c hc; simp only [List.mem_cons, List.not_mem_nil, or_false] at hc; rcases hc with rfl | rfl; exact gQ _ _; exact dfn d0 hcap)) kO) J <| aA (fD J J) J <| Ua J J <| Wn <| aL <| post (n := 0) (.inr J) J ?_ dD
 exact congrArg (fun z => LV.v (.bool z)) (kI p ns)
end Go.Proofs.YtcblgjaomljikaaGreat
namespace Go.Proofs.YtcblgjaomljikaaGreat
open Go.Ab Go.RowKit
theorem idx5_run (k : Nat) (ns : List Go.Ab.ST) (g : FuncId) (cap : List LV) (p : Go.Ab.ST → Bool) (hcap : ∀ c, c ∈ cap → Go.Ab.Data c) (ln : ns.length < 4611686018427387904) (hp : ∀ a, a ∈ ns → Run Tryz.prog T E0 (.call g ([.agg (stc a)] ++ cap) (.v (.bool (p a))))) : Run Tryz.prog T E0 (.call 151 [.sl k (ns.map stc), .fn (.func g) [] cap] (.v (.int .i64 (fidx p ns)))) := by
 refine bA Tryz.func151 J J (cU J) <| Rg 1 J <| Ua J J <| Wn <| aB <| Rg 3 J <| Um J J <| aA (aU J J) J <| Um J J <| Wn <| aK <| aZ (α := Nat) (fun i => [(0, .sl k (ns.map stc)), (1, .fn (.func g) [] cap), (7, .v (.int .i64 (ns.length : Int))), (8, .v (.int .i64 (i : Int)))]) (fun i => []) (fun i n => i ≤ ns.length ∧ (ns.take i).any p = false) (fun i => ns.length - i) (0) ⟨J, J, J, J, trivial⟩ trivial ⟨Nat.zero_le _, by simp⟩ ?_
 rintro i n hF
 change WC _ _ _ _ _ (_ :: _) ([]) n _
 obtain ⟨hi, ha⟩ := hF
 refine Rg 1 J <| aA (bP J J) J <| aV (fun h9 => ?_) (fun h9 => ?_)
 rotate_left
 ·refine Wn <| aS J <| aX <| aP <| aR J <| Rg 1 J <| Ua J J <| Wn <| aL <| post (n := 0) (.inr J) J ?_ dD
  exact congrArg (fun z => LV.v (.int .i64 z)) (nT ha om).symm
 refine Wn <| aO J <| aD <| aK <| Rg 2 J <| Um J J <| Ua J J <| Wn <| Rg 6 J <| Um J J <| Um J J <| Um J J <| aA (bQ J J J J J om J) J <| aA (cW (l := .agg (stc (ns.getD i default))) J J J) J <| aA (oCallVD J J (hp _ (bN om)) (data3 d0 (by intro c hc; rw [List.mem_singleton] at hc; subst hc; exact .agg _ (dstc1 _)) hcap)) J <| dB (fun h16 => ?_) (fun h16 => ?_)
 rotate_left
 ·refine Wn <| bV J <| bZ <| aF <| aH (z := 2) J <| aA (cI (((i + 1 : Nat) : Int)) (aQ J J om) om) J <| Um J J <| Wn <| aG <| ⟨i + 1, ⟨J, J, J, J, trivial⟩, trivial, ⟨om, rI ha om h16⟩, by show ns.length - (i + 1) < ns.length - i; omega⟩
 refine Wn <| bS J <| Rg 2 J <| Um J J <| Ua J J <| Nk [4] J <| aL <| aJ <| bC <| aJ <| post (n := 0) (.inr J) J ?_ dD
 exact congrArg (fun z => LV.v (.int .i64 z)) (qG ha om h16).symm
theorem con5_run (k : Nat) (ns : List Go.Ab.ST) (g : FuncId) (cap : List LV) (p : Go.Ab.ST → Bool) (hcap : ∀ c, c ∈ cap → Go.Ab.Data c) (ln : ns.length < 4611686018427387904) (hp : ∀ a, a ∈ ns → Run Tryz.prog T E0 (.call g ([.agg (stc a)] ++ cap) (.v (.bool (p a))))) : Run Tryz.prog T E0 (.call 138 [.sl k (ns.map stc), .fn (.func g) [] cap] (.v (.bool (ns.any p)))) := by
 refine bA Tryz.func138 J J (cU J) <| Rg 1 J <| Ua J J <| Wn <| Rg 5 J <| Um J J <| Um J J <| aA (iH [] [.sl k (ns.map stc), .fn (.func g) [] cap] J (idx5_run k ns g cap p hcap ln hp) (SnapB.datas (by intro c hc; simp only [List.mem_cons, List.not_mem_nil, or_false] at hc; rcases hc with rfl | rfl; exact .sl _ _ (bL dstc1); exact dfn d0 hcap)) kO) J <| aA (fD J J) J <| Ua J J <| Wn <| aL <| post (n := 0) (.inr J) J ?_ dD
 exact congrArg (fun z => LV.v (.bool z)) (kI p ns)
theorem many_run (s : Go.Ab.ST) : Run Tryz.prog T E0 (.call 139 [.agg (stc s)] (.v (.bool (manyC s)))) := by
 refine bA Tryz.func139 J J (cU J) <| Rg 2 J <| bE (dO J J) J <| Ua J J <| Wn <| Rg 5 J <| aA (bD J J J J J) J <| aA (aN (l := .sl s.2.1 (s.2.2.map chc)) J J g0 J J) J <| aA (aU J J) J <| aA (dK J J) J <| Ua J J <| Wn <| aL <| post (n := 0) (.inr J) J ?_ dD
 exact congrArg (fun z => LV.v (.bool z)) (by unfold manyC; exact decide_eq_decide.2 om)
theorem chain_run (k : Nat) (ss : List Go.Ab.ST) (hl : ss.length < 4611686018427387904) : Run Tryz.prog T E0 (.call 106 [lvMo k ss] (.v (.bool (chainB ss)))) := by
 refine bA Tryz.func106 J J (cU J) <| Rg 2 J <| bE (dO J J) J <| Ua J J <| Wn <| Rg 5 J <| aA (bD J J J J J) J <| aA (aN J J g0 J J) J <| aA (iH [] [.sl k (ss.map stc), .fn (.func 139) [] []] J (con5_run k ss 139 [] manyC d0 hl (fun a _ => many_run a)) (SnapB.datas (by intro c hc; simp only [List.mem_cons, List.not_mem_nil, or_false] at hc; rcases hc with rfl | rfl; exact .sl _ _ (bL dstc1); exact dfn d0 d0)) kO) J <| aA (cY J) J <| Ua J J <| Wn <| aL <| post (n := 0) (.inr J) J ?_ dD
 rfl
theorem ask1_run (a : NM) (h1 : I64 a.1) (h2 : I64 a.2) : Run Tryz.prog T E0 (.call 103 [lvM a] (.v (.bool (!vn a)))) := by
 refine bA Tryz.func103 J J (cU J) <| Rg 2 J <| bE (dO J J) J <| Ua J J <| Wn <| Rg 4 J <| aA (aN (l := lvM a) J J g0 J J) J <| aA (bG (b := .v (.bool (vn a))) (aM J (lV a h1 h2) dD) J) J <| aA (cY J) J <| Ua J J <| Wn <| aL <| post (n := 0) (.inr J) J ?_ dD
 rfl
theorem ask2_run (k : Nat) (ss : List Go.Ab.ST) (z : Int) : Run Tryz.prog T E0 (.call 105 [.v (.int .i64 (z : Int)), .ro [.sl k (ss.map stc)]] (.v (.bool (offS ss.length z)))) := by
 refine bA Tryz.func105 J J (cU J) <| Rg 1 J <| Ua J J <| Wn <| Rg 10 J <| Um J J <| aA (bP J J) J <| aV (fun h5 => ?_) (fun h5 => ?_)
 ·refine Um J J <| K1 J J <| K1 J J <| K1 J J <| K1 J J <| K1 J J <| aA (bI J J) J <| Ua J J <| Wn <| aL <| post (n := 0) (.inr J) J ?_ dD
  exact congrArg (fun z => LV.v (.bool z)) (by first | (show true = _; unfold offS; rw [decide_eq_true h5]; rfl) | (unfold offS; rw [decide_eq_false h5, Bool.false_or]))
 refine Um J J <| aE J (dL J) J <| aE J (oFa J J J J J) J <| aE J (cW (l := .sl k (ss.map stc)) J J J) J <| aE J (aU J J) J <| aE J (fD J J) J <| aA (bF J J) J <| Ua J J <| Wn <| aL <| post (n := 0) (.inr J) J ?_ dD
 exact congrArg (fun z => LV.v (.bool z)) (by first | (show true = _; unfold offS; rw [decide_eq_true h5]; rfl) | (unfold offS; rw [decide_eq_false h5, Bool.false_or]))
theorem kT (k kg kn ks : Nat) (ss : List Go.Ab.ST) (goal : List Int) (ns : List NM) (sts : List Int) (hI : ∀ s, s ∈ ss → IS s) (lg : goal.length < 1099511627776) (ln : ns.length < 1099511627776) (hN : IV ns) (ls : sts.length < 1099511627776) : Run Tryz.prog T E0 (.call 52 [lvMo k ss, lvL kg goal, .sl kn (ns.map mc), lvL ks sts] (.v (.int .i64 (askS ss goal ns sts)))) := by
 refine bA Tryz.func52 J J (cU J) <| Rg 2 J <| bE (dO J J) J <| Ua J J <| Wn <| aK <| Rg 14 J <| aA (aN (l := lvMo k ss) J J g0 J J) J <| aA (aM J (mvmodel_run k ss hI) dD) J <| dB (fun h11 => ?_) (fun h11 => ?_)
 rotate_left
 ·refine aA (cY J) J <| Um J J <| K1 J J <| K1 J J <| K1 J J <| K1 J J <| aA (bI J J) J <| Um J J <| K1 J J <| K1 J J <| aA (bI J J) J <| Ua J J <| Nk [3,4,9] J <| bS J <| Rg 1 J <| Ua J J <| Wn <| aL <| aJ <| post (n := 0) (.inr J) J ?_ (.v _)
  exact congrArg (fun z => LV.v (.int .i64 z)) (show _ = askS ss goal ns sts by unfold askS; first | rw [if_pos hA, if_pos h26] | rw [if_pos hA, if_neg (by rw [h26]; decide), if_pos h29] | rw [if_pos hA, if_neg (by rw [h26]; decide), if_neg (by rw [h29]; decide)] | rw [if_neg (fun hq => by obtain ⟨q1, q2, q3⟩ := hq; simp_all)])
 refine aA (cY J) J <| Um J J <| aE J (aN (l := lvMo k ss) J J g0 J J) J <| aE J (dL J) J <| aE J (aM J (mset_run k kg ss goal lg) dD) J <| dB (fun h16 => ?_) (fun h16 => ?_)
 rotate_left
 ·refine aE J (cY J) J <| aA (bF J J) J <| Um J J <| K1 J J <| K1 J J <| aA (bI J J) J <| Ua J J <| Nk [3,4,9] J <| bS J <| Rg 1 J <| Ua J J <| Wn <| aL <| aJ <| post (n := 0) (.inr J) J ?_ (.v _)
  exact congrArg (fun z => LV.v (.int .i64 z)) (show _ = askS ss goal ns sts by unfold askS; first | rw [if_pos hA, if_pos h26] | rw [if_pos hA, if_neg (by rw [h26]; decide), if_pos h29] | rw [if_pos hA, if_neg (by rw [h26]; decide), if_neg (by rw [h29]; decide)] | rw [if_neg (fun hq => by obtain ⟨q1, q2, q3⟩ := hq; simp_all)])
 refine aE J (cY J) J <| aA (bF J J) J <| Um J J <| aE J (dL J) J <| aE J (iH [] [.sl kn (ns.map mc), .fn (.func 103) [] []] J (con1_run kn ns 103 [] (fun a => !vn a) (by simp) om (fun a ha => ask1_run a (hN a ha).1 (hN a ha).2)) (SnapB.datas (by intro c hc; simp only [List.mem_cons, List.not_mem_nil, or_false] at hc; rcases hc with rfl | rfl; exact .sl _ _ (bL gO); exact dfn d0 d0)) kO) J <| dB (fun h21 => ?_) (fun h21 => ?_)
 ·refine aA (bF J J) J <| Ua J J <| Nk [3,4,9] J <| bS J <| Rg 1 J <| Ua J J <| Wn <| aL <| aJ <| post (n := 0) (.inr J) J ?_ (.v _)
  exact congrArg (fun z => LV.v (.int .i64 z)) (show _ = askS ss goal ns sts by unfold askS; first | rw [if_pos hA, if_pos h26] | rw [if_pos hA, if_neg (by rw [h26]; decide), if_pos h29] | rw [if_pos hA, if_neg (by rw [h26]; decide), if_neg (by rw [h29]; decide)] | rw [if_neg (fun hq => by obtain ⟨q1, q2, q3⟩ := hq; simp_all)])
 refine aA (bF J J) J <| Ua J J <| Nk [3,4,9] J <| bV J ?_
 have hA := show VMo ss = true ∧ VSet ss.length goal = true ∧ ns.any (fun a => !vn a) = false from ⟨h11, h16, by simpa using h21⟩
 refine Rg 4 J <| Um J J <| aA (oMf J) J <| aA (iH [0] [lvL ks sts, .fn (.func 105) [] [.ro [.sl k (ss.map stc)]]] J (coni_run ks sts 105 [.ro [.sl k (ss.map stc)]] (offS ss.length) (by intro c hc; rw [List.mem_singleton] at hc; subst hc; exact .ro _ (by intro c hc; rw [List.mem_singleton] at hc; subst hc; exact .sl _ _ (bL dstc1))) om (fun a ha => ask2_run k ss a)) (.data (gQ _ _) (.fn .nil (.box (ob := { cells := [.sl k (ss.map stc)], sz := 1, elem := (24), st := 0 }) g0 (by simp) (by show (0 : Nat) ≠ 2; decide) (by intro c hc; rw [List.mem_singleton] at hc; subst hc; exact .sl _ _ (bL dstc1)) .nil) .nil)) (.cons g0 (by show (0 : Nat) ≠ 2; decide) kO)) J <| dB (fun h26 => ?_) (fun h26 => ?_)
 ·refine Ua J J <| Wn <| bS J <| Rg 1 J <| Ua J J <| Wn <| aL <| aJ <| post (n := 0) (.inr J) J ?_ (.v _)
  exact congrArg (fun z => LV.v (.int .i64 z)) (show _ = askS ss goal ns sts by unfold askS; first | rw [if_pos hA, if_pos h26] | rw [if_pos hA, if_neg (by rw [h26]; decide), if_pos h29] | rw [if_pos hA, if_neg (by rw [h26]; decide), if_neg (by rw [h29]; decide)] | rw [if_neg (fun hq => by obtain ⟨q1, q2, q3⟩ := hq; simp_all)])
 refine Ua J J <| Wn <| bV J <| Rg 4 J <| aA (aN (l := lvMo k ss) J J g0 J J) J <| aA (aM J (chain_run k ss (by have := (mF h11).wt.len; omega)) dD) J <| dB (fun h29 => ?_) (fun h29 => ?_)
 rotate_left
 ·refine aA (cY J) J <| Ua J J <| Wn <| bS J <| Rg 1 J <| Ua J J <| Wn <| aL <| aJ <| post (n := 0) (.inr J) J ?_ (.v _)
  exact congrArg (fun z => LV.v (.int .i64 z)) (show _ = askS ss goal ns sts by unfold askS; first | rw [if_pos hA, if_pos h26] | rw [if_pos hA, if_neg (by rw [h26]; decide), if_pos h29] | rw [if_pos hA, if_neg (by rw [h26]; decide), if_neg (by rw [h29]; decide)] | rw [if_neg (fun hq => by obtain ⟨q1, q2, q3⟩ := hq; simp_all)])
 refine aA (cY J) J <| Ua J J <| Wn <| bV J <| bZ <| aF <| Rg 1 J <| Ua J J <| Wn <| aL <| post (n := 0) (.inr J) J ?_ (.v _)
 exact congrArg (fun z => LV.v (.int .i64 z)) (show _ = askS ss goal ns sts by unfold askS; first | rw [if_pos hA, if_pos h26] | rw [if_pos hA, if_neg (by rw [h26]; decide), if_pos h29] | rw [if_pos hA, if_neg (by rw [h26]; decide), if_neg (by rw [h29]; decide)] | rw [if_neg (fun hq => by obtain ⟨q1, q2, q3⟩ := hq; simp_all)])
end Go.Proofs.YtcblgjaomljikaaGreat
namespace Go.Proofs.YtcblgjaomljikaaGreat
open Go.Ab Go.RowKit
theorem suct_run (k : Nat) (ss : List Go.Ab.ST) (z : Int) (u : X) (hC : Chn ss) (h0 : 0 ≤ z) (h1 : z < ss.length) (hub : Bd 34359738368 u.1) : Run Tryz.prog T E0 (.call 110 [lvMo k ss, .v (.int .i64 z), lvX u] (.v (.int .i64 (sucS ss u.1 z)))) := by
 have := suc_run k z.toNat ss u om (hC.one _ om) (hC.few _ om) (hC.num _ om) hub
 rw [Int.toNat_of_nonneg h0] at this
 exact this
theorem drawn1_run (a : NM) : Run Tryz.prog T E0 (.call 109 [lvM a] (.v (.bool (offD a)))) := by
 refine bA Tryz.func109 J J (cU J) <| Rg 2 J <| bE (dO J J) J <| Ua J J <| Wn <| Rg 11 J <| aA (bD J J J J J) J <| aA (aN J J J J J) J <| aA (bP J J) J <| aV (fun h5 => ?_) (fun h5 => ?_)
 ·refine Um J J <| K1 J J <| K1 J J <| K1 J J <| K1 J J <| K1 J J <| aA (bI J J) J <| Ua J J <| Wn <| aL <| post (n := 0) (.inr J) J ?_ dD
  exact congrArg (fun z => LV.v (.bool z)) (by first | (show true = _; unfold offD; rw [decide_eq_true h5]; rfl) | (unfold offD; rw [decide_eq_false h5, Bool.false_or]))
 refine Um J J <| aE J (bD J J J J J) J <| aE J (aN J J J J J) J <| aE J (bD J J J J J) J <| aE J (aN J J J J J) J <| aE J (fD J J) J <| aA (bF J J) J <| Ua J J <| Wn <| aL <| post (n := 0) (.inr J) J ?_ dD
 exact congrArg (fun z => LV.v (.bool z)) (by first | (show true = _; unfold offD; rw [decide_eq_true h5]; rfl) | (unfold offD; rw [decide_eq_false h5, Bool.false_or]))
theorem lA (kn : Nat) (ns : List NM) (ln : ns.length < 1099511627776) : Run Tryz.prog T E0 (.call 60 [.sl kn (ns.map mc)] (.v (.int .i64 (drawS ns)))) := by
 refine bA Tryz.func60 J J (cU J) <| Rg 1 J <| Ua J J <| Wn <| aB <| Rg 7 J <| Um J J <| aA (aU J J) J <| aA (dK J J) J <| aV (fun h5 => ?_) (fun h5 => ?_)
 ·refine Um J J <| K1 J J <| K1 J J <| aA (bI J J) J <| Wn <| aO J <| aB <| Rg 1 J <| Ua J J <| Wn <| aW <| post (n := 0) (.inr J) J ?_ dD
  exact congrArg (fun z => LV.v (.int .i64 z)) (show _ = drawS ns by first | exact drawS_2 h8 | exact drawS_1 h5 h8 | exact drawS_3 h5)
 refine Um J J <| aE J (dL J) J <| aE J (iH [] [.sl kn (ns.map mc), .fn (.func 109) [] []] J (con1_run kn ns 109 [] offD (by simp) om (fun a ha => drawn1_run a)) (SnapB.datas (by intro c hc; simp only [List.mem_cons, List.not_mem_nil, or_false] at hc; rcases hc with rfl | rfl; exact .sl _ _ (bL gO); exact dfn d0 d0)) kO) J <| dB (fun h8 => ?_) (fun h8 => ?_)
 ·refine aA (bF J J) J <| Wn <| aO J <| aB <| Rg 1 J <| Ua J J <| Wn <| aW <| post (n := 0) (.inr J) J ?_ dD
  exact congrArg (fun z => LV.v (.int .i64 z)) (show _ = drawS ns by first | exact drawS_2 h8 | exact drawS_1 h5 h8 | exact drawS_3 h5)
 refine aA (bF J J) J <| Wn <| aS J <| aD <| Rg 1 J <| Ua J J <| Wn <| aL <| post (n := 0) (.inr J) J ?_ dD
 exact congrArg (fun z => LV.v (.int .i64 z)) (show _ = drawS ns by first | exact drawS_2 h8 | exact drawS_1 h5 h8 | exact drawS_3 h5)
theorem mK (z r : Int) (g : FuncId) (cap : List LV) (hcap : ∀ c, c ∈ cap → Go.Ab.Data c) (hr : z = 0 → Run Tryz.prog T E0 (.call g cap (.v (.int .i64 r)))) : Run Tryz.prog T E0 (.call 58 [.v (.int .i64 (z : Int)), .fn (.func g) [] cap] (.v (.int .i64 (bothS z r)))) := by
 refine bA Tryz.func58 J J (cU J) <| Rg 1 J <| Ua J J <| Wn <| aB <| Rg 2 J <| Um J J <| aA (fK J J) J <| aV (fun h6 => ?_) (fun h6 => ?_)
 ·refine Wn <| aO J <| aB <| Rg 2 J <| Um J J <| Ua J J <| Wn <| aW <| post (n := 0) (.inr J) J ?_ dD
  exact congrArg (fun z => LV.v (.int .i64 z)) (show _ = bothS z r by unfold bothS; first | rw [if_neg om] | rw [if_pos om])
 refine Wn <| aS J <| aD <| Rg 3 J <| Um J J <| aA (oCallVD J J (hr om) (data3 d0 d0 hcap)) J <| Ua J J <| Wn <| aL <| post (n := 0) (.inr J) J ?_ dD
 exact congrArg (fun z => LV.v (.int .i64 z)) (show _ = bothS z r by unfold bothS; first | rw [if_neg om] | rw [if_pos om])
theorem runc_run (kn : Nat) (ns : List NM) (ln : ns.length < 1099511627776) : Run Tryz.prog T E0 (.call 59 [.ro [.sl kn (ns.map mc)]] (.v (.int .i64 (drawS ns)))) := by
 refine bA Tryz.func59 J J (cU J) <| Rg 1 J <| Ua J J <| Wn <| Rg 3 J <| aA (cW (l := .sl kn (ns.map mc)) J J J) J <| aA (aM J (lA kn ns ln) (aY (by intro c hc; simp only [List.mem_cons, List.not_mem_nil, or_false] at hc; rcases hc with rfl; exact (.sl _ _ (bL gO))))) J <| Ua J J <| Wn <| aL ?_
 exact post (n := 0) (.inr J) J J (by simp)
theorem jointc_run (kn : Nat) (ns : List NM) (ln : ns.length < 1099511627776) : Run Tryz.prog T E0 (.call 63 [.ro [.sl kn (ns.map mc)]] (.v (.int .i64 (drawS ns)))) := by
 refine bA Tryz.func63 J J (cU J) <| Rg 1 J <| Ua J J <| Wn <| Rg 3 J <| aA (cW (l := .sl kn (ns.map mc)) J J J) J <| aA (aM J (lA kn ns ln) (aY (by intro c hc; simp only [List.mem_cons, List.not_mem_nil, or_false] at hc; rcases hc with rfl; exact (.sl _ _ (bL gO))))) J <| Ua J J <| Wn <| aL ?_
 exact post (n := 0) (.inr J) J J (by simp)
theorem rE (k ku : Nat) (ss : List Go.Ab.ST) (s : Int) (xs : List X) (hC : Chn ss) (h0 : 0 ≤ s) (h1 : s < ss.length) (lx : xs.length ≤ 200) (hxb : ∀ x, x ∈ xs → Bd 34359738368 x.1) : Run Tryz.prog T E0 (.call 61 [lvMo k ss, .v (.int .i64 (s : Int)), .sl ku (xs.map xc)] (lvL (kd2 xs.length) (runL ss s (rvs xs)))) := by
 refine bA Tryz.func61 J J (cU J) <| Rg 2 J <| bE (dO J J) J <| Ua J J <| Wn <| Rg 3 J <| Um J J <| aA (cP (cs := [_]) (rows := [[_]]) J J (by decide) J J J) J <| Ua J J <| Wn <| aB <| Rg 3 J <| Um J J <| aA (aU J J) J <| Um J J <| Wn <| aK <| aZ (α := Nat × Nat × Int × (List Int)) (fun ⟨i, q, z, out⟩ => [(1, .v (.int .i64 (z : Int))), (3, .ptr 0 0), (7, outW i q 1 (out.map ic)), (12, .sl ku (xs.map xc)), (13, .v (.int .i64 (xs.length : Int))), (14, .v (.int .i64 (i : Int)))]) (fun ⟨i, q, z, out⟩ => outWH i q 1 (3) (out.map ic) [(0, { cells := [.sl k (ss.map stc)], sz := 1, elem := (24), st := 0 })]) (fun ⟨i, q, z, out⟩ n => i ≤ xs.length ∧ out = runL ss s ((rvs xs).take i) ∧ z = runS ss s ((rvs xs).take i) ∧ 0 < q ∧ q < n) (fun ⟨i, q, z, out⟩ => xs.length - i) (0, 1, s, [s]) ⟨J, J, J, J, J, J, trivial⟩ ⟨g0, trivial⟩ ⟨Nat.zero_le _, rfl, rfl, om, om⟩ ?_
 rintro ⟨i, q, z, out⟩ n hF
 change WC _ _ _ _ _ [(1, .v (.int .i64 (z : Int))), (3, .ptr 0 0), (7, outW i q 1 (out.map ic)), (12, .sl ku (xs.map xc)), (13, .v (.int .i64 (xs.length : Int))), (14, .v (.int .i64 (i : Int)))] (outWH i q 1 (3) (out.map ic) [(0, { cells := [.sl k (ss.map stc)], sz := 1, elem := (24), st := 0 })]) n _
 obtain ⟨hi, hout, hz, hq, hqn⟩ := hF
 have hol : out.length = i + 1 := by rw [hout, gK, List.length_take, nE]; omega
 have hzb := hC.run h0 h1 ((rvs xs).take i)
 rw [← hz] at hzb
 refine Rg 1 J <| aA (bP J J) J <| aV (fun h15 => ?_) (fun h15 => ?_)
 rotate_left
 ·refine Wn <| aS J <| aX <| aP <| aR J <| Rg 2 J <| Um J J <| Ua J J <| Wn <| aL ?_
  have hin : i = xs.length := by omega
  subst hin
  rw [List.take_of_length_le (by rw [nE]; omega)] at hout
  subst hout
  exact postWs (n := 0) (m := xs.length) (us := (runL ss s (rvs xs)).map ic) (.inr J) J (by decide) (gB (n := 1) (fun _ => rfl)) (bL dic1)
 refine Wn <| aO J <| aD <| aK ?_
 have hm := bN (us := xs) (i := i) om
 refine Rg 4 J <| aA (bQ J J J J J om J) J <| aA (cW (l := .agg (xc (xs.getD i default))) J J J) J <| bE (eM J) J <| bB (cM (cs' := xc (xs.getD i default)) J J J g0 J J J J) <| Wn <| Rg 5 J <| aA (aN (l := lvMo k ss) J J (by repeat (first | exact g0 | refine g1 om ?_ | refine gZ om ?_)) J J) J ?_
 refine Um J J <| aA (aN (l := lvX (xs.getD i default)) J J g0 J J) J <| aA (aM J (suct_run k ss z (xs.getD i default) hC hzb.1 hzb.2 (hxb _ hm)) (aY (by intro c hc; simp only [List.mem_cons, List.not_mem_nil, or_false] at hc; rcases hc with rfl | rfl | rfl; exact iK; exact (.v _); exact iK))) J <| Ua J J <| Wn <| aH (z := 5) J <| Um J J <| Um J J <| aA (cP (cs := [_]) (rows := [[_]]) J J (by decide) J J J) J ?_
 have hne : out ≠ [] := fun h => by rw [h] at hol; simp at hol
 refine kD (outWH i q 1 (3) (out.map ic) [(0, { cells := [.sl k (ss.map stc)], sz := 1, elem := (24), st := 0 })]) (Hp.le_skip (gZ om (gN om J)) (Hp.le_skip (gZ om (gN om J)) (Hp.le_refl _))) <| WO.apW (te := ti3) (f := ic) (m := i) (q := q) (us := out) (u := (sucS ss (xs.getD i default).1 z)) hne J J J J J (fun _ => rfl) (by decide) (by show (2 * (out.length + 1) + 256) * 8 ≤ _; omega) om (gN om J) (gN om J) J <| Ua J J <| Wn <| aF <| Ck [1,3,7,12,13,14] J <| aH (z := 2) J <| aA (cI (((i + 1 : Nat) : Int)) (aQ J J om) om) J <| Um J J <| Wn <| aG <| ⟨⟨i + 1, _, (sucS ss (xs.getD i default).1 z), out ++ [(sucS ss (xs.getD i default).1 z)]⟩, ⟨J, J, J, J, J, J, trivial⟩, ?_, ⟨om, ?_, ?_, ?_, ?_⟩, by show xs.length - (i + 1) < xs.length - i; omega⟩
 ·exact ⟨g0, g1 om g0, trivial⟩
 ·rw [runL_succ ss s _ (by rw [nE]; omega), ← hout, ← hz, rvs_get om]
 ·rw [dQ (by rw [nE]; omega), oG, ← hz, rvs_get om]
 ·omega
 ·omega
theorem qQ (k : Nat) (ss : List Go.Ab.ST) (u : X) (hC : Chn ss) (hub : Bd 34359738368 u.1) : Run Tryz.prog T E0 (.call 64 [lvMo k ss, lvX u] (lvL (kd (mapS ss u.1).length) (mapS ss u.1))) := by
 refine bA Tryz.func64 J J (cU J) <| Rg 3 J <| bE (dO J J) J <| bE (dO J J) J <| Ua J J <| Wn <| Rg 1 J <| Ua J J <| Wn <| aB <| Rg 4 J <| aA (bD J J J J J) J <| aA (aN J J gG J J) J ?_
 refine aA (aU J J) J <| Um J J <| Wn <| aK <| aZ (α := Nat × Nat × (List Int)) (fun ⟨i, q, out⟩ => [(2, .ptr 0 0), (3, .ptr (0 + 1) 0), (5, outV q 1 (out.map ic)), (9, .v (.int .i64 (ss.length : Int))), (10, .v (.int .i64 (i : Int)))]) (fun ⟨i, q, out⟩ => outH q 1 (3) (out.map ic) [((0 + 1), { cells := xc (u), sz := 4, elem := (103), st := 0 }), (0, { cells := [.sl k (ss.map stc)], sz := 1, elem := (24), st := 0 })]) (fun ⟨i, q, out⟩ n => i ≤ ss.length ∧ out = (List.range i).map (fun s : Nat => sucS ss u.1 (s : Int)) ∧ 1 < q ∧ q < n) (fun ⟨i, q, out⟩ => ss.length - i) (0, 2, []) ⟨J, J, J, J, J, trivial⟩ ⟨gG, gG, trivial⟩ ⟨Nat.zero_le _, rfl, om, om⟩ ?_
 rintro ⟨i, q, out⟩ n hF
 change WC _ _ _ _ _ (_ :: _) (outH _ _ _ _ _) n _
 obtain ⟨hi, hout, hq, hqn⟩ := hF
 have hol : out.length = i := by rw [hout]; simp
 have hl40 := hC.len
 refine Rg 1 J <| aA (bP J J) J <| aV (fun h11 => ?_) (fun h11 => ?_)
 rotate_left
 ·refine Wn <| aS J <| aX <| aP <| aR J <| Rg 2 J <| Um J J <| Ua J J <| Wn <| aL ?_
  have hin : i = ss.length := by omega
  rw [hin] at hout
  have hk : lvL (kd (mapS ss u.1).length) (mapS ss u.1) = outR (out.map ic) := by rw [outR_kd, hout]; rfl
  rw [hk]
  exact jU (n := 0) (.inr J) J (by decide) (gB (n := 1) (fun _ => rfl)) (bL dic1)
 refine Wn <| aO J <| aD <| aK <| Rg 2 J <| Um J J <| Ua J J <| Wn <| aH (z := 8) J <| Um J J <| aA (aN (l := lvMo k ss) J J (by repeat (first | exact g0 | refine g1 om ?_ | refine fF om ?_)) J J) J ?_
 refine Um J J <| aA (aN (l := lvX u) J J (by repeat (first | exact g0 | refine g1 om ?_ | refine fF om ?_)) J J) J ?_
 refine aA (aM J (suct_run k ss (i : Int) u hC om om hub) (aY (by intro c hc; simp only [List.mem_cons, List.not_mem_nil, or_false] at hc; rcases hc with rfl | rfl | rfl; exact iK; exact (.v _); exact iK))) J <| aA (cP (cs := [_]) (rows := [[_]]) J J (by decide) J J J) J <| cS (te := ti3) (f := ic) (q := q) (us := out) (u := (sucS ss u.1 (i : Int))) J J J J J (fun _ => rfl) (by decide) (by show (2 * (out.length + 1) + 256) * 8 ≤ _; omega) om (gN om (gN om J)) (gN om (gN om J)) J <| Ua J J <| Wn <| aF <| Ck [2,3,5,9,10] J <| aH (z := 2) J <| aA (cI (((i + 1 : Nat) : Int)) (aQ J J om) om) J <| Um J J <| Wn <| aG <| ⟨⟨i + 1, _, out ++ [sucS ss u.1 (i : Int)]⟩, ⟨J, J, J, J, J, trivial⟩, ?_, ⟨om, ?_, ?_, ?_⟩, by show ss.length - (i + 1) < ss.length - i; omega⟩
 ·exact mD (fun hne => by rw [mY hne]; exact g0) ⟨(by repeat (first | exact g0 | refine g1 om ?_ | refine fF om ?_)), (by repeat (first | exact g0 | refine g1 om ?_ | refine fF om ?_)), trivial⟩
 ·rw [List.range_succ, List.map_append, ← hout]; rfl
 ·omega
 ·omega
end Go.Proofs.YtcblgjaomljikaaGreat
namespace Go.Proofs.YtcblgjaomljikaaGreat
open Go.Ab Go.RowKit
theorem qC (km L : Nat) (ms : List (List Int)) (hL : L ≤ 40) (lm : ms.length < 1099511627776) (hms : ∀ f, f ∈ ms → f.length = L ∧ ∀ v, v ∈ f → 0 ≤ v ∧ v < (L : Int)) : Run Tryz.prog T E0 (.call 65 [.v (.int .i64 (L : Int)), .sl km (ms.map lstF)] (lvL 1 (cmpL L ms))) := by
 refine bA Tryz.func65 J J (cU J) <| Rg 1 J <| Ua J J <| Wn <| Rg 3 J <| Um J J <| bE (oMk (a := L) (b := L) J J J J om om (by decide) om (by show 8 * L ≤ _; omega) om) J <| Ua J J <| Wn <| aB <| Rg 3 J <| Um J J <| aA (oT J J) J <| Um J J <| Wn <| aK <| aZ (α := Nat × (List Int)) (fun ⟨i, us⟩ => [(1, .sl km (ms.map lstF)), (5, .ref 2 1 0 L), (12, .v (.int .i64 (L : Int))), (13, .v (.int .i64 (i : Int)))]) (fun ⟨i, us⟩ => [(2, { cells := ((us).map ic).flatten, sz := 1, elem := (3), st := 0 })]) (fun ⟨i, us⟩ n => i ≤ L ∧ us.length = L ∧ (∀ a : Nat, a < i → us.getD a default = cmpS ms (a : Int)) ∧ 2 < n) (fun ⟨i, us⟩ => L - i) (0, List.replicate L 0) ⟨J, J, J, J, trivial⟩ ⟨g0.trans (by rw [List.map_replicate]; rfl), trivial⟩ ⟨Nat.zero_le _, by simp, fun a ha => absurd ha om, om⟩ ?_
 rintro ⟨i, us⟩ n hF
 change WC _ _ _ _ _ (_ :: _) (_ :: _) n _
 obtain ⟨hi, hul, hus, hn⟩ := hF
 refine Rg 1 J <| aA (bP J J) J <| aV (fun h14 => ?_) (fun h14 => ?_)
 rotate_left
 ·refine Wn <| aS J <| aX <| aP <| aR J <| Rg 2 J <| Um J J <| Ua J J <| Wn <| aL ?_
  have hil : i = L := by omega
  have hu : us = cmpL L ms := by
   refine qL (by rw [hul]; simp [cmpL]) fun a ha => ?_
   rw [hus a om]
   exact (eF (f := fun s : Nat => cmpS ms (s : Int)) om).symm
  rw [← hu]
  exact nA (n := 0) (us.map ic) (.inr J) J (by rw [List.length_map, hul]) g0 (by show (0 : Nat) ≠ 2; decide) J (by decide) J (gB (n := 1) (fun _ => rfl)) (bL dic1)
 refine Wn <| aO J <| aD <| aK <| Rg 2 J <| Um J J <| Ua J J <| Wn <| Rg 5 J <| Um J J <| Um J J <| Um J J <| aA (cX (j := i) J J J J om om J) J <| bB (fE (f := ic) (us := us) (i : Int) J J J g0 (fun _ => rfl) J J om J) <| Wn <| Rg 3 J <| Um J J <| aA (aU J J) J <| Um J J <| Wn <| cJ <| aZ (α := Nat × (List Int)) (fun ⟨j, vs⟩ => [(1, .sl km (ms.map lstF)), (5, .ref 2 1 0 L), (6, .v (.int .i64 (i : Int))), (12, .v (.int .i64 (L : Int))), (13, .v (.int .i64 (i : Int))), (20, .sl km (ms.map lstF)), (21, .v (.int .i64 (ms.length : Int))), (22, .v (.int .i64 (j : Int)))]) (fun ⟨j, vs⟩ => [(2, { cells := ((vs).map ic).flatten, sz := 1, elem := (3), st := 0 })]) (fun ⟨j, vs⟩ n => j ≤ ms.length ∧ vs.length = L ∧ (∀ a : Nat, a < i → vs.getD a default = cmpS ms (a : Int)) ∧ vs.getD i default = cmpS (ms.take j) (i : Int) ∧ 2 < n) (fun ⟨j, vs⟩ => ms.length - j) (0, us.set i (i : Int)) ⟨J, J, J, J, J, J, J, J, trivial⟩ ⟨g0, trivial⟩ ⟨Nat.zero_le _, by rw [List.length_set]; exact hul, fun a ha => by rw [bY om, if_neg om]; exact hus a ha, by rw [bY om, if_pos J]; rfl, om⟩ ?_
 rintro ⟨j, vs⟩ n hF
 change WC _ _ _ _ _ (_ :: _) (_ :: _) n _
 obtain ⟨hj, hvl, hvs, hvi, hn2⟩ := hF
 have hvb := cmpS_mem (ms := ms.take j) (L := L) (fun f hf => (hms f (List.mem_of_mem_take hf)).2) (fun f hf => (hms f (List.mem_of_mem_take hf)).1) (z := (i : Int)) om om
 rw [← hvi] at hvb
 refine Rg 1 J <| aA (bP J J) J <| aV (fun h23 => ?_) (fun h23 => ?_)
 rotate_left
 ·refine Wn <| aS J <| aX <| aP <| eQ J <| aF <| aH (z := 2) J <| aA (cI (((i + 1 : Nat) : Int)) (aQ J J om) om) J <| Um J J <| Wn <| aG <| ⟨⟨i + 1, vs⟩, ⟨J, J, J, J, trivial⟩, ⟨gG, trivial⟩, ⟨om, hvl, fun a ha => ?_, om⟩, by show L - (i + 1) < L - i; omega⟩
  by_cases e : a = i
  ·rw [e, hvi, List.take_of_length_le om]
  ·exact hvs a om
 refine Wn <| aO J <| aD <| aK ?_
 have hm := hms _ (bN (us := ms) (i := j) om)
 refine Rg 3 J <| aA (bQ (j := j) J J J J om om J) J <| aA (cW (l := lvL (kd (ms.getD j default).length) (ms.getD j default)) J J J) J <| Ua J J <| Wn <| aH (z := 11) J <| Um J J <| Um J J <| Um J J <| Um J J <| Um J J <| aA (cX (j := i) J J J J om om J) J <| aA (bG (b := .v (.int .i64 ((vs.getD i default) : Int))) (fV (f := ic) (us := vs) J J g0 (fun _ => rfl) J (by decide) om J) J) J <| aA (bQ (f := ic) (us := (ms.getD j default)) (j := (vs.getD i default).toNat) J J J J om om J) J <| aA (cW (l := .v (.int .i64 (((ms.getD j default).getD (vs.getD i default).toNat default) : Int))) J J J) J <| aA (cX (j := i) J J J J om om J) J <| bB (fE (f := ic) (us := vs) ((ms.getD j default).getD (vs.getD i default).toNat default) J J J g0 (fun _ => rfl) J J om J) <| Wn <| aF <| Ck [1,5,6,12,13,20,21,22] J <| aH (z := 2) J <| aA (cI (((j + 1 : Nat) : Int)) (aQ J J om) om) J <| Um J J <| cL ?_
 refine aG <| ⟨⟨j + 1, vs.set i ((ms.getD j default).getD (vs.getD i default).toNat default)⟩, ⟨J, J, J, J, J, J, J, J, trivial⟩, ⟨gG, trivial⟩, ⟨om, by rw [List.length_set]; exact hvl, fun a ha => by rw [bY om, if_neg om]; exact hvs a ha, ?_, om⟩, by show ms.length - (j + 1) < ms.length - j; omega⟩
 rw [bY om, if_pos rfl, cmpS_succ om, ← hvi]
theorem mC (k kn : Nat) (ss : List Go.Ab.ST) (s : Int) (ns : List NM) (hI : ∀ s, s ∈ ss → IS s) (ln : ns.length < 1099511627776) (hN : IV ns) : Run Tryz.prog T E0 (.call 19 [lvMo k ss, .v (.int .i64 (s : Int)), .sl kn (ns.map mc)] (runO ss ns s)) := by
 refine bA Tryz.func19 J J (cU J) <| Rg 4 J <| bE (dO J J) J <| bE (dO J J) J <| Ua J J <| Ua J J <| Wn <| aB <| Rg 8 J <| aA (aN (l := lvMo k ss) J J gG J J) J ?_
 refine aA (aN (l := .sl kn (ns.map mc)) J J gG J J) J ?_
 refine Um J J <| aA (cP (cs := [_]) (rows := [[_]]) J J (by decide) J J J) J <| aA (aM J (kT k 0 kn 2 ss [] ns [s] hI (by show 0 < _; omega) ln hN (by show 1 < _; omega)) (aY (by intro c hc; simp only [List.mem_cons, List.not_mem_nil, or_false] at hc; rcases hc with rfl | rfl | rfl | rfl; exact iK; exact (.sl _ _ (by simp)); exact (.sl _ _ (bL gO)); exact (.sl _ _ (by intro r hr c hc; rw [List.mem_singleton] at hr; subst hr; exact dic1 _ c hc))))) J <| aA (oMf J) J <| aA (iH [0 + 1] [.v (.int .i64 (askS ss [] ns [s])), .fn (.func 59) [] [.ro [.sl kn (ns.map mc)]]] J (mK (askS ss [] ns [s]) (drawS ns) 59 [.ro [.sl kn (ns.map mc)]] (by intro c hc; rw [List.mem_singleton] at hc; subst hc; exact .ro _ (by intro c hc; rw [List.mem_singleton] at hc; subst hc; exact .sl _ _ (bL gO))) (fun _ => runc_run kn ns om)) (.data (.v _) (.fn .nil (.box (ob := { cells := [.sl kn (ns.map mc)], sz := 1, elem := (30), st := 0 }) gG (by simp) (by show (0 : Nat) ≠ 2; decide) (by intro c hc; rw [List.mem_singleton] at hc; subst hc; exact .sl _ _ (bL gO)) .nil) .nil)) (.cons gG (by show (0 : Nat) ≠ 2; decide) kO)) J ?_
 refine Ua J J <| Nk [1,3,5,8] J <| aB <| Rg 2 J <| Um J J <| aA (fK J J) J <| aV (fun h17 => ?_) (fun h17 => ?_)
 ·refine Wn <| aO J <| aB <| Rg 3 J <| Um J J <| Ua J J <| Ua J J <| Wn <| aW <| post (n := 0) (.inr J) J ?_ runO_data
  show _ = runO ss ns s
  unfold runO
  rw [if_neg h17]
  rfl
 refine Wn <| aS J <| aD ?_
 obtain ⟨ha, hd⟩ := both0' h17
 obtain ⟨hV, _, hvn, hst, _⟩ := ask0 ha
 obtain ⟨hnl, hdr⟩ := draw0 hd
 have hC := Chn.of hV
 have hbz : bothS (askS ss [] ns [s]) (drawS ns) = 0 := Classical.not_not.1 h17
 refine bO (z := 7) J kR <| aI (aN (l := lvMo k ss) J J gG J J) J ?_
 refine Dm J J <| aI (aN (l := .sl kn (ns.map mc)) J J gG J J) J ?_
 refine aI (aM J (oC kn ns ln hN (fun a ha => (hvn a ha).all3.2.2)) (aY (by intro c hc; simp only [List.mem_cons, List.not_mem_nil, or_false] at hc; rcases hc with rfl; exact (.sl _ _ (bL gO))))) J <| aI (aM J (rE k (kd (ns.map nx).length) ss s (ns.map nx) hC (hst s (by simp)).1 (hst s (by simp)).2 (by rw [List.length_map]; exact hnl) (nxs_bd hvn)) (aY (by intro c hc; simp only [List.mem_cons, List.not_mem_nil, or_false] at hc; rcases hc with rfl | rfl | rfl; exact iK; exact (.v _); exact (.sl _ _ (bL dxc))))) J <| aI (iG J) J <| aI (iG J) J <| bK (aT kR) J <| aL <| post (n := 0) (.inr J) J ?_ runO_data
 show _ = runO ss ns s
 unfold runO
 rw [if_pos hbz, ← fW, List.length_map]
 rfl
theorem joint_run (k kn : Nat) (ss : List Go.Ab.ST) (ns : List NM) (hI : ∀ s, s ∈ ss → IS s) (ln : ns.length < 1099511627776) (hN : IV ns) : Run Tryz.prog T E0 (.call 20 [lvMo k ss, .sl kn (ns.map mc)] (jntO ss ns)) := by
 refine bA Tryz.func20 J J (cU J) <| Rg 4 J <| bE (dO J J) J <| bE (dO J J) J <| Ua J J <| Ua J J <| Wn <| aB <| Rg 6 J <| aA (aN (l := lvMo k ss) J J gG J J) J ?_
 refine aA (aN (l := .sl kn (ns.map mc)) J J gG J J) J ?_
 refine aA (aM J (kT k 0 kn 0 ss [] ns [] hI (by show 0 < _; omega) ln hN (by show 0 < _; omega)) (aY (by intro c hc; simp only [List.mem_cons, List.not_mem_nil, or_false] at hc; rcases hc with rfl | rfl | rfl | rfl; exact iK; exact (.sl _ _ (by simp)); exact (.sl _ _ (bL gO)); exact (.sl _ _ (by simp))))) J <| aA (oMf J) J <| aA (iH [0 + 1] [.v (.int .i64 (askS ss [] ns [])), .fn (.func 63) [] [.ro [.sl kn (ns.map mc)]]] J (mK (askS ss [] ns []) (drawS ns) 63 [.ro [.sl kn (ns.map mc)]] (by intro c hc; rw [List.mem_singleton] at hc; subst hc; exact .ro _ (by intro c hc; rw [List.mem_singleton] at hc; subst hc; exact .sl _ _ (bL gO))) (fun _ => jointc_run kn ns om)) (.data (.v _) (.fn .nil (.box (ob := { cells := [.sl kn (ns.map mc)], sz := 1, elem := (30), st := 0 }) gG (by simp) (by show (0 : Nat) ≠ 2; decide) (by intro c hc; rw [List.mem_singleton] at hc; subst hc; exact .sl _ _ (bL gO)) .nil) .nil)) (.cons gG (by show (0 : Nat) ≠ 2; decide) kO)) J ?_
 refine Ua J J <| Wn <| aB <| Rg 2 J <| Um J J <| aA (fK J J) J <| aV (fun h16 => ?_) (fun h16 => ?_)
 ·refine Wn <| aO J <| aB <| Rg 3 J <| Um J J <| Ua J J <| Ua J J <| Nk [4,5] J <| aW <| post (n := 0) (.inr J) J ?_ jntO_data
  show _ = jntO ss ns
  unfold jntO
  rw [if_neg h16]
  rfl
 refine Wn <| aS J <| aD ?_
 obtain ⟨ha, hd⟩ := both0' h16
 obtain ⟨hV, _, hvn, hst, _⟩ := ask0 ha
 obtain ⟨hnl, hdr⟩ := draw0 hd
 have hC := Chn.of hV
 have hbz : bothS (askS ss [] ns []) (drawS ns) = 0 := Classical.not_not.1 h16
 refine Rg 1 J <| Ua J J <| Nk [2,3,7] J <| aB <| Rg 4 J <| aA (aN (l := .sl kn (ns.map mc)) J J gG J J) J ?_
 refine aA (aM J (oC kn ns ln hN (fun a ha => (hvn a ha).all3.2.2)) (aY (by intro c hc; simp only [List.mem_cons, List.not_mem_nil, or_false] at hc; rcases hc with rfl; exact (.sl _ _ (bL gO))))) J <| aA (aU J J) J <| Um J J <| Wn <| aK <| aZ (α := Nat × Nat × (List (List Int))) (fun ⟨i, q, mm⟩ => [(2, .ptr 0 0), (7, outV q 1 (mm.map lstF)), (19, .sl (kd (ns.map nx).length) ((ns.map nx).map xc)), (20, .v (.int .i64 ((ns.map nx).length : Int))), (21, .v (.int .i64 (i : Int)))]) (fun ⟨i, q, mm⟩ => outH q 1 (25) (mm.map lstF) [(1, { cells := [.sl kn (ns.map mc)], sz := 1, elem := (30), st := 0 }), (0, { cells := [.sl k (ss.map stc)], sz := 1, elem := (24), st := 0 })]) (fun ⟨i, q, mm⟩ n => i ≤ ns.length ∧ mm = (ns.take i).map (fun a => mapS ss (nq a)) ∧ 1 < q ∧ q < n) (fun ⟨i, q, mm⟩ => ns.length - i) (0, 2, []) ⟨J, J, J, J, J, trivial⟩ ⟨gG, gG, trivial⟩ ⟨Nat.zero_le _, rfl, om, om⟩ ?_
 rintro ⟨i, q, mm⟩ n hF
 change WC _ _ _ _ _ (_ :: _) (outH _ _ _ _ _) n _
 obtain ⟨hi, hmm, hq, hqn⟩ := hF
 have hml : mm.length = i := by rw [hmm]; simp; omega
 have hnx : (ns.map nx).length = ns.length := List.length_map _
 refine WC.regF (z := 1) J <| aA (bP J J) J <| aV (fun h22 => ?_) (fun h22 => ?_)
 rotate_left
 ·refine Wn <| Fz.env (t := 7) (us := mm.map lstF) [(2, _), (19, _), (20, _), (21, _), (22, _)] ⟨J, J, J, J, J, trivial⟩ J (fun _ r o hr e => by rw [e] at hr; have h0 : getH [(1, { cells := [.sl kn (ns.map mc)], sz := 1, elem := (30), st := 0 }), (0, { cells := [.sl k (ss.map stc)], sz := 1, elem := (24), st := 0 })] q = none := gN om (gN om J); rw [h0] at hr; cases hr) (by decide) (gB (n := 1) (fun _ => rfl)) (bL dlst) <| aS J <| aX <| aP <| aR J <| Rg 7 J <| aA (bD J J J J J) J <| aA (aN J J gG J J) J ?_
  refine aA (aU J J) J <| Um J J <| aA (aM J (qC (kd (mm.map lstF).length) ss.length mm hC.len om (fun f hf => by rw [hmm] at hf; obtain ⟨a, _, rfl⟩ := List.mem_map.1 hf; exact pQ hC _)) (aY (by intro c hc; simp only [List.mem_cons, List.not_mem_nil, or_false] at hc; rcases hc with rfl | rfl; exact (.v _); exact (.sl _ _ (bL dlst))))) J <| Ua J J <| Ua J J <| Wn <| aL <| post (n := 0) (.inr J) J ?_ jntO_data
  show _ = jntO ss ns
  unfold jntO
  rw [if_pos hbz, hmm, List.take_of_length_le om]
  rfl
 refine Wn <| Fz.same [(2, _), (7, _), (19, _), (20, _), (21, _), (22, _)] _ ⟨J, J, J, J, J, J, trivial⟩ (fun _ _ h => h) <| aO J <| aD <| aK ?_
 have hm := bN (us := ns.map nx) (i := i) om
 refine Rg 4 J <| aA (bQ J J J J J om J) J <| aA (cW (l := .agg (xc ((ns.map nx).getD i default))) J J J) J <| bE (eM J) J <| bB (cM (cs' := xc ((ns.map nx).getD i default)) J J J g0 J J J J) <| Wn <| aH (z := 7) J <| Um J J <| aA (aN (l := lvMo k ss) J J (by repeat (first | exact g0 | refine g1 om ?_ | refine fF om ?_)) J J) J ?_
 refine aA (aN (l := lvX ((ns.map nx).getD i default)) J J g0 J J) J <| aA (aM J (qQ k ss ((ns.map nx).getD i default) hC (nxs_bd hvn _ hm)) (aY (by intro c hc; simp only [List.mem_cons, List.not_mem_nil, or_false] at hc; rcases hc with rfl | rfl; exact iK; exact iK))) J <| aA (cP (cs := [_]) (rows := [[_]]) J J (by decide) J J J) J <| kD (outH q 1 (25) (mm.map lstF) [(1, { cells := [.sl kn (ns.map mc)], sz := 1, elem := (30), st := 0 }), (0, { cells := [.sl k (ss.map stc)], sz := 1, elem := (24), st := 0 })]) (Hp.le_skip (lE om (gN om (gN om J))) (Hp.le_skip (lE om (gN om (gN om J))) (Hp.le_refl _))) <| cS (te := ti25) (f := lstF) (q := q) (us := mm) (u := mapS ss ((ns.map nx).getD i default).1) J J J J J (fun _ => rfl) (by decide) (by show (2 * (mm.length + 1) + 256) * 24 ≤ _; omega) om (gN om (gN om J)) (gN om (gN om J)) J <| Ua J J <| Wn <| aF <| Ck [2,7,19,20,21] J <| aH (z := 2) J <| aA (cI (((i + 1 : Nat) : Int)) (aQ J J om) om) J <| Um J J <| Wn <| aG <| ⟨⟨i + 1, _, mm ++ [mapS ss ((ns.map nx).getD i default).1]⟩, ⟨J, J, J, J, J, trivial⟩, ?_, ⟨om, ?_, ?_, ?_⟩, by show ns.length - (i + 1) < ns.length - i; omega⟩
 ·exact mD (fun hne => by rw [mY hne]; exact g0) ⟨(by repeat (first | exact g0 | refine g1 om ?_ | refine fF om ?_)), (by repeat (first | exact g0 | refine g1 om ?_ | refine fF om ?_)), trivial⟩
 ·rw [dQ om, List.map_append, ← hmm, mapD (f := nx) om]; rfl
 ·omega
 ·omega
end Go.Proofs.YtcblgjaomljikaaGreat
namespace Go.Proofs.YtcblgjaomljikaaGreat
open Go.Ab Go.RowKit
theorem pastc_run (kn : Nat) (ns : List NM) (ln : ns.length < 1099511627776) : Run Tryz.prog T E0 (.call 66 [.ro [.sl kn (ns.map mc)]] (.v (.int .i64 (drawS ns)))) := by
 refine bA Tryz.func66 J J (cU J) <| Rg 1 J <| Ua J J <| Wn <| Rg 3 J <| aA (cW (l := .sl kn (ns.map mc)) J J J) J <| aA (aM J (lA kn ns ln) (aY (by intro c hc; simp only [List.mem_cons, List.not_mem_nil, or_false] at hc; rcases hc with rfl; exact (.sl _ _ (bL gO))))) J <| Ua J J <| Wn <| aL ?_
 exact post (n := 0) (.inr J) J J (by simp)
theorem meetc_run (kn : Nat) (ns : List NM) (ln : ns.length < 1099511627776) : Run Tryz.prog T E0 (.call 69 [.ro [.sl kn (ns.map mc)]] (.v (.int .i64 (drawS ns)))) := by
 refine bA Tryz.func69 J J (cU J) <| Rg 1 J <| Ua J J <| Wn <| Rg 3 J <| aA (cW (l := .sl kn (ns.map mc)) J J J) J <| aA (aM J (lA kn ns ln) (aY (by intro c hc; simp only [List.mem_cons, List.not_mem_nil, or_false] at hc; rcases hc with rfl; exact (.sl _ _ (bL gO))))) J <| Ua J J <| Wn <| aL ?_
 exact post (n := 0) (.inr J) J J (by simp)
theorem past2_run (k : Nat) (l : List Int) (z : Int) (hl : 0 < l.length) : Run Tryz.prog T E0 (.call 67 [.v (.int .i64 (z : Int)), .ro [lvL k l]] (.v (.bool (decide (z ≠ l.getD 0 default))))) := by
 refine bA Tryz.func67 J J (cU J) <| Rg 1 J <| Ua J J <| Wn <| Rg 6 J <| Um J J <| aA (cW (l := lvL k l) J J J) J <| aA (bQ (j := 0) J J J J om om J) J <| aA (cW J J J) J <| aA (fK J J) J <| Ua J J <| Wn <| aL ?_
 exact post (n := 0) (.inr J) J J (by simp)
theorem past_run (k kn : Nat) (ss : List Go.Ab.ST) (ns : List NM) (hI : ∀ s, s ∈ ss → IS s) (ln : ns.length < 1099511627776) (hN : IV ns) : Run Tryz.prog T E0 (.call 21 [lvMo k ss, .sl kn (ns.map mc)] (pastO ss ns)) := by
 refine bA Tryz.func21 J J (cU J) <| Rg 5 J <| bE (dO J J) J <| bE (dO J J) J <| Ua J J <| Ua J J <| Ua J J <| Wn <| aB <| Rg 6 J <| aA (aN (l := lvMo k ss) J J gG J J) J ?_
 refine aA (aN (l := .sl kn (ns.map mc)) J J gG J J) J ?_
 refine aA (aM J (kT k 0 kn 0 ss [] ns [] hI (by show 0 < _; omega) ln hN (by show 0 < _; omega)) (aY (by intro c hc; simp only [List.mem_cons, List.not_mem_nil, or_false] at hc; rcases hc with rfl | rfl | rfl | rfl; exact iK; exact (.sl _ _ (by simp)); exact (.sl _ _ (bL gO)); exact (.sl _ _ (by simp))))) J <| aA (oMf J) J <| aA (iH [0 + 1] [.v (.int .i64 (askS ss [] ns [])), .fn (.func 66) [] [.ro [.sl kn (ns.map mc)]]] J (mK (askS ss [] ns []) (drawS ns) 66 [.ro [.sl kn (ns.map mc)]] (by intro c hc; rw [List.mem_singleton] at hc; subst hc; exact .ro _ (by intro c hc; rw [List.mem_singleton] at hc; subst hc; exact .sl _ _ (bL gO))) (fun _ => pastc_run kn ns om)) (.data (.v _) (.fn .nil (.box (ob := { cells := [.sl kn (ns.map mc)], sz := 1, elem := (30), st := 0 }) gG (by simp) (by show (0 : Nat) ≠ 2; decide) (by intro c hc; rw [List.mem_singleton] at hc; subst hc; exact .sl _ _ (bL gO)) .nil) .nil)) (.cons gG (by show (0 : Nat) ≠ 2; decide) kO)) J ?_
 refine Ua J J <| Wn <| aB <| Rg 2 J <| Um J J <| aA (fK J J) J <| aV (fun h16 => ?_) (fun h16 => ?_)
 ·refine Nk [2,3,7,16] J <| aO J <| aB <| Rg 4 J <| Um J J <| Ua J J <| Ua J J <| Ua J J <| Wn <| aW <| post (n := 0) (.inr J) J ?_ lY
  first | exact pastO_3 h16 | exact pastO_1 hbz hi (by unfold sameL; rw [h26]; rfl) hne | exact pastO_2 hbz om (by unfold sameL; rw [h26]; rfl) hne
 refine Nk [2,3,7,16] J <| aS J <| aD ?_
 obtain ⟨ha, hd⟩ := both0' h16
 obtain ⟨hV, _, hvn, hst, _⟩ := ask0 ha
 obtain ⟨hnl, hdr⟩ := draw0 hd
 have hC := Chn.of hV
 have hbz : bothS (askS ss [] ns []) (drawS ns) = 0 := Classical.not_not.1 h16
 refine Rg 6 J <| aA (bD J J J J J) J <| aA (aN J J gG J J) J ?_
 refine aA (aU J J) J <| aA (aM J (qC 0 ss.length [] hC.len (by show 0 < _; omega) (by intro f hf; cases hf)) (aY (by intro c hc; simp only [List.mem_cons, List.not_mem_nil, or_false] at hc; rcases hc with rfl | rfl; exact (.v _); exact (.sl _ _ (by simp))))) J <| bE (eM J) J <| bB (cM (cs' := [lvL 1 (cmpL ss.length [])]) J J J g0 J J J J) <| Wn <| Rg 1 J <| Ua J J <| Wn <| cJ <| aZ (α := Nat) (fun i => [(2, .ptr 0 0), (3, .ptr (0 + 1) 0), (8, .ptr 17 0), (9, .v (.int .i64 (i : Int)))]) (fun i => [(17, { cells := [lvL 1 (pJ ss ns i)], sz := 1, elem := (25), st := 0 }), (1, { cells := [.sl kn (ns.map mc)], sz := 1, elem := (30), st := 0 }), (0, { cells := [.sl k (ss.map stc)], sz := 1, elem := (24), st := 0 })]) (fun i n => i ≤ ns.length ∧ (∀ a, a < i → sameL (pJ ss ns a) = false) ∧ 17 < n) (fun i => ns.length - i) (0) ⟨J, J, J, J, trivial⟩ ⟨gG, gG, gG, trivial⟩ ⟨Nat.zero_le _, fun a ha => absurd ha om, om⟩ ?_
 rintro i n hF
 change WC _ _ _ _ _ (_ :: _) (_ :: _) n _
 obtain ⟨hi, hne, hn⟩ := hF
 have hpl := pJ_len ss ns i
 have hLp := hC.pos
 have hl40 := hC.len
 refine aK <| aB <| Rg 4 J <| aA (aN (l := lvL 1 (pJ ss ns i)) J J gG J J) J ?_
 refine aA (oMf J) J <| aA (iH [17] [lvL 1 (pJ ss ns i), .fn (.func 67) [] [.ro [lvL 1 (pJ ss ns i)]]] J (coni_run 1 (pJ ss ns i) 67 [.ro [lvL 1 (pJ ss ns i)]] (fun s => decide (s ≠ (pJ ss ns i).getD 0 default)) (by intro c hc; rw [List.mem_singleton] at hc; subst hc; exact .ro _ (by intro c hc; rw [List.mem_singleton] at hc; subst hc; exact gQ _ _)) om (fun a ha => past2_run 1 (pJ ss ns i) a om)) (.data (gQ _ _) (.fn .nil (.box (ob := { cells := [lvL 1 (pJ ss ns i)], sz := 1, elem := (25), st := 0 }) gG (by simp) (by show (0 : Nat) ≠ 2; decide) (by intro c hc; rw [List.mem_singleton] at hc; subst hc; exact gQ _ _) .nil) .nil)) (.cons gG (by show (0 : Nat) ≠ 2; decide) kO)) J ?_
 refine dB (fun h26 => ?_) (fun h26 => ?_)
 rotate_left
 ·refine aA (cY J) J <| Wn <| aO J <| aB <| bO (z := 7) J kR <| Dm J J <| aI (aN (l := lvL 1 (pJ ss ns i)) J J gG J J) J ?_
  refine aI (bQ (j := 0) J J J J om om J) J <| aI (cW J J J) J <| aI (iG J) J <| aI (iG J) J <| aI (iG J) J <| bK (aT kR) J <| Ck [4,5,6] J <| aW <| aJ <| bC <| fJ <| post (n := 0) (.inr J) J ?_ lY
  first | exact pastO_3 h16 | exact pastO_1 hbz hi (by unfold sameL; rw [h26]; rfl) hne | exact pastO_2 hbz om (by unfold sameL; rw [h26]; rfl) hne
 refine aA (cY J) J <| Wn <| aS J <| aD <| aB <| Rg 4 J <| Um J J <| aA (aN (l := .sl kn (ns.map mc)) J J gG J J) J ?_
 refine aA (aU J J) J <| aA (dS J J) J <| aV (fun h35 => ?_) (fun h35 => ?_)
 ·refine Wn <| aO J <| aB <| Rg 3 J <| Ua J J <| Ua J J <| Ua J J <| Nk [4,5,6] J <| aW <| aJ <| bC <| fJ <| post (n := 0) (.inr J) J ?_ lY
  first | exact pastO_3 h16 | exact pastO_1 hbz hi (by unfold sameL; rw [h26]; rfl) hne | exact pastO_2 hbz om (by unfold sameL; rw [h26]; rfl) hne
 refine Wn <| aS J <| aD ?_
 have hm := bN (us := ns) (i := ns.length - 1 - i) om
 have hvm := hvn _ hm
 have hms := pQ hC (nq (ns.getD (ns.length - 1 - i) default))
 refine dT (z := 18) J kR <| aI (bD J J J J J) J <| aI (aN J J gG J J) J ?_
 refine aI (aU J J) J <| aI (aN (l := lvMo k ss) J J gG J J) J ?_
 refine aI (aN (l := .sl kn (ns.map mc)) J J gG J J) J ?_
 refine aI (aN (l := .sl kn (ns.map mc)) J J gG J J) J ?_
 refine aI (aU J J) J <| aI (bT J J om) J <| Dm J J <| aI (bT J J om) J <| aI (bQ (j := (ns.length - 1 - i)) J J J J om om J) J <| aI (cW (l := .agg (mc (ns.getD (ns.length - 1 - i) default))) J J J) J <| aI (bG (b := lvX (nx (ns.getD (ns.length - 1 - i) default))) (aM J (mV (ns.getD (ns.length - 1 - i) default) hvm.all3.1 hvm.all3.2.1 hvm.all3.2.2) (aY (by intro c hc; simp only [List.mem_cons, List.not_mem_nil, or_false] at hc; rcases hc with rfl; exact (.agg _ (gO _))))) J) J <| aI (bG (b := lvL (kd (mapS ss (nq (ns.getD (ns.length - 1 - i) default))).length) (mapS ss (nq (ns.getD (ns.length - 1 - i) default)))) (aM J (qQ k ss (nx (ns.getD (ns.length - 1 - i) default)) hC (hvm.bd.mono om)) (aY (by intro c hc; simp only [List.mem_cons, List.not_mem_nil, or_false] at hc; rcases hc with rfl | rfl; exact iK; exact iK))) J) J <| aI (aN (l := lvL 1 (pJ ss ns i)) J J gG J J) J ?_
 refine aI (bG (b := .sl 2 (([mapS ss (nq (ns.getD (ns.length - 1 - i) default)), (pJ ss ns i)] : List (List Int)).map lstF)) (cP (cs := [_, _]) (rows := [[_], [_]]) J J (by decide) J J J) (two_lst _ _ om)) J <| aI (aM J (qC 2 ss.length [mapS ss (nq (ns.getD (ns.length - 1 - i) default)), (pJ ss ns i)] hC.len (by show 2 < _; omega) (by intro f hf; simp only [List.mem_cons, List.not_mem_nil, or_false] at hf; rcases hf with rfl | rfl; exact hms; exact ⟨hpl, pJ_ok hC ns i⟩)) (aY (by intro c hc; simp only [List.mem_cons, List.not_mem_nil, or_false] at hc; rcases hc with rfl | rfl; exact (.v _); exact (.sl _ _ (bL dlst))))) J <| cV (cM (cs' := [lvL 1 (cmpL ss.length [mapS ss (nq (ns.getD (ns.length - 1 - i) default)), (pJ ss ns i)])]) J J J gG J J J J) ?_
 refine bK (aT kR) J <| aF <| Ck [2,3,8,9] J <| aH (z := 3) J <| Um J J <| aA (cI (((i + 1 : Nat) : Int)) (aQ J J om) om) J <| Ua J J <| Wn <| aG <| ⟨i + 1, ⟨J, J, J, J, trivial⟩, ⟨gG, gG, gG, trivial⟩, ⟨om, fun a ha => ?_, om⟩, by show ns.length - (i + 1) < ns.length - i; omega⟩
 by_cases e : a = i
 ·rw [e]; unfold sameL; rw [h26]; rfl
 ·exact hne a om
theorem meet_run (k kn : Nat) (ss : List Go.Ab.ST) (s t : Int) (ns : List NM) (hI : ∀ s, s ∈ ss → IS s) (ln : ns.length < 1099511627776) (hN : IV ns) : Run Tryz.prog T E0 (.call 22 [lvMo k ss, .v (.int .i64 (s : Int)), .v (.int .i64 (t : Int)), .sl kn (ns.map mc)] (meetO ss s t ns)) := by
 refine bA Tryz.func22 J J (cU J) <| Rg 4 J <| bE (dO J J) J <| bE (dO J J) J <| Ua J J <| Ua J J <| Wn <| aB <| Rg 9 J <| aA (aN (l := lvMo k ss) J J gG J J) J ?_
 refine aA (aN (l := .sl kn (ns.map mc)) J J gG J J) J ?_
 refine Um J J <| Um J J <| aA (bG (b := lvL 2 [s, t]) (cP (cs := [_, _]) (rows := [[_], [_]]) J J (by decide) J J J) J) J <| aA (aM J (kT k 0 kn 2 ss [] ns [s, t] hI (by show 0 < _; omega) ln hN (by show 2 < _; omega)) (aY (by intro c hc; simp only [List.mem_cons, List.not_mem_nil, or_false] at hc; rcases hc with rfl | rfl | rfl | rfl; exact iK; exact (.sl _ _ (by simp)); exact (.sl _ _ (bL gO)); exact (gQ 2 [s, t])))) J <| aA (oMf J) J <| aA (iH [0 + 1] [.v (.int .i64 (askS ss [] ns [s, t])), .fn (.func 69) [] [.ro [.sl kn (ns.map mc)]]] J (mK (askS ss [] ns [s, t]) (drawS ns) 69 [.ro [.sl kn (ns.map mc)]] (by intro c hc; rw [List.mem_singleton] at hc; subst hc; exact .ro _ (by intro c hc; rw [List.mem_singleton] at hc; subst hc; exact .sl _ _ (bL gO))) (fun _ => meetc_run kn ns om)) (.data (.v _) (.fn .nil (.box (ob := { cells := [.sl kn (ns.map mc)], sz := 1, elem := (30), st := 0 }) gG (by simp) (by show (0 : Nat) ≠ 2; decide) (by intro c hc; rw [List.mem_singleton] at hc; subst hc; exact .sl _ _ (bL gO)) .nil) .nil)) (.cons gG (by show (0 : Nat) ≠ 2; decide) kO)) J ?_
 refine Ua J J <| Nk [1,2,4,7,10] J <| aB <| Rg 2 J <| Um J J <| aA (fK J J) J <| aV (fun h24 => ?_) (fun h24 => ?_)
 ·refine Wn <| aO J <| aB <| Rg 3 J <| Um J J <| Ua J J <| Ua J J <| Wn <| aW <| post (n := 0) (.inr J) J ?_ lT
  first | exact meetO_3 h24 | exact meetO_1 hbz (by rw [← fW]; omega) (by rw [← fW]; exact h49) (by rw [← fW]; exact hne) | exact meetO_2 hbz (fun a ha => by rw [← fW] at ha ⊢; exact hne a om)
 refine Wn <| aS J <| aD ?_
 obtain ⟨ha, hd⟩ := both0' h24
 obtain ⟨hV, _, hvn, hst, _⟩ := ask0 ha
 obtain ⟨hnl, hdr⟩ := draw0 hd
 have hC := Chn.of hV
 have hbz : bothS (askS ss [] ns [s, t]) (drawS ns) = 0 := Classical.not_not.1 h24
 refine Rg 3 J <| aA (aN (l := .sl kn (ns.map mc)) J J gG J J) J ?_
 refine aA (aM J (oC kn ns ln hN (fun a ha => (hvn a ha).all3.2.2)) (aY (by intro c hc; simp only [List.mem_cons, List.not_mem_nil, or_false] at hc; rcases hc with rfl; exact (.sl _ _ (bL gO))))) J <| Ua J J <| Wn <| bO (z := 10) J kR <| aI (aN (l := lvMo k ss) J J gG J J) J ?_
 refine Dm J J <| Dm J J <| aI (aM J (rE k (kd (ns.map nx).length) ss s (ns.map nx) hC (hst s (by simp)).1 (hst s (by simp)).2 (by rw [List.length_map]; exact hnl) (nxs_bd hvn)) (aY (by intro c hc; simp only [List.mem_cons, List.not_mem_nil, or_false] at hc; rcases hc with rfl | rfl | rfl; exact iK; exact (.v _); exact (.sl _ _ (bL dxc))))) J <| aI (aN (l := lvMo k ss) J J gG J J) J ?_
 refine Dm J J <| Dm J J <| aI (aM J (rE k (kd (ns.map nx).length) ss t (ns.map nx) hC (hst t (by simp)).1 (hst t (by simp)).2 (by rw [List.length_map]; exact hnl) (nxs_bd hvn)) (aY (by intro c hc; simp only [List.mem_cons, List.not_mem_nil, or_false] at hc; rcases hc with rfl | rfl | rfl; exact iK; exact (.v _); exact (.sl _ _ (bL dxc))))) J <| aI (iG J) J <| aI (iG J) J <| bK (aT kR) J <| Ck [12,13] J <| aB <| Rg 3 J <| Um J J <| aA (aU J J) J <| Um J J <| Wn <| aK <| aZ (α := Nat) (fun i => [(12, lvL (kd2 (ns.map nx).length) (runL ss s (rvs (ns.map nx)))), (13, lvL (kd2 (ns.map nx).length) (runL ss t (rvs (ns.map nx)))), (37, .v (.int .i64 ((runL ss s (rvs (ns.map nx))).length : Int))), (38, .v (.int .i64 (i : Int)))]) (fun i => []) (fun i n => i ≤ (runL ss s (rvs (ns.map nx))).length ∧ (∀ a, a < i → (runL ss s (rvs (ns.map nx))).getD a default ≠ (runL ss t (rvs (ns.map nx))).getD a default)) (fun i => (runL ss s (rvs (ns.map nx))).length - i) (0) ⟨J, J, J, J, trivial⟩ trivial ⟨Nat.zero_le _, fun a ha => absurd ha om⟩ ?_
 rintro i n hF
 change WC _ _ _ _ _ (_ :: _) ([]) n _
 obtain ⟨hi, hne⟩ := hF
 have hl1 := gK ss s (rvs (ns.map nx))
 have hl2 := gK ss t (rvs (ns.map nx))
 have hl3 : (rvs (ns.map nx)).length = ns.length := by rw [nE, List.length_map]
 refine Rg 1 J <| aA (bP J J) J <| aV (fun h39 => ?_) (fun h39 => ?_)
 rotate_left
 ·refine Wn <| aS J <| aX <| aP <| aR J <| Rg 2 J <| Ua J J <| Ua J J <| Wn <| aL <| post (n := 0) (.inr J) J ?_ lT
  first | exact meetO_3 h24 | exact meetO_1 hbz (by rw [← fW]; omega) (by rw [← fW]; exact h49) (by rw [← fW]; exact hne) | exact meetO_2 hbz (fun a ha => by rw [← fW] at ha ⊢; exact hne a om)
 refine Wn <| aO J <| aD <| aK <| Rg 2 J <| Um J J <| Ua J J <| Wn <| bO (z := 9) J kR <| Dm J J <| Dm J J <| aI (bQ (j := i) J J J J om om J) J <| aI (cW J J J) J <| Dm J J <| Dm J J <| aI (bQ (j := i) J J J J om om J) J <| aI (cW J J J) J <| aI (dS J J) J <| kC (fun h49 => ?_) (fun h49 => ?_)
 ·refine bK (aT kR) J <| Ck [12,13,14,37,38,49] J <| bS J <| Rg 3 J <| Um J J <| Ua J J <| Ua J J <| Wn <| aL <| aJ <| bC <| aJ <| post (n := 0) (.inr J) J ?_ lT
  first | exact meetO_3 h24 | exact meetO_1 hbz (by rw [← fW]; omega) (by rw [← fW]; exact h49) (by rw [← fW]; exact hne) | exact meetO_2 hbz (fun a ha => by rw [← fW] at ha ⊢; exact hne a om)
 refine bK (aT kR) J <| Ck [12,13,14,37,38,49] J <| bV J <| bZ <| aF <| aH (z := 2) J <| aA (cI (((i + 1 : Nat) : Int)) (aQ J J om) om) J <| Um J J <| Wn <| aG <| ⟨i + 1, ⟨J, J, J, J, trivial⟩, trivial, ⟨om, fun a ha => ?_⟩, by show (runL ss s (rvs (ns.map nx))).length - (i + 1) < (runL ss s (rvs (ns.map nx))).length - i; omega⟩
 by_cases e : a = i
 ·rw [e]; exact h49
 ·exact hne a om
end Go.Proofs.YtcblgjaomljikaaGreat
namespace Go.Proofs.YtcblgjaomljikaaGreat
open Go.Ab Go.RowKit
theorem qstate_run (k : Nat) (ss : List Go.Ab.ST) (z : Int) : Run Tryz.prog T E0 (.call 47 [lvMo k ss, .v (.int .i64 (z : Int))] (.v (.bool (!offS ss.length z)))) := by
 refine bA Tryz.func47 J J (cU J) <| Rg 2 J <| bE (dO J J) J <| Ua J J <| Wn <| Rg 10 J <| Um J J <| aA (fD J J) J <| aV (fun h6 => ?_) (fun h6 => ?_)
 ·refine Um J J <| aE J (dL J) J <| aE J (bD J J J J J) J <| aE J (aN (l := .sl k (ss.map stc)) J J gG J J) J ?_
  refine aE J (aU J J) J <| aE J (bP J J) J <| aA (bI J J) J <| Ua J J <| Wn <| aL <| post (n := 0) (.inr J) J ?_ dD
  exact congrArg (fun z => LV.v (.bool z)) (by unfold offS; first | (rw [decide_eq_true (show z < 0 by omega)]; rfl) | (rw [decide_eq_false (show ¬ z < 0 by omega), Bool.false_or, ← decide_not]; exact decide_eq_decide.2 om))
 refine Um J J <| K1 J J <| K1 J J <| K1 J J <| K1 J J <| K1 J J <| aA (bF J J) J <| Ua J J <| Wn <| aL <| post (n := 0) (.inr J) J ?_ dD
 exact congrArg (fun z => LV.v (.bool z)) (by unfold offS; first | (rw [decide_eq_true (show z < 0 by omega)]; rfl) | (rw [decide_eq_false (show ¬ z < 0 by omega), Bool.false_or, ← decide_not]; exact decide_eq_decide.2 om))
theorem qonly_run (k s : Nat) (ss : List Go.Ab.ST) (hs : s < ss.length) (hc : 1 ≤ (ss.getD s default).2.2.length) : Run Tryz.prog T E0 (.call 49 [lvMo k ss, .v (.int .i64 (s : Int))] (lvC ((ss.getD s default).2.2.getD 0 default))) := by
 refine bA Tryz.func49 J J (cU J) <| Rg 2 J <| bE (dO J J) J <| bE (eM J) J <| Wn <| Rg 9 J <| aA (bD J J J J J) J <| aA (aN (l := .sl k (ss.map stc)) J J gG J J) J ?_
 refine Um J J <| aA (bQ (j := s) J J J J om om J) J <| aA (oFa J J J J J) J <| aA (cW (l := .sl (ss.getD s default).2.1 ((ss.getD s default).2.2.map chc)) J J J) J <| aA (bQ (j := 0) J J J J om om J) J <| aA (cW (l := lvC ((ss.getD s default).2.2.getD 0 default)) J J J) J <| bB (cM (cs' := chc ((ss.getD s default).2.2.getD 0 default)) J J J g0 J J J J) <| Wn <| aL ?_
 exact post (n := 0) (.inr J) J J (.agg _ (dchc1 _))
theorem qsingle_run (k : Nat) (ss : List Go.Ab.ST) (hl : ss.length < 1000) : Run Tryz.prog T E0 (.call 48 [lvMo k ss] (.v (.bool (ss.all sglC)))) := by
 refine bA Tryz.func48 J J (cU J) <| Rg 2 J <| bE (dO J J) J <| Ua J J <| Wn <| aB <| Rg 4 J <| aA (bD J J J J J) J <| aA (aN J J gG J J) J ?_
 refine aA (aU J J) J <| Um J J <| Wn <| aK <| aZ (α := Nat) (fun i => [(6, .sl k (ss.map stc)), (7, .v (.int .i64 (ss.length : Int))), (8, .v (.int .i64 (i : Int)))]) (fun i => []) (fun i n => i ≤ ss.length ∧ (ss.take i).all sglC = true) (fun i => ss.length - i) (0) ⟨J, J, J, trivial⟩ trivial ⟨Nat.zero_le _, by simp⟩ ?_
 rintro i n hF
 change WC _ _ _ _ _ (_ :: _) ([]) n _
 obtain ⟨hi, ha⟩ := hF
 refine Rg 1 J <| aA (bP J J) J <| aV (fun h9 => ?_) (fun h9 => ?_)
 rotate_left
 ·refine Wn <| aS J <| aX <| aP <| aR J <| Rg 1 J <| Ua J J <| Wn <| aL <| post (n := 0) (.inr J) J ?_ dD
  exact congrArg (fun z => LV.v (.bool z)) ((fY ha om).symm)
 refine Wn <| aO J <| aD <| aK <| Rg 4 J <| aA (bQ J J J J J om J) J <| aA (cW (l := .agg (stc (ss.getD i default))) J J J) J <| bE (eM J) J <| bB (cM (cs' := stc (ss.getD i default)) J J J g0 J J J J) <| Wn <| Rg 4 J <| aA (bD J J J J J) J <| aA (aN (l := .sl (ss.getD i default).2.1 ((ss.getD i default).2.2.map chc)) J J gG J J) J ?_
 refine aA (aU J J) J <| aA (fK J J) J <| aV (fun h15 => ?_) (fun h15 => ?_)
 rotate_left
 ·refine Wn <| bV J <| bZ <| aF <| aH (z := 2) J <| aA (cI (((i + 1 : Nat) : Int)) (aQ J J om) om) J <| Um J J <| Wn <| aG <| ⟨i + 1, ⟨J, J, J, trivial⟩, trivial, ⟨om, fG ha om (decide_eq_true om)⟩, by show ss.length - (i + 1) < ss.length - i; omega⟩
 refine Wn <| bS J <| Rg 1 J <| Ua J J <| Wn <| aL <| aJ <| bC <| aJ <| post (n := 0) (.inr J) J ?_ dD
 exact congrArg (fun z => LV.v (.bool z)) ((nM (p := sglC) (us := ss) (i := i) om (by unfold sglC; exact decide_eq_false om)).symm)
theorem qdraws_run (kn : Nat) (ns : List NM) (ln : ns.length < 1099511627776) : Run Tryz.prog T E0 (.call 14 [.sl kn (ns.map mc)] (.v (.bool (okD ns)))) := by
 refine bA Tryz.func14 J J (cU J) <| Rg 1 J <| Ua J J <| Wn <| aB <| Rg 3 J <| Um J J <| aA (aU J J) J <| Um J J <| Wn <| aK <| aZ (α := Nat) (fun i => [(0, .sl kn (ns.map mc)), (5, .sl kn (ns.map mc)), (6, .v (.int .i64 (ns.length : Int))), (7, .v (.int .i64 (i : Int)))]) (fun i => []) (fun i n => i ≤ ns.length ∧ (∀ a, a < i → offD (ns.getD a default) = false)) (fun i => ns.length - i) (0) ⟨J, J, J, J, trivial⟩ trivial ⟨Nat.zero_le _, fun a ha => absurd ha om⟩ ?_
 rintro i n hF
 change WC _ _ _ _ _ (_ :: _) ([]) n _
 obtain ⟨hi, ha⟩ := hF
 refine Rg 1 J <| aA (bP J J) J <| aV (fun h8 => ?_) (fun h8 => ?_)
 rotate_left
 ·refine Wn <| aS J <| aX <| aP <| aR J <| Rg 4 J <| Um J J <| aA (aU J J) J <| aA (kA J J) J <| Ua J J <| Wn <| aL <| post (n := 0) (.inr J) J ?_ dD
  exact congrArg (fun z => LV.v (.bool z)) (okD_len (fun a hb => ha a om))
 refine Wn <| aO J <| aD <| aK <| Rg 4 J <| aA (bQ J J J J J om J) J <| aA (cW (l := .agg (mc (ns.getD i default))) J J J) J <| bE (eM J) J <| bB (cM (cs' := mc (ns.getD i default)) J J J g0 J J J J) <| Wn <| Rg 10 J <| aA (bD J J J J J) J <| aA (aN J J gG J J) J ?_
 refine aA (bP J J) J <| aV (fun h13 => ?_) (fun h13 => ?_)
 ·refine Um J J <| K1 J J <| K1 J J <| K1 J J <| K1 J J <| K1 J J <| aA (bI J J) J <| Nk [0,5,6,7,15,16,17,18,19,20] J <| bS J <| Rg 1 J <| Ua J J <| Wn <| aL <| aJ <| bC <| aJ <| post (n := 0) (.inr J) J ?_ dD
  exact congrArg (fun z => LV.v (.bool z)) (okD_no (i := i) om (by unfold offD; first | (rw [decide_eq_true (show (ns.getD i default).1 < 0 by omega)]; rfl) | (rw [decide_eq_true (show (ns.getD i default).2 ≤ (ns.getD i default).1 by omega), Bool.or_true])))
 refine Um J J <| aE J (bD J J J J J) J <| aE J (aN J J gG J J) J ?_
 refine aE J (bD J J J J J) J <| aE J (aN J J gG J J) J ?_
 refine aE J (fD J J) J <| aV (fun h19 => ?_) (fun h19 => ?_)
 ·refine aA (bF J J) J <| Nk [0,5,6,7,15,16,17,18,19,20] J <| bS J <| Rg 1 J <| Ua J J <| Wn <| aL <| aJ <| bC <| aJ <| post (n := 0) (.inr J) J ?_ dD
  exact congrArg (fun z => LV.v (.bool z)) (okD_no (i := i) om (by unfold offD; first | (rw [decide_eq_true (show (ns.getD i default).1 < 0 by omega)]; rfl) | (rw [decide_eq_true (show (ns.getD i default).2 ≤ (ns.getD i default).1 by omega), Bool.or_true])))
 refine aA (bF J J) J <| Nk [0,5,6,7,15,16,17,18,19,20] J <| bV J <| bZ <| aF <| aH (z := 2) J <| aA (cI (((i + 1 : Nat) : Int)) (aQ J J om) om) J <| Um J J <| Wn <| aG <| ⟨i + 1, ⟨J, J, J, J, trivial⟩, trivial, ⟨om, fun a hb => ?_⟩, by show ns.length - (i + 1) < ns.length - i; omega⟩
 by_cases e : a = i
 ·rw [e]; unfold offD; rw [decide_eq_false (show ¬ (ns.getD i default).1 < 0 by omega), decide_eq_false (show ¬ (ns.getD i default).2 ≤ (ns.getD i default).1 by omega)]; rfl
 ·exact ha a om
theorem qX (k kg kn ks : Nat) (ss : List Go.Ab.ST) (goal : List Int) (ns : List NM) (sts : List Int) (hI : ∀ s, s ∈ ss → IS s) (lg : goal.length < 1099511627776) (ln : ns.length < 1099511627776) (hN : IV ns) (ls : sts.length < 1099511627776) : Run Tryz.prog T E0 (.call 9 [lvMo k ss, lvL kg goal, .sl kn (ns.map mc), lvL ks sts] (.v (.int .i64 (askS ss goal ns sts)))) := by
 refine bA Tryz.func9 J J (cU J) <| Rg 2 J <| bE (dO J J) J <| Ua J J <| Wn <| aB <| Rg 14 J <| aA (aN (l := lvMo k ss) J J gG J J) J ?_
 refine aA (aM J (qvmodel_run k ss hI) dD) J <| dB (fun h12 => ?_) (fun h12 => ?_)
 rotate_left
 ·refine aA (cY J) J <| Um J J <| K1 J J <| K1 J J <| K1 J J <| K1 J J <| aA (bI J J) J <| Um J J <| K1 J J <| K1 J J <| K1 J J <| aA (bI J J) J <| Nk [3,4,24] J <| aO J <| aB <| Rg 1 J <| Ua J J <| Wn <| aW <| post (n := 0) (.inr J) J ?_ dD
  refine congrArg (fun z => LV.v (.int .i64 z)) ?_
  first | exact ask_6 h12 h17 h22 (jE (i := i) om (by simpa using h33)) | exact ask_7 h12 h17 h22 (fI fun a hb => ha a om) h37 | exact rU h12 h17 h22 (fI fun a hb => ha a om) h37 | exact ask_1 (by rintro ⟨q1, q2, q3⟩; simp_all)
 refine aA (cY J) J <| Um J J <| aE J (aN (l := lvMo k ss) J J gG J J) J ?_
 refine aE J (dL J) J <| aE J (aM J (qset_run k kg ss goal lg) dD) J <| dB (fun h17 => ?_) (fun h17 => ?_)
 rotate_left
 ·refine aE J (cY J) J <| aA (bF J J) J <| Um J J <| K1 J J <| K1 J J <| K1 J J <| aA (bI J J) J <| Nk [3,4,24] J <| aO J <| aB <| Rg 1 J <| Ua J J <| Wn <| aW <| post (n := 0) (.inr J) J ?_ dD
  refine congrArg (fun z => LV.v (.int .i64 z)) ?_
  first | exact ask_6 h12 h17 h22 (jE (i := i) om (by simpa using h33)) | exact ask_7 h12 h17 h22 (fI fun a hb => ha a om) h37 | exact rU h12 h17 h22 (fI fun a hb => ha a om) h37 | exact ask_1 (by rintro ⟨q1, q2, q3⟩; simp_all)
 refine aE J (cY J) J <| aA (bF J J) J <| Um J J <| aE J (dL J) J <| aE J (aM J (qall_run kn ns hN ln) (aY (by intro c hc; simp only [List.mem_cons, List.not_mem_nil, or_false] at hc; rcases hc with rfl; exact (.sl _ _ (bL gO))))) J <| dB (fun h22 => ?_) (fun h22 => ?_)
 rotate_left
 ·refine aE J (cY J) J <| aA (bF J J) J <| Nk [3,4,24] J <| aO J <| aB <| Rg 1 J <| Ua J J <| Wn <| aW <| post (n := 0) (.inr J) J ?_ dD
  refine congrArg (fun z => LV.v (.int .i64 z)) ?_
  first | exact ask_6 h12 h17 h22 (jE (i := i) om (by simpa using h33)) | exact ask_7 h12 h17 h22 (fI fun a hb => ha a om) h37 | exact rU h12 h17 h22 (fI fun a hb => ha a om) h37 | exact ask_1 (by rintro ⟨q1, q2, q3⟩; simp_all)
 refine aE J (cY J) J <| aA (bF J J) J <| Nk [3,4,24] J <| aS J <| aD <| aB <| Rg 3 J <| Um J J <| aA (aU J J) J <| Um J J <| Wn <| aK <| aZ (α := Nat) (fun i => [(4, .ptr 0 0), (25, lvL ks sts), (26, .v (.int .i64 (sts.length : Int))), (27, .v (.int .i64 (i : Int)))]) (fun i => [(0, { cells := [.sl k (ss.map stc)], sz := 1, elem := (24), st := 0 })]) (fun i n => i ≤ sts.length ∧ (∀ a, a < i → offS ss.length (sts.getD a default) = false)) (fun i => sts.length - i) (0) ⟨J, J, J, J, trivial⟩ ⟨gG, trivial⟩ ⟨Nat.zero_le _, fun a ha => absurd ha om⟩ ?_
 rintro i n hF
 change WC _ _ _ _ _ (_ :: _) (_ :: _) n _
 obtain ⟨hi, ha⟩ := hF
 refine Rg 1 J <| aA (bP J J) J <| aV (fun h28 => ?_) (fun h28 => ?_)
 rotate_left
 ·refine Wn <| aS J <| aX <| aP <| aR J <| aB <| Rg 3 J <| aA (aN (l := lvMo k ss) J J gG J J) J ?_
  refine aA (aM J (qsingle_run k ss (by have := (mF h12).wt.len; omega)) dD) J <| dB (fun h37 => ?_) (fun h37 => ?_)
  ·refine aA (cY J) J <| Wn <| aS J <| aD <| Rg 1 J <| Ua J J <| Wn <| aL <| post (n := 0) (.inr J) J ?_ dD
   refine congrArg (fun z => LV.v (.int .i64 z)) ?_
   first | exact ask_6 h12 h17 h22 (jE (i := i) om (by simpa using h33)) | exact ask_7 h12 h17 h22 (fI fun a hb => ha a om) h37 | exact rU h12 h17 h22 (fI fun a hb => ha a om) h37 | exact ask_1 (by rintro ⟨q1, q2, q3⟩; simp_all)
  refine aA (cY J) J <| Wn <| aO J <| aB <| Rg 1 J <| Ua J J <| Wn <| aW <| post (n := 0) (.inr J) J ?_ dD
  refine congrArg (fun z => LV.v (.int .i64 z)) ?_
  first | exact ask_6 h12 h17 h22 (jE (i := i) om (by simpa using h33)) | exact ask_7 h12 h17 h22 (fI fun a hb => ha a om) h37 | exact rU h12 h17 h22 (fI fun a hb => ha a om) h37 | exact ask_1 (by rintro ⟨q1, q2, q3⟩; simp_all)
 refine Wn <| aO J <| aD <| aK <| Rg 3 J <| aA (bQ J J J J J om J) J <| aA (cW J J J) J <| Ua J J <| Wn <| Rg 4 J <| aA (aN (l := lvMo k ss) J J gG J J) J ?_
 refine Um J J <| aA (aM J (qstate_run k ss (sts.getD i default)) dD) J <| dB (fun h33 => ?_) (fun h33 => ?_)
 rotate_left
 ·refine aA (cY J) J <| Wn <| bS J <| Rg 1 J <| Ua J J <| Wn <| aL <| aJ <| bC <| aJ <| post (n := 0) (.inr J) J ?_ dD
  refine congrArg (fun z => LV.v (.int .i64 z)) ?_
  first | exact ask_6 h12 h17 h22 (jE (i := i) om (by simpa using h33)) | exact ask_7 h12 h17 h22 (fI fun a hb => ha a om) h37 | exact rU h12 h17 h22 (fI fun a hb => ha a om) h37 | exact ask_1 (by rintro ⟨q1, q2, q3⟩; simp_all)
 refine aA (cY J) J <| Wn <| bV J <| bZ <| aF <| aH (z := 2) J <| aA (cI (((i + 1 : Nat) : Int)) (aQ J J om) om) J <| Um J J <| Wn <| aG <| ⟨i + 1, ⟨J, J, J, J, trivial⟩, ⟨gG, trivial⟩, ⟨om, fun a hb => ?_⟩, by show sts.length - (i + 1) < sts.length - i; omega⟩
 by_cases e : a = i
 ·rw [e]; simpa using h33
 ·exact ha a om
theorem qsuc_run (k s : Nat) (ss : List Go.Ab.ST) (u : Rat) (hs : s < ss.length) (hV : VMo ss = true) (hub : Bd 34359738368 u) (hu1 : u < 1) : Run Tryz.prog T E0 (.call 57 [lvMo k ss, .v (.int .i64 (s : Int)), lvQ u] (.v (.int .i64 (sucF (brs ss s) u s : Int)))) := by
 have hvb := brs_VB hV hs
 have hcl := ((mF hV).cs _ (bN (us := ss) hs)).1
 have hlb := hvb.len
 refine bA Tryz.func57 J J (cU J) <| Rg 3 J <| bE (dO J J) J <| bE (dO J J) J <| Ua J J <| Wn <| Rg 3 J <| aA (bG (b := lvQ 0) (aM J (lW 0 (by decide)) dD) J) J <| bE (eM J) J <| bB (cM (cs' := qc 0) J J J g0 J J J J) <| Wn <| aB <| Rg 6 J <| aA (aN (l := lvMo k ss) J J gG J J) J ?_
 refine Um J J <| aA (aM J (qonly_run k s ss hs hcl) (aY (by intro c hc; simp only [List.mem_cons, List.not_mem_nil, or_false] at hc; rcases hc with rfl | rfl; exact iK; exact (.v _)))) J <| aA (bG (b := .sl ((ss.getD s default).2.2.getD 0 default).2.1 ((brs ss s).map brc)) (oFd J J J J J) J) J <| aA (aU J J) J <| Um J J <| Wn <| aK <| aZ (α := Nat × Rat × Int) (fun ⟨i, sm, t⟩ => [(5, .ptr (0 + 1) 0), (7, .ptr (0 + 3 + (0 + 1)) 0), (14, .sl ((ss.getD s default).2.2.getD 0 default).2.1 ((brs ss s).map brc)), (15, .v (.int .i64 ((brs ss s).length : Int))), (16, .v (.int .i64 (i : Int)))]) (fun ⟨i, sm, t⟩ => [(0 + 3 + (0 + 1), { cells := qc (sm), sz := 6, elem := (64), st := 0 }), (0 + 1, { cells := qc (u), sz := 6, elem := (64), st := 0 })]) (fun ⟨i, sm, t⟩ n => i ≤ (brs ss s).length ∧ sm = psum (brs ss s) i ∧ sucG (brs ss s) u ((brs ss s).length - i) i t = sucF (brs ss s) u s ∧ (i = 0 ∨ ¬ u < psum (brs ss s) i) ∧ 4 < n) (fun ⟨i, sm, t⟩ => (brs ss s).length - i) (0, 0, (s : Int)) ⟨J, J, J, J, J, trivial⟩ ⟨gG, gG, trivial⟩ ⟨Nat.zero_le _, rfl, rfl, .inl J, om⟩ ?_
 rintro ⟨i, sm, t⟩ n hF
 change WC _ _ _ _ _ (_ :: _) (_ :: _) n _
 obtain ⟨hi, hsm, hsu, hnu, hn⟩ := hF
 refine Rg 1 J <| aA (bP J J) J <| aV (fun h17 => ?_) (fun h17 => ?_)
 rotate_left
 ·refine Wn <| aS J <| aX <| aP <| aR J <| Rg 1 J <| Ua J J <| Wn <| aL ?_
  exact (suc_end hvb hu1 om hi hnu).elim
 refine Wn <| aO J <| aD <| aK <| Rg 4 J <| aA (bQ J J J J J om J) J <| aA (cW (l := .agg (brc ((brs ss s).getD i default))) J J J) J <| bE (eM J) J <| bB (cM (cs' := brc ((brs ss s).getD i default)) J J J g0 J J J J) <| cL ?_
 have hm := bN (us := (brs ss s)) (i := i) om
 have hvn := hvb.vn i om
 have hpb := iU (bs := (brs ss s)) i om (fun j hj => decide_eq_true (hvb.vn j om))
 rw [← hsm] at hpb
 have hnv : sm + nq ((brs ss s).getD i default).2 = psum (brs ss s) (i + 1) := by rw [hsm]; rfl
 have hnb : Bd 34359738368 (sm + nq ((brs ss s).getD i default).2) := (hpb.add hvn.bd).mono om
 refine bO (z := 6) J kR <| aI (aN (l := lvQ sm) J J gG J J) J ?_
 refine aI (bD J J J J J) J <| aI (aN (l := lvM ((brs ss s).getD i default).2) J J gG J J) J ?_
 refine aI (bG (b := lvQ (nq ((brs ss s).getD i default).2)) (aM J (pT ((brs ss s).getD i default).2 hvn.all3.1 hvn.all3.2.1 hvn) (aY (by intro c hc; simp only [List.mem_cons, List.not_mem_nil, or_false] at hc; rcases hc with rfl; exact (.agg _ (gO _))))) J) J <| aI (aM J (lC sm (nq ((brs ss s).getD i default).2) (hpb.mono om) (hvn.bd.mono om)) dD) J <| cV (cM (cs' := qc (sm + nq ((brs ss s).getD i default).2)) J J J gG J J J J) ?_
 refine bK (iA (rn n) (by simp only [List.reverse_cons, List.reverse_nil, List.nil_append, List.cons_append, List.map_cons, List.map_nil, ren, keys, Nat.add_assoc, rB, show rn n 4 = 0 from rn_lt om]; kernel_rfl)) J <| Rg 4 J <| aA (aN (l := lvQ u) J J gG J J) J ?_
 refine aA (aN (l := lvQ (sm + nq ((brs ss s).getD i default).2)) J J gG J J) J ?_
 refine aA (aM J (nrcmp_run u (sm + nq ((brs ss s).getD i default).2) hub hnb) dD) J <| aA (bP J J) J <| aV (fun h28 => ?_) (fun h28 => ?_)
 rotate_left
 ·refine Nk [5,7,9,14,15,16,28] J <| bV J <| bZ <| aF <| aH (z := 2) J <| aA (cI (((i + 1 : Nat) : Int)) (aQ J J om) om) J <| Um J J <| Wn <| aG ?_
  have hlt : ¬ u < sm + nq ((brs ss s).getD i default).2 := fun h => h28 (gV.2 (by rw [Rat.sub_eq_add_neg]; grind))
  refine ⟨⟨i + 1, sm + nq ((brs ss s).getD i default).2, ((brs ss s).getD i default).1⟩, ⟨J, J, J, J, J, trivial⟩, ⟨gG, gG, trivial⟩, ⟨om, by rw [hsm]; rfl, ?_, .inr (by rw [← hnv]; exact hlt), om⟩, by show (brs ss s).length - (i + 1) < (brs ss s).length - i; omega⟩
  exact (sucG_go (i := i) (t := t) om (by rw [← hnv]; exact hlt)).symm.trans hsu
 refine Nk [5,7,9,14,15,16,28] J <| bS J <| Rg 3 J <| aA (bD J J J J J) J <| aA (aN J J gG J J) J ?_
 refine Ua J J <| Wn <| aL <| aJ <| bC <| aJ <| post (n := 0) (.inr J) J ?_ dD
 have hlt : u < sm + nq ((brs ss s).getD i default).2 := by have := gV.1 h28; rw [Rat.sub_eq_add_neg] at this; grind
 exact congrArg (fun z => LV.v (.int .i64 z)) ((sucG_stop (i := i) (t := t) om (by rw [← hnv]; exact hlt)).symm.trans hsu)
end Go.Proofs.YtcblgjaomljikaaGreat
namespace Go.Proofs.YtcblgjaomljikaaGreat
open Go.Ab Go.RowKit
theorem qsuct_run (k : Nat) (ss : List Go.Ab.ST) (z : Int) (u : Rat) (hV : VMo ss = true) (h0 : 0 ≤ z) (h1 : z < ss.length) (hub : Bd 34359738368 u) (hu1 : u < 1) : Run Tryz.prog T E0 (.call 57 [lvMo k ss, .v (.int .i64 z), lvQ u] (.v (.int .i64 (sucS ss u z)))) := by
 have := qsuc_run k z.toNat ss u om hV hub hu1
 rw [Int.toNat_of_nonneg h0] at this
 exact this
theorem nB (k kn : Nat) (ss : List Go.Ab.ST) (s : Int) (ns : List NM) (h0 : 0 ≤ s) (h1 : s < ss.length) (hV : VMo ss = true) (hvn : ∀ a, a ∈ ns → VN a) (hdr : ∀ a, a ∈ ns → a.1 < a.2) (ln : ns.length ≤ 1000) : Run Tryz.prog T E0 (.call 15 [lvMo k ss, .v (.int .i64 (s : Int)), .sl kn (ns.map mc)] (lvL (kd2 ns.length) (runL ss s (ns.map nq)))) := by
 have hC := Chn.of hV
 refine bA Tryz.func15 J J (cU J) <| Rg 2 J <| bE (dO J J) J <| Ua J J <| Wn <| Rg 3 J <| Um J J <| aA (cP (cs := [_]) (rows := [[_]]) J J (by decide) J J J) J <| Ua J J <| Wn <| aB <| Rg 3 J <| Um J J <| aA (aU J J) J <| Um J J <| Wn <| aK <| aZ (α := Nat × Nat × Int × (List Int)) (fun ⟨i, q, z, out⟩ => [(1, .v (.int .i64 (z : Int))), (3, .ptr 0 0), (7, outW i q 1 (out.map ic)), (12, .sl kn (ns.map mc)), (13, .v (.int .i64 (ns.length : Int))), (14, .v (.int .i64 (i : Int)))]) (fun ⟨i, q, z, out⟩ => outWH i q 1 (3) (out.map ic) [(0, { cells := [.sl k (ss.map stc)], sz := 1, elem := (24), st := 0 })]) (fun ⟨i, q, z, out⟩ n => i ≤ ns.length ∧ out = runL ss s ((ns.map nq).take i) ∧ z = runS ss s ((ns.map nq).take i) ∧ 0 < q ∧ q < n) (fun ⟨i, q, z, out⟩ => ns.length - i) (0, 1, s, [s]) ⟨J, J, J, J, J, J, trivial⟩ ⟨g0, trivial⟩ ⟨Nat.zero_le _, rfl, rfl, om, om⟩ ?_
 rintro ⟨i, q, z, out⟩ n hF
 change WC _ _ _ _ _ [(1, .v (.int .i64 (z : Int))), (3, .ptr 0 0), (7, outW i q 1 (out.map ic)), (12, .sl kn (ns.map mc)), (13, .v (.int .i64 (ns.length : Int))), (14, .v (.int .i64 (i : Int)))] (outWH i q 1 (3) (out.map ic) [(0, { cells := [.sl k (ss.map stc)], sz := 1, elem := (24), st := 0 })]) n _
 obtain ⟨hi, hout, hz, hq, hqn⟩ := hF
 have hul : (ns.map nq).length = ns.length := List.length_map _
 have hol : out.length = i + 1 := by rw [hout, gK, List.length_take, hul]; omega
 have hzb := hC.run h0 h1 ((ns.map nq).take i)
 rw [← hz] at hzb
 refine Rg 1 J <| aA (bP J J) J <| aV (fun h15 => ?_) (fun h15 => ?_)
 rotate_left
 ·refine Wn <| aS J <| aX <| aP <| aR J <| Rg 2 J <| Um J J <| Ua J J <| Wn <| aL ?_
  have hin : i = ns.length := by omega
  subst hin
  rw [List.take_of_length_le om] at hout
  subst hout
  exact postWs (n := 0) (m := ns.length) (us := (runL ss s (ns.map nq)).map ic) (.inr J) J (by decide) (gB (n := 1) (fun _ => rfl)) (bL dic1)
 refine Wn <| aO J <| aD <| aK ?_
 have hm := bN (us := ns) (i := i) om
 have hvm := hvn _ hm
 refine Rg 4 J <| aA (bQ J J J J J om J) J <| aA (cW (l := .agg (mc (ns.getD i default))) J J J) J <| bE (eM J) J <| bB (cM (cs' := mc (ns.getD i default)) J J J g0 J J J J) <| Wn <| bO (z := 6) J kR <| aI (aN (l := lvMo k ss) J J (by repeat (first | exact g0 | refine g1 om ?_ | refine gZ om ?_)) J J) J ?_
 refine Dm J J <| aI (aN (l := lvM (ns.getD i default)) J J g0 J J) J <| aI (bG (b := lvQ (nq (ns.getD i default))) (aM J (pT (ns.getD i default) hvm.all3.1 hvm.all3.2.1 hvm) (aY (by intro c hc; simp only [List.mem_cons, List.not_mem_nil, or_false] at hc; rcases hc with rfl; exact (.agg _ (gO _))))) J) J <| aI (aM J (qsuct_run k ss z (nq (ns.getD i default)) hV hzb.1 hzb.2 (hvm.bd.mono om) (nq_lt1 hvm (hdr _ hm))) (aY (by intro c hc; simp only [List.mem_cons, List.not_mem_nil, or_false] at hc; rcases hc with rfl | rfl | rfl; exact iK; exact (.v _); exact (.agg _ (dqc _))))) J <| aI (iG J) J <| bK (iA (rn n) (by simp only [List.reverse_cons, List.reverse_nil, List.nil_append, List.cons_append, List.map_cons, List.map_nil, ren, keys, Nat.add_assoc, rB, show rn n 0 = 0 from rn_lt om]; kernel_rfl)) J <| Ck [1,3,7,12,13,14] J <| aH (z := 5) J <| Um J J <| Um J J <| aA (cP (cs := [_]) (rows := [[_]]) J J (by decide) J J J) J ?_
 have hne : out ≠ [] := fun h => by rw [h] at hol; simp at hol
 refine kD (outWH i q 1 (3) (out.map ic) [(0, { cells := [.sl k (ss.map stc)], sz := 1, elem := (24), st := 0 })]) (Hp.le_skip (gZ om (gN om J)) (Hp.le_skip (gZ om (gN om J)) (Hp.le_refl _))) <| WO.apW (te := ti3) (f := ic) (m := i) (q := q) (us := out) (u := (sucS ss (nq (ns.getD i default)) z)) hne J J J J J (fun _ => rfl) (by decide) (by show (2 * (out.length + 1) + 256) * 8 ≤ _; omega) om (gN om J) (gN om J) J <| Ua J J <| Wn <| aF <| aH (z := 2) J <| aA (cI (((i + 1 : Nat) : Int)) (aQ J J om) om) J <| Um J J <| Wn <| aG <| ⟨⟨i + 1, _, (sucS ss (nq (ns.getD i default)) z), out ++ [(sucS ss (nq (ns.getD i default)) z)]⟩, ⟨J, J, J, J, J, J, trivial⟩, ?_, ⟨om, ?_, ?_, ?_, ?_⟩, by show ns.length - (i + 1) < ns.length - i; omega⟩
 ·exact ⟨g0, g1 om g0, trivial⟩
 ·rw [runL_succ ss s _ om, ← hout, ← hz, mapD (f := nq) om]
 ·rw [dQ om, oG, ← hz, mapD (f := nq) om]
 ·omega
 ·omega
theorem qY (k kn : Nat) (ss : List Go.Ab.ST) (ns : List NM) (hV : VMo ss = true) (hvn : ∀ a, a ∈ ns → VN a) (hdr : ∀ a, a ∈ ns → a.1 < a.2) (ln : ns.length ≤ 1000) : Run Tryz.prog T E0 (.call 16 [lvMo k ss, .sl kn (ns.map mc)] (lvL (kd (refJ ss (ns.map nq)).length) (refJ ss (ns.map nq)))) := by
 have hC := Chn.of hV
 refine bA Tryz.func16 J J (cU J) <| Rg 2 J <| bE (dO J J) J <| Ua J J <| Wn <| Rg 1 J <| Ua J J <| Wn <| aB <| Rg 4 J <| aA (bD J J J J J) J <| aA (aN J J gG J J) J ?_
 refine aA (aU J J) J <| Um J J <| Wn <| aK <| aZ (α := Nat × Nat × (List Int)) (fun ⟨i, q, out⟩ => [(1, .sl kn (ns.map mc)), (2, .ptr 0 0), (5, outV q 1 (out.map ic)), (10, .v (.int .i64 (ss.length : Int))), (11, .v (.int .i64 (i : Int)))]) (fun ⟨i, q, out⟩ => outH q 1 (3) (out.map ic) [(0, { cells := [.sl k (ss.map stc)], sz := 1, elem := (24), st := 0 })]) (fun ⟨i, q, out⟩ n => i ≤ ss.length ∧ out = (List.range i).map (fun s : Nat => runS ss (s : Int) (ns.map nq)) ∧ 0 < q ∧ q < n) (fun ⟨i, q, out⟩ => ss.length - i) (0, 1, []) ⟨J, J, J, J, J, trivial⟩ ⟨gG, trivial⟩ ⟨Nat.zero_le _, rfl, om, om⟩ ?_
 rintro ⟨i, q, out⟩ n hF
 change WC _ _ _ _ _ (_ :: _) (outH _ _ _ _ _) n _
 obtain ⟨hi, hout, hq, hqn⟩ := hF
 have hol : out.length = i := by rw [hout]; simp
 have hl40 := hC.len
 have hul : (ns.map nq).length = ns.length := List.length_map _
 refine Rg 1 J <| aA (bP J J) J <| aV (fun h12 => ?_) (fun h12 => ?_)
 rotate_left
 ·refine Wn <| aS J <| aX <| aP <| aR J <| Rg 2 J <| Um J J <| Ua J J <| Wn <| aL ?_
  have hin : i = ss.length := by omega
  rw [hin] at hout
  have hk : lvL (kd (refJ ss (ns.map nq)).length) (refJ ss (ns.map nq)) = outR (out.map ic) := by rw [outR_kd, hout]; rfl
  rw [hk]
  exact jU (n := 0) (.inr J) J (by decide) (gB (n := 1) (fun _ => rfl)) (bL dic1)
 refine Wn <| aO J <| aD <| aK <| Rg 2 J <| Um J J <| Ua J J <| Wn <| Rg 5 J <| aA (aN (l := lvMo k ss) J J (by repeat (first | exact g0 | refine g1 om ?_ | refine fF om ?_)) J J) J ?_
 refine Um J J <| Um J J <| aA (aM J (nB k kn ss (i : Int) ns om om hV hvn hdr ln) (aY (by intro c hc; simp only [List.mem_cons, List.not_mem_nil, or_false] at hc; rcases hc with rfl | rfl | rfl; exact iK; exact (.v _); exact (.sl _ _ (bL gO))))) J <| Ua J J <| cL ?_
 have hrl := gK ss (i : Int) (ns.map nq)
 have hlast := runL_last ss (i : Int) (ns.map nq)
 rw [hul] at hlast
 refine aH (z := 10) J <| Um J J <| Um J J <| Um J J <| aA (aU J J) J <| aA (cI ((ns.length : Int)) (bT J J om) om) J <| aA (bQ (j := ns.length) J J J J om om J) J <| aA (cI ((runS ss (i : Int) (ns.map nq))) (cW J J J) hlast) J <| aA (cP (cs := [_]) (rows := [[_]]) J J (by decide) J J J) J <| cS (te := ti3) (f := ic) (q := q) (us := out) (u := (runS ss (i : Int) (ns.map nq))) J J J J J (fun _ => rfl) (by decide) (by show (2 * (out.length + 1) + 256) * 8 ≤ _; omega) om (gN om J) (gN om J) J <| Ua J J <| Wn <| aF <| Ck [1,2,5,10,11] J <| aH (z := 2) J <| aA (cI (((i + 1 : Nat) : Int)) (aQ J J om) om) J <| Um J J <| Wn <| aG <| ⟨⟨i + 1, _, out ++ [(runS ss (i : Int) (ns.map nq))]⟩, ⟨J, J, J, J, J, trivial⟩, ?_, ⟨om, ?_, ?_, ?_⟩, by show ss.length - (i + 1) < ss.length - i; omega⟩
 ·exact mD (fun hne => by rw [mY hne]; exact g0) ⟨(by repeat (first | exact g0 | refine g1 om ?_ | refine fF om ?_)), trivial⟩
 ·rw [List.range_succ, List.map_append, ← hout]; rfl
 ·omega
 ·omega
theorem qpast_run (k kn : Nat) (ss : List Go.Ab.ST) (ns : List NM) (hV : VMo ss = true) (hvn : ∀ a, a ∈ ns → VN a) (hdr : ∀ a, a ∈ ns → a.1 < a.2) (ln : ns.length ≤ 1000) : Run Tryz.prog T E0 (.call 17 [lvMo k ss, .sl kn (ns.map mc)] (pstO ss ns)) := by
 have hpos := (mF hV).pos
 have hl40 := (mF hV).wt.len
 refine bA Tryz.func17 J J (cU J) <| Rg 4 J <| bE (dO J J) J <| Ua J J <| Ua J J <| Ua J J <| Wn <| aB <| Rg 1 J <| Ua J J <| Wn <| aK <| aZ (α := Nat) (fun i => [(1, .sl kn (ns.map mc)), (2, .ptr 0 0), (7, .v (.int .i64 (i : Int)))]) (fun i => [(0, { cells := [.sl k (ss.map stc)], sz := 1, elem := (24), st := 0 })]) (fun i n => i ≤ ns.length + 1 ∧ (∀ a, a < i → sameL (refJ ss ((ns.drop (ns.length - a)).map nq)) = false)) (fun i => ns.length + 1 - i) (0) ⟨J, J, J, trivial⟩ ⟨gG, trivial⟩ ⟨Nat.zero_le _, fun a ha => absurd ha om⟩ ?_
 rintro i n hF
 change WC _ _ _ _ _ (_ :: _) (_ :: _) n _
 obtain ⟨hi, hne⟩ := hF
 have hrl := refJ_len ss ((ns.drop (ns.length - i)).map nq)
 refine aB <| Rg 4 J <| Um J J <| Um J J <| aA (aU J J) J <| aA (kA J J) J <| aV (fun h15 => ?_) (fun h15 => ?_)
 rotate_left
 ·refine Wn <| aS J <| aX <| aP <| aR J <| Rg 3 J <| Ua J J <| Ua J J <| Ua J J <| Wn <| aL <| post (n := 0) (.inr J) J ?_ pstO_data
  exact pstO_2 (i := i) om hne
 refine Wn <| aO J <| aD <| aK <| bO (z := 9) J kR <| aI (aN (l := lvMo k ss) J J gG J J) J ?_
 refine Dm J J <| Dm J J <| aI (aU J J) J <| Dm J J <| aI (cI (((ns.length - i : Nat) : Int)) (bT J J om) om) J <| aI (bG (b := .sl kn ((ns.drop (ns.length - i)).map mc)) (oSlLo (i := ns.length - i) J J J (gB (f := mc) (n := 2) (fun _ => rfl)) J J (by rw [List.length_map]; omega)) (by rw [List.map_drop])) J <| aI (aM J (qY k kn ss (ns.drop (ns.length - i)) hV (fun a ha => hvn a (List.mem_of_mem_drop ha)) (fun a ha => hdr a (List.mem_of_mem_drop ha)) (by rw [List.length_drop]; omega)) (aY (by intro c hc; simp only [List.mem_cons, List.not_mem_nil, or_false] at hc; rcases hc with rfl | rfl; exact iK; exact (.sl _ _ (bL gO))))) J <| aI (iG J) J <| bK (aT kR) J <| Ck [1,2,7,8] J <| Rg 1 J <| Ua J J <| Wn <| aB <| Rg 3 J <| Um J J <| aA (aU J J) J <| Um J J <| Wn <| aK <| aZ (α := Nat × Bool) (fun ⟨j, b⟩ => [(1, .sl kn (ns.map mc)), (2, .ptr 0 0), (7, .v (.int .i64 (i : Int))), (8, lvL (kd (refJ ss ((ns.drop (ns.length - i)).map nq)).length) (refJ ss ((ns.drop (ns.length - i)).map nq))), (9, .v (.bool b)), (26, lvL (kd (refJ ss ((ns.drop (ns.length - i)).map nq)).length) (refJ ss ((ns.drop (ns.length - i)).map nq))), (27, .v (.int .i64 ((refJ ss ((ns.drop (ns.length - i)).map nq)).length : Int))), (28, .v (.int .i64 (j : Int)))]) (fun ⟨j, b⟩ => [(0, { cells := [.sl k (ss.map stc)], sz := 1, elem := (24), st := 0 })]) (fun ⟨j, b⟩ n => j ≤ (refJ ss ((ns.drop (ns.length - i)).map nq)).length ∧ b = ((refJ ss ((ns.drop (ns.length - i)).map nq)).take j).all fun s => decide (s = (refJ ss ((ns.drop (ns.length - i)).map nq)).getD 0 default)) (fun ⟨j, b⟩ => (refJ ss ((ns.drop (ns.length - i)).map nq)).length - j) (0, true) ⟨J, J, J, J, J, J, J, J, trivial⟩ ⟨gG, trivial⟩ ⟨Nat.zero_le _, rfl⟩ ?_
 rintro ⟨j, b⟩ n hF
 change WC _ _ _ _ _ (_ :: _) (_ :: _) n _
 obtain ⟨hj, hb⟩ := hF
 refine Rg 1 J <| aA (bP J J) J <| aV (fun h29 => ?_) (fun h29 => ?_)
 rotate_left
 ·refine Wn <| aS J <| aX <| aP <| aR J <| Rg 1 J <| Um J J <| dB (fun h41 => ?_) (fun h41 => ?_)
  rotate_left
  ·refine Wn <| bV J <| bZ <| aF <| aH (z := 3) J <| Um J J <| aA (cI (((i + 1 : Nat) : Int)) (aQ J J om) om) J <| Ua J J <| Wn <| aG <| ⟨i + 1, ⟨J, J, J, trivial⟩, ⟨gG, trivial⟩, ⟨om, fun a ha => ?_⟩, by show ns.length + 1 - (i + 1) < ns.length + 1 - i; omega⟩
   by_cases e : a = i
   ·rw [e, ← same_take hb om]; exact h41
   ·exact hne a om
  refine Wn <| bS J <| bO (z := 7) J kR <| Dm J J <| Dm J J <| aI (bQ (j := 0) J J J J om om J) J <| aI (cW J J J) J <| aI (iG J) J <| aI (iG J) J <| aI (iG J) J <| bK (aT kR) J <| Ck [4,5,6] J <| aL <| aJ <| bC <| aJ <| post (n := 0) (.inr J) J ?_ pstO_data
  exact pstO_1 (i := i) om (by rw [← same_take hb om]; exact h41) hne
 refine Wn <| aO J <| aD <| aK <| Rg 3 J <| aA (bQ J J J J J om J) J <| aA (cW J J J) J <| Ua J J <| Wn <| aH (z := 9) J <| Um J J <| dB (fun h32 => ?_) (fun h32 => ?_)
 ·refine Um J J <| aE J (dL J) J <| aE J (dL J) J <| aE J (bQ (j := 0) J J J J om om J) J <| aE J (cW J J J) J <| aE J (dS J J) J <| aA (bI J J) J <| Ua J J <| Wn <| aF <| Ck [1,2,7,8,9,26,27,28,34,35,36,37,38] J <| aH (z := 2) J <| aA (cI (((j + 1 : Nat) : Int)) (aQ J J om) om) J <| Um J J <| Wn <| aG <| ⟨⟨j + 1, decide ((refJ ss ((ns.drop (ns.length - i)).map nq)).getD j default = (refJ ss ((ns.drop (ns.length - i)).map nq)).getD 0 default)⟩, ⟨J, J, J, J, J, J, J, J, trivial⟩, ⟨gG, trivial⟩, ⟨om, by rw [← same_step hb om, h32, Bool.true_and]⟩, by show (refJ ss ((ns.drop (ns.length - i)).map nq)).length - (j + 1) < (refJ ss ((ns.drop (ns.length - i)).map nq)).length - j; omega⟩
 refine Um J J <| K1 J J <| K1 J J <| K1 J J <| K1 J J <| K1 J J <| aA (bF J J) J <| Ua J J <| Wn <| aF <| Ck [1,2,7,8,9,26,27,28,34,35,36,37,38] J <| aH (z := 2) J <| aA (cI (((j + 1 : Nat) : Int)) (aQ J J om) om) J <| Um J J <| Wn <| aG <| ⟨⟨j + 1, false⟩, ⟨J, J, J, J, J, J, J, J, trivial⟩, ⟨gG, trivial⟩, ⟨om, by rw [← same_step hb om, h32, Bool.false_and]⟩, by show (refJ ss ((ns.drop (ns.length - i)).map nq)).length - (j + 1) < (refJ ss ((ns.drop (ns.length - i)).map nq)).length - j; omega⟩
theorem qmeet_run (k kn : Nat) (ss : List Go.Ab.ST) (s t : Int) (ns : List NM) (h0s : 0 ≤ s) (h1s : s < ss.length) (h0t : 0 ≤ t) (h1t : t < ss.length) (hV : VMo ss = true) (hvn : ∀ a, a ∈ ns → VN a) (hdr : ∀ a, a ∈ ns → a.1 < a.2) (ln : ns.length ≤ 1000) : Run Tryz.prog T E0 (.call 18 [lvMo k ss, .v (.int .i64 (s : Int)), .v (.int .i64 (t : Int)), .sl kn (ns.map mc)] (mtO (runL ss s (ns.map nq)) (runL ss t (ns.map nq)))) := by
 refine bA Tryz.func18 J J (cU J) <| Rg 3 J <| bE (dO J J) J <| Ua J J <| Ua J J <| Wn <| bO (z := 10) J kR <| aI (aN (l := lvMo k ss) J J gG J J) J ?_
 refine Dm J J <| Dm J J <| aI (aM J (nB k kn ss s ns h0s h1s hV hvn hdr ln) (aY (by intro c hc; simp only [List.mem_cons, List.not_mem_nil, or_false] at hc; rcases hc with rfl | rfl | rfl; exact iK; exact (.v _); exact (.sl _ _ (bL gO))))) J <| aI (aN (l := lvMo k ss) J J gG J J) J ?_
 refine Dm J J <| Dm J J <| aI (aM J (nB k kn ss t ns h0t h1t hV hvn hdr ln) (aY (by intro c hc; simp only [List.mem_cons, List.not_mem_nil, or_false] at hc; rcases hc with rfl | rfl | rfl; exact iK; exact (.v _); exact (.sl _ _ (bL gO))))) J <| aI (iG J) J <| aI (iG J) J <| bK (aT kR) J <| Ck [10,11] J <| aB <| Rg 3 J <| Um J J <| aA (aU J J) J <| Um J J <| Wn <| aK <| aZ (α := Nat) (fun i => [(10, lvL (kd2 ns.length) (runL ss s (ns.map nq))), (11, lvL (kd2 ns.length) (runL ss t (ns.map nq))), (22, .v (.int .i64 ((runL ss s (ns.map nq)).length : Int))), (23, .v (.int .i64 (i : Int)))]) (fun i => []) (fun i n => i ≤ (runL ss s (ns.map nq)).length ∧ (∀ a, a < i → (runL ss s (ns.map nq)).getD a default ≠ (runL ss t (ns.map nq)).getD a default)) (fun i => (runL ss s (ns.map nq)).length - i) (0) ⟨J, J, J, J, trivial⟩ trivial ⟨Nat.zero_le _, fun a ha => absurd ha om⟩ ?_
 rintro i n hF
 change WC _ _ _ _ _ (_ :: _) ([]) n _
 obtain ⟨hi, hne⟩ := hF
 have hl1 := gK ss s (ns.map nq)
 have hl2 := gK ss t (ns.map nq)
 have hul : (ns.map nq).length = ns.length := List.length_map _
 refine Rg 1 J <| aA (bP J J) J <| aV (fun h24 => ?_) (fun h24 => ?_)
 rotate_left
 ·refine Wn <| aS J <| aX <| aP <| aR J <| Rg 2 J <| Ua J J <| Ua J J <| Wn <| aL <| post (n := 0) (.inr J) J ?_ mtO_data
  first | exact mtO_1 om h34 hne | exact mtO_2 (fun a ha => hne a om)
 refine Wn <| aO J <| aD <| aK <| Rg 2 J <| Um J J <| Ua J J <| Wn <| bO (z := 9) J kR <| Dm J J <| Dm J J <| aI (bQ (j := i) J J J J om om J) J <| aI (cW J J J) J <| Dm J J <| Dm J J <| aI (bQ (j := i) J J J J om om J) J <| aI (cW J J J) J <| aI (dS J J) J <| kC (fun h34 => ?_) (fun h34 => ?_)
 ·refine bK (aT kR) J <| Ck [10,11,12,22,23,34] J <| bS J <| Rg 3 J <| Um J J <| Ua J J <| Ua J J <| Wn <| aL <| aJ <| bC <| aJ <| post (n := 0) (.inr J) J ?_ mtO_data
  first | exact mtO_1 om h34 hne | exact mtO_2 (fun a ha => hne a om)
 refine bK (aT kR) J <| Ck [10,11,12,22,23,34] J <| bV J <| bZ <| aF <| aH (z := 2) J <| aA (cI (((i + 1 : Nat) : Int)) (aQ J J om) om) J <| Um J J <| Wn <| aG <| ⟨i + 1, ⟨J, J, J, J, trivial⟩, trivial, ⟨om, fun a ha => ?_⟩, by show (runL ss s (ns.map nq)).length - (i + 1) < (runL ss s (ns.map nq)).length - i; omega⟩
 by_cases e : a = i
 ·rw [e]; exact h34
 ·exact hne a om
end Go.Proofs.YtcblgjaomljikaaGreat
namespace Go.Proofs.YtcblgjaomljikaaGreat
open Go.Ab Go.RowKit
theorem hits_run (k kg : Nat) (ss : List Go.Ab.ST) (s : Int) (goal : List Int) (nn d : Int) (hI : ∀ s, s ∈ ss → IS s) (lg : goal.length < 1099511627776) : Run Tryz.prog T E0 (.call 31 [lvMo k ss, .v (.int .i64 (s : Int)), lvL kg goal, .v (.int .i64 (nn : Int)), .v (.int .i64 (d : Int))] (hitO ss s goal nn d)) := by
 refine bA Tryz.func31 J J (cU J) <| Rg 3 J <| bE (dO J J) J <| Ua J J <| Ua J J <| Wn <| aB <| Rg 6 J <| aA (aN (l := lvMo k ss) J J gG J J) J ?_
 refine Um J J <| Um J J <| aA (cP (cs := [_]) (rows := [[_]]) J J (by decide) J J J) J <| aA (aM J (kT k kg 0 2 ss goal [] [s] hI lg (by show 0 < _; omega) (by intro a ha; cases ha) (by show 1 < _; omega)) (aY (by intro c hc; simp only [List.mem_cons, List.not_mem_nil, or_false] at hc; rcases hc with rfl | rfl | rfl | rfl; exact iK; exact (gQ _ _); exact (.sl _ _ (by simp)); exact (.sl _ _ (by intro r hr c hc; rw [List.mem_singleton] at hr; subst hr; exact dic1 _ c hc))))) J <| Ua J J <| Wn <| aB <| Rg 2 J <| Um J J <| aA (fK J J) J <| aV (fun h35 => ?_) (fun h35 => ?_)
 ·refine Nk [1,2,3,4,5,12,35] J <| aO J <| aB <| Rg 3 J <| Um J J <| Ua J J <| Ua J J <| Wn <| aW <| post (n := 0) (.inr J) J ?_ (dC (.v _) (.v _))
  first | exact (bW (kJ h35) h35) | exact (bW (kL ha hrg hnev) (show (7 : Int) ≠ 0 by decide)) | exact (bW (kN ha hrg hevn hul2 h156) (show (3 : Int) ≠ 0 by decide)) | exact iN ha hrg hevn hul2 h156 | (refine (bW (kK ha ?_) (show (6 : Int) ≠ 0 by decide)); omega)
 refine Nk [1,2,3,4,5,12,35] J <| aS J <| aD <| aB ?_
 have ha := Classical.not_not.1 h35
 obtain ⟨hV, hVS, _, hst, _⟩ := ask0 ha
 have hsb := hst s (by simp)
 have hV1 := mF hV
 have hl40 := hV1.wt.len
 refine Rg 14 J <| Um J J <| aA (bP J J) J <| aV (fun h38 => ?_) (fun h38 => ?_)
 ·refine Um J J <| K1 J J <| K1 J J <| aA (bI J J) J <| Um J J <| K1 J J <| K1 J J <| aA (bI J J) J <| Um J J <| K1 J J <| K1 J J <| aA (bI J J) J <| Nk [1,2,3,4,5,50] J <| aO J <| aB <| Rg 2 J <| Ua J J <| Ua J J <| Wn <| aW <| post (n := 0) (.inr J) J ?_ (dC (.v _) (.v _))
  first | exact (bW (kJ h35) h35) | exact (bW (kL ha hrg hnev) (show (7 : Int) ≠ 0 by decide)) | exact (bW (kN ha hrg hevn hul2 h156) (show (3 : Int) ≠ 0 by decide)) | exact iN ha hrg hevn hul2 h156 | (refine (bW (kK ha ?_) (show (6 : Int) ≠ 0 by decide)); omega)
 refine Um J J <| aE J (dL J) J <| aE J (dK J J) J <| aV (fun h41 => ?_) (fun h41 => ?_)
 ·refine aA (bF J J) J <| Um J J <| K1 J J <| K1 J J <| aA (bI J J) J <| Um J J <| K1 J J <| K1 J J <| aA (bI J J) J <| Nk [1,2,3,4,5,50] J <| aO J <| aB <| Rg 2 J <| Ua J J <| Ua J J <| Wn <| aW <| post (n := 0) (.inr J) J ?_ (dC (.v _) (.v _))
  first | exact (bW (kJ h35) h35) | exact (bW (kL ha hrg hnev) (show (7 : Int) ≠ 0 by decide)) | exact (bW (kN ha hrg hevn hul2 h156) (show (3 : Int) ≠ 0 by decide)) | exact iN ha hrg hevn hul2 h156 | (refine (bW (kK ha ?_) (show (6 : Int) ≠ 0 by decide)); omega)
 refine aA (bF J J) J <| Um J J <| aE J (dL J) J <| aE J (bP J J) J <| aV (fun h45 => ?_) (fun h45 => ?_)
 ·refine aA (bF J J) J <| Um J J <| K1 J J <| K1 J J <| aA (bI J J) J <| Nk [1,2,3,4,5,50] J <| aO J <| aB <| Rg 2 J <| Ua J J <| Ua J J <| Wn <| aW <| post (n := 0) (.inr J) J ?_ (dC (.v _) (.v _))
  first | exact (bW (kJ h35) h35) | exact (bW (kL ha hrg hnev) (show (7 : Int) ≠ 0 by decide)) | exact (bW (kN ha hrg hevn hul2 h156) (show (3 : Int) ≠ 0 by decide)) | exact iN ha hrg hevn hul2 h156 | (refine (bW (kK ha ?_) (show (6 : Int) ≠ 0 by decide)); omega)
 refine aA (bF J J) J <| Um J J <| aE J (dL J) J <| aE J (dK J J) J <| aV (fun h49 => ?_) (fun h49 => ?_)
 ·refine aA (bF J J) J <| Nk [1,2,3,4,5,50] J <| aO J <| aB <| Rg 2 J <| Ua J J <| Ua J J <| Wn <| aW <| post (n := 0) (.inr J) J ?_ (dC (.v _) (.v _))
  first | exact (bW (kJ h35) h35) | exact (bW (kL ha hrg hnev) (show (7 : Int) ≠ 0 by decide)) | exact (bW (kN ha hrg hevn hul2 h156) (show (3 : Int) ≠ 0 by decide)) | exact iN ha hrg hevn hul2 h156 | (refine (bW (kK ha ?_) (show (6 : Int) ≠ 0 by decide)); omega)
 refine aA (bF J J) J <| Nk [1,2,3,4,5,50] J <| aS J <| aD <| aB ?_
 have hrg : 0 ≤ nn ∧ nn ≤ 200 ∧ 1 ≤ d ∧ d ≤ 1000 := by omega
 refine Rg 4 J <| aA (bD J J J J J) J <| aA (aN J J gG J J) J ?_
 refine aA (aU J J) J <| Um J J <| Wn <| aK <| aZ (α := Nat) (fun i => [(1, .v (.int .i64 (s : Int))), (2, lvL kg goal), (3, .v (.int .i64 (nn : Int))), (4, .v (.int .i64 (d : Int))), (5, .ptr 0 0), (52, .sl k (ss.map stc)), (53, .v (.int .i64 (ss.length : Int))), (54, .v (.int .i64 (i : Int)))]) (fun i => [(0, { cells := [.sl k (ss.map stc)], sz := 1, elem := (24), st := 0 })]) (fun i n => i ≤ ss.length ∧ (∀ a : Nat, a < i → evB d (brs ss a) = true) ∧ 0 < n) (fun i => ss.length - i) (0) ⟨J, J, J, J, J, J, J, J, trivial⟩ ⟨gG, trivial⟩ ⟨Nat.zero_le _, fun a ha => absurd ha om, om⟩ ?_
 rintro i n hF
 change WC _ _ _ _ _ (_ :: _) (_ :: _) n _
 obtain ⟨hi, hev, hn⟩ := hF
 refine Rg 1 J <| aA (bP J J) J <| aV (fun h55 => ?_) (fun h55 => ?_)
 ·refine Wn <| aO J <| aD <| aK ?_
  have hcl := (hV1.cs _ (bN (us := ss) (i := i) om)).1
  have hvb := brs_VB hV (s := i) om
  have hlb := hvb.len
  refine Rg 4 J <| aA (bQ J J J J J om J) J <| aA (cW (l := .agg (stc (ss.getD i default))) J J J) J <| bE (eM J) J <| bB (cM (cs' := stc (ss.getD i default)) J J J g0 J J J J) <| Wn <| Rg 7 J <| aA (bD J J J J J) J <| aA (aN (l := .sl (ss.getD i default).2.1 ((ss.getD i default).2.2.map chc)) J J gG J J) J ?_
  refine aA (bQ (j := 0) J J J J om om J) J <| aA (oFa J J J J J) J <| aA (bG (b := .sl ((ss.getD i default).2.2.getD 0 default).2.1 ((brs ss i).map brc)) (cW J J J) J) J <| aA (aU J J) J <| Um J J <| Nk [1,2,3,4,5,52,53,54,62,63,64] J <| cJ <| aZ (α := Nat) (fun j => [(1, .v (.int .i64 (s : Int))), (2, lvL kg goal), (3, .v (.int .i64 (nn : Int))), (4, .v (.int .i64 (d : Int))), (5, .ptr 0 0), (52, .sl k (ss.map stc)), (53, .v (.int .i64 (ss.length : Int))), (54, .v (.int .i64 (i : Int))), (62, .sl ((ss.getD i default).2.2.getD 0 default).2.1 ((brs ss i).map brc)), (63, .v (.int .i64 ((brs ss i).length : Int))), (64, .v (.int .i64 (j : Int)))]) (fun j => [(0, { cells := [.sl k (ss.map stc)], sz := 1, elem := (24), st := 0 })]) (fun j n => j ≤ (brs ss i).length ∧ (∀ b : Nat, b < j → d.tmod ((brs ss i).getD b default).2.2 = 0) ∧ 0 < n) (fun j => (brs ss i).length - j) (0) ⟨J, J, J, J, J, J, J, J, J, J, J, trivial⟩ ⟨gG, trivial⟩ ⟨Nat.zero_le _, fun b hb => absurd hb om, om⟩ ?_
  rintro j n hF
  change WC _ _ _ _ _ (_ :: _) (_ :: _) n _
  obtain ⟨hj, heb, hn2⟩ := hF
  refine Rg 1 J <| aA (bP J J) J <| aV (fun h65 => ?_) (fun h65 => ?_)
  rotate_left
  ·refine Wn <| aS J <| aX <| aP <| eQ J <| aF <| aH (z := 2) J <| aA (cI (((i + 1 : Nat) : Int)) (aQ J J om) om) J <| Um J J <| Wn <| aG <| ⟨i + 1, ⟨J, J, J, J, J, J, J, J, trivial⟩, ⟨gG, trivial⟩, ⟨om, fun a ha => ?_, om⟩, by show ss.length - (i + 1) < ss.length - i; omega⟩
   by_cases e : a = i
   ·rw [e]; exact evB_all (fun b hb => heb b om)
   ·exact hev a om
  refine Wn <| aO J <| aD <| aK <| Rg 4 J <| aA (bQ J J J J J om J) J <| aA (cW (l := .agg (brc ((brs ss i).getD j default))) J J J) J <| bE (eM J) J <| bB (cM (cs' := brc ((brs ss i).getD j default)) J J J g0 J J J J) <| Nk [1,2,3,4,5,16,52,53,54,62,63,64] J ?_
  have hb0 : ((brs ss i).getD j default).2.2 ≠ 0 := by have := (hvb.vn j om).1; omega
  refine Rg 6 J <| Um J J <| aA (bD J J J J J) J <| aA (bD J J J J J) J <| aA (aN J J gG J J) J ?_
  refine aA (oRem J J hb0) J <| aA (fK J J) J <| aV (fun h73 => ?_) (fun h73 => ?_)
  rotate_left
  ·refine Nk [1,2,3,4,5,52,53,54,62,63,64,73] J <| bV J <| bZ <| aF <| aH (z := 2) J <| aA (cI (((j + 1 : Nat) : Int)) (aQ J J om) om) J <| Um J J <| Wn <| aG <| ⟨j + 1, ⟨J, J, J, J, J, J, J, J, J, J, J, trivial⟩, ⟨gG, trivial⟩, ⟨om, fun b hb => ?_, om⟩, by show (brs ss i).length - (j + 1) < (brs ss i).length - j; omega⟩
   by_cases e : b = j
   ·rw [e]; exact Classical.not_not.1 h73
   ·exact heb b om
  refine Nk [1,2,3,4,5,52,53,54,62,63,64,73] J <| bS J ?_
  have hnev := evenB_no (ss := ss) (d := d) (a := i) (j := j) om om h73
  refine Rg 2 J <| Ua J J <| Ua J J <| Wn <| aL <| aJ <| bC <| fJ <| aJ <| bC <| aJ <| post (n := 0) (.inr J) J ?_ (dC (.v _) (.v _))
  first | exact (bW (kJ h35) h35) | exact (bW (kL ha hrg hnev) (show (7 : Int) ≠ 0 by decide)) | exact (bW (kN ha hrg hevn hul2 h156) (show (3 : Int) ≠ 0 by decide)) | exact iN ha hrg hevn hul2 h156 | (refine (bW (kK ha ?_) (show (6 : Int) ≠ 0 by decide)); omega)
 refine Wn <| aS J <| aX <| aP <| aR J ?_
 obtain ⟨nK, hnnK⟩ : ∃ z, z = n := ⟨n, rfl⟩
 subst hnnK
 have hevn : evenB ss d = true := List.all_eq_true.2 fun a ha => hev a (by have := List.mem_range.1 ha; omega)
 refine Rg 3 J <| aA (aM J (jT 1 (by decide)) dD) J <| bE (eM J) J <| bB (cM (cs' := ivc 1) J J J g0 J J J J) <| Wn <| Rg 5 J <| aA (bD J J J J J) J <| aA (aN J J gG J J) J ?_
 refine aA (aU J J) J <| bE (oMk (a := ss.length) (b := ss.length) J J J J om om (by decide) om (by show 32 * ss.length ≤ _; omega) om) J <| Ua J J <| Nk [1,2,3,4,5,17,18] J <| aB <| Rg 1 J <| Ua J J <| Wn <| aK <| aZ (α := Nat × Nat × (List Int)) (fun ⟨i, q, vs⟩ => [(1, .v (.int .i64 (s : Int))), (2, lvL kg goal), (3, .v (.int .i64 (nn : Int))), (4, .v (.int .i64 (d : Int))), (5, .ptr 0 0), (17, .ptr (nK + 1 + (0 + 1)) 0), (18, .ref q 2 0 ss.length), (19, .v (.int .i64 (i : Int)))]) (fun ⟨i, q, vs⟩ => [(q, { cells := ((vs).map ivc).flatten, sz := 2, elem := (101), st := 0 }), ((nK + 1 + (0 + 1)), { cells := ivc (d ^ i), sz := 2, elem := (101), st := 0 }), (0, { cells := [.sl k (ss.map stc)], sz := 1, elem := (24), st := 0 })]) (fun ⟨i, q, vs⟩ n => (i : Int) ≤ nn ∧ vs = hraw ss goal d i ∧ nK + 2 < q ∧ q < n) (fun ⟨i, q, vs⟩ => nn.toNat - i) (0, (nK + 1 + 3 + (0 + 1 + 1 + 1)), List.replicate ss.length 0) ⟨J, J, J, J, J, J, J, J, trivial⟩ ⟨g0.trans (by rw [List.map_replicate]; rfl), by rw [Int.pow_zero]; exact gG, gG, trivial⟩ ⟨om, rfl, om, om⟩ ?_
 rintro ⟨i, q, vs⟩ n hF
 change WC _ _ _ _ _ (_ :: _) (_ :: _) n _
 obtain ⟨hin, hvs, hq, hqn⟩ := hF
 have hvl : vs.length = ss.length := by rw [hvs]; exact hraw_len _ _ _ _
 refine aK <| aB <| Rg 3 J <| Um J J <| aA (aU J J) J <| Um J J <| Wn <| aK <| aZ (α := Nat × (List Int)) (fun ⟨j, us⟩ => [(1, .v (.int .i64 (s : Int))), (2, lvL kg goal), (3, .v (.int .i64 (nn : Int))), (4, .v (.int .i64 (d : Int))), (5, .ptr 0 0), (17, .ptr (nK + 1 + (0 + 1)) 0), (18, .ref q 2 0 ss.length), (19, .v (.int .i64 (i : Int))), (83, lvL kg goal), (84, .v (.int .i64 (goal.length : Int))), (85, .v (.int .i64 (j : Int)))]) (fun ⟨j, us⟩ => [(q, { cells := ((us).map ivc).flatten, sz := 2, elem := (101), st := 0 }), ((nK + 1 + (0 + 1)), { cells := ivc (d ^ i), sz := 2, elem := (101), st := 0 }), (0, { cells := [.sl k (ss.map stc)], sz := 1, elem := (24), st := 0 })]) (fun ⟨j, us⟩ n => j ≤ goal.length ∧ us = hset (goal.take j) (d ^ i) vs ∧ q < n) (fun ⟨j, us⟩ => goal.length - j) (0, vs) ⟨J, J, J, J, J, J, J, J, J, J, J, trivial⟩ ⟨gG, gG, gG, trivial⟩ ⟨Nat.zero_le _, rfl, om⟩ ?_
 rintro ⟨j, us⟩ n hF
 change WC _ _ _ _ _ (_ :: _) (_ :: _) n _
 obtain ⟨hj, hus, hqn2⟩ := hF
 have hul : us.length = ss.length := by rw [hus, hset_len]; exact hvl
 refine Rg 1 J <| aA (bP J J) J <| aV (fun h86 => ?_) (fun h86 => ?_)
 ·refine Wn <| aO J <| aD <| aK ?_
  have hlt := VSet_lt hVS (i := j) om
  refine Rg 3 J <| aA (bQ J J J J J om J) J <| aA (cW J J J) J <| Ua J J <| Nk [1,2,3,4,5,17,18,19,21,83,84,85] J <| aH (z := 5) J <| Um J J <| Um J J <| aA (aN (l := lvI (d ^ i)) J J gG J J) J ?_
  refine aA (cX (j := (goal.getD j default).toNat) J J J J om om J) J <| bB (fE (f := ivc) (us := us) (d ^ i) J J J gG (fun _ => rfl) J J om J) ?_
  refine Wn <| aF <| Ck [1,2,3,4,5,17,18,19,83,84,85] J <| aH (z := 2) J <| aA (cI (((j + 1 : Nat) : Int)) (aQ J J om) om) J <| Um J J <| Wn <| aG <| ⟨⟨j + 1, us.set (goal.getD j default).toNat (d ^ i)⟩, ⟨J, J, J, J, J, J, J, J, J, J, J, trivial⟩, ⟨gG, gG, gG, trivial⟩, ⟨om, by rw [hset_succ om, ← hus], om⟩, by show goal.length - (j + 1) < goal.length - j; omega⟩
 refine Wn <| aS J <| aX <| aP <| aR J <| aB <| Rg 3 J <| Um J J <| Um J J <| aA (dS J J) J <| aV (fun h96 => ?_) (fun h96 => ?_)
 ·refine Nk [1,2,3,4,5,17,18,19,96] J <| aO J <| aX <| after_exitF J <| aP <| aR J ?_
  have hul2 : us = hval ss goal d nn.toNat := by rw [hus, hvs, List.take_of_length_le (l := goal) om, show nn.toNat = i by omega]; rfl
  refine Rg 10 J <| Um J J <| Um J J <| aA (cX (j := s.toNat) J J J J om om J) J <| aA (bG (b := lvI (us.getD s.toNat default)) (fV (f := ivc) (us := us) J J gG (fun _ => rfl) J (by decide) om J) J) J ?_
  refine aA (aM J (int_run (us.getD s.toNat default) 1152921504606846976 (by decide)) (aY (by intro c hc; simp only [List.mem_cons, List.not_mem_nil, or_false] at hc; rcases hc with rfl | rfl; exact (.agg _ (iD _)); exact (.v _)))) J <| Um J J <| aA (dV J J) J <| aA (dV J J) J <| dB (fun h156 => ?_) (fun h156 => ?_)
  rotate_left
  ·refine Ua J J <| Ua J J <| Nk [27,28] J <| aB <| Rg 2 J <| Um J J <| aA (cY J) J <| Wn <| aO J <| aB <| Rg 2 J <| Ua J J <| Ua J J <| Wn <| aW <| post (n := 0) (.inr J) J ?_ (dC (.v _) (.v _))
   first | exact (bW (kJ h35) h35) | exact (bW (kL ha hrg hnev) (show (7 : Int) ≠ 0 by decide)) | exact (bW (kN ha hrg hevn hul2 h156) (show (3 : Int) ≠ 0 by decide)) | exact iN ha hrg hevn hul2 h156 | (refine (bW (kK ha ?_) (show (6 : Int) ≠ 0 by decide)); omega)
  refine Ua J J <| Ua J J <| Nk [27,28] J <| aB <| Rg 2 J <| Um J J <| aA (cY J) J <| Wn <| aS J <| aD <| Rg 3 J <| Um J J <| Ua J J <| Ua J J <| Wn <| aL <| post (n := 0) (.inr J) J ?_ (dC (.v _) (.v _))
  first | exact (bW (kJ h35) h35) | exact (bW (kL ha hrg hnev) (show (7 : Int) ≠ 0 by decide)) | exact (bW (kN ha hrg hevn hul2 h156) (show (3 : Int) ≠ 0 by decide)) | exact iN ha hrg hevn hul2 h156 | (refine (bW (kK ha ?_) (show (6 : Int) ≠ 0 by decide)); omega)
 refine Nk [1,2,3,4,5,17,18,19,96] J <| aS J <| aD ?_
 obtain ⟨nJ, hnnJ⟩ : ∃ z, z = n := ⟨n, rfl⟩
 subst hnnJ
 have hub : ∀ x, x ∈ us → 0 ≤ x ∧ x ≤ 8000 ^ i := by rw [hus, hvs, List.take_of_length_le (l := goal) om]; exact hval_bd hV hrg.2.2 i
 refine Rg 4 J <| Um J J <| aA (cI ((ss.length : Int)) (oT J J) om) J <| bE (oMk (a := ss.length) (b := ss.length) J J J J om om (by decide) om (by show 32 * ss.length ≤ _; omega) om) J <| Ua J J <| Wn <| aB <| Rg 4 J <| aA (bD J J J J J) J <| aA (aN J J gG J J) J ?_
 refine aA (aU J J) J <| Um J J <| Nk [1,2,3,4,5,17,18,19,22,101,102,103] J <| aK <| aZ (α := Nat × (List Int)) (fun ⟨t, ws⟩ => [(1, .v (.int .i64 (s : Int))), (2, lvL kg goal), (3, .v (.int .i64 (nn : Int))), (4, .v (.int .i64 (d : Int))), (5, .ptr 0 0), (17, .ptr (nK + 1 + (0 + 1)) 0), (18, .ref q 2 0 ss.length), (19, .v (.int .i64 (i : Int))), (22, .ref (nJ + 1 + 3 + (0 + 1 + 1)) 2 0 ss.length), (101, .sl k (ss.map stc)), (102, .v (.int .i64 (ss.length : Int))), (103, .v (.int .i64 (t : Int)))]) (fun ⟨t, ws⟩ => [((nJ + 1 + 3 + (0 + 1 + 1)), { cells := ((ws).map ivc).flatten, sz := 2, elem := (101), st := 0 }), (q, { cells := ((us).map ivc).flatten, sz := 2, elem := (101), st := 0 }), ((nK + 1 + (0 + 1)), { cells := ivc (d ^ i), sz := 2, elem := (101), st := 0 }), (0, { cells := [.sl k (ss.map stc)], sz := 1, elem := (24), st := 0 })]) (fun ⟨t, ws⟩ n => t ≤ ss.length ∧ ws.length = ss.length ∧ (∀ a : Nat, a < t → ws.getD a default = hsum d (brs ss a) us (brs ss a).length) ∧ (∀ a : Nat, t ≤ a → a < ss.length → ws.getD a default = 0) ∧ nJ + 6 < n) (fun ⟨t, ws⟩ => ss.length - t) (0, List.replicate ss.length 0) ⟨J, J, J, J, J, J, J, J, J, J, J, J, trivial⟩ ⟨g0.trans (by rw [List.map_replicate]; rfl), gG, gG, gG, trivial⟩ ⟨Nat.zero_le _, by simp, fun a ha => absurd ha om, fun a _ ha => rep_get0 ha, om⟩ ?_
 rintro ⟨t, ws⟩ n hF
 change WC _ _ _ _ _ (_ :: _) (_ :: _) n _
 obtain ⟨htl, hwl, hws, hw0, hn8⟩ := hF
 refine Rg 1 J <| aA (bP J J) J <| aV (fun h104 => ?_) (fun h104 => ?_)
 rotate_left
 ·refine Wn <| aS J <| aX <| aP <| aR J ?_
  have hpl := jC d hrg.2.2 i
  refine dT (z := 7) J kR <| Dm J J <| aI (aN (l := lvI (d ^ i)) J J gG J J) J ?_
  refine Dm J J <| aI (aM J (jT d om) dD) J <| aI (aM J (iR (d ^ i) d (by have := qO (i := i) om hpl; omega) (by have := eC (v := d) om; omega)) (aY (by intro c hc; simp only [List.mem_cons, List.not_mem_nil, or_false] at hc; rcases hc with rfl | rfl; exact (.agg _ (iD _)); exact (.agg _ (iD _))))) J <| aI (iG J) J <| cV (cM (cs' := ivc (d ^ i * d)) J J J gG J J J J) ?_
  refine bK (iA (rn n) (by simp only [List.reverse_cons, List.reverse_nil, List.nil_append, List.cons_append, List.map_cons, List.map_nil, ren, keys, Nat.add_assoc, rB, show rn n (nK + 2) = 0 from rn_lt om]; kernel_rfl)) J <| aF <| Ck [1,2,3,4,5,17,18,19] J <| aH (z := 3) J <| Um J J <| aA (cI (((i + 1 : Nat) : Int)) (aQ J J om) om) J <| Ua J J <| Wn <| aG <| ⟨⟨i + 1, _, ws⟩, ⟨J, J, J, J, J, J, J, J, trivial⟩, ⟨gG, by rw [Int.pow_succ]; exact gG, gG, trivial⟩, ⟨om, ?_, om, om⟩, by show nn.toNat - (i + 1) < nn.toNat - i; omega⟩
  rw [hraw_succ, ← hvs, ← List.take_of_length_le (l := goal) (i := j) om, ← hus]
  refine qL (by rw [hwl, hstep_len]) fun a ha => ?_
  rw [hws a om]
  exact (eF (f := fun t => hsum d (brs ss t) us (brs ss t).length) om).symm
 refine Wn <| aO J <| aD <| aK ?_
 have hcl := (hV1.cs _ (bN (us := ss) (i := t) om)).1
 have hvb := brs_VB hV (s := t) om
 refine Rg 6 J <| Um J J <| aA (bQ J J J J J om J) J <| aA (cW (l := .agg (stc (ss.getD t default))) J J J) J <| bE (eM J) J <| Ua J J <| bB (cM (cs' := stc (ss.getD t default)) J J J g0 J J J J) <| Nk [1,2,3,4,5,17,18,19,22,23,24,101,102,103] J <| Rg 7 J <| aA (bD J J J J J) J <| aA (aN (l := .sl (ss.getD t default).2.1 ((ss.getD t default).2.2.map chc)) J J gG J J) J ?_
 refine aA (bQ (j := 0) J J J J om om J) J <| aA (oFa J J J J J) J <| aA (bG (b := .sl ((ss.getD t default).2.2.getD 0 default).2.1 ((brs ss t).map brc)) (cW J J J) J) J <| aA (aU J J) J <| Um J J <| Nk [1,2,3,4,5,17,18,19,22,23,101,102,103,112,113,114] J <| cJ <| aZ (α := Nat × (List Int)) (fun ⟨j, w⟩ => [(1, .v (.int .i64 (s : Int))), (2, lvL kg goal), (3, .v (.int .i64 (nn : Int))), (4, .v (.int .i64 (d : Int))), (5, .ptr 0 0), (17, .ptr (nK + 1 + (0 + 1)) 0), (18, .ref q 2 0 ss.length), (19, .v (.int .i64 (i : Int))), (22, .ref (nJ + 1 + 3 + (0 + 1 + 1)) 2 0 ss.length), (23, .v (.int .i64 (t : Int))), (101, .sl k (ss.map stc)), (102, .v (.int .i64 (ss.length : Int))), (103, .v (.int .i64 (t : Int))), (112, .sl ((ss.getD t default).2.2.getD 0 default).2.1 ((brs ss t).map brc)), (113, .v (.int .i64 ((brs ss t).length : Int))), (114, .v (.int .i64 (j : Int)))]) (fun ⟨j, w⟩ => [((nJ + 1 + 3 + (0 + 1 + 1)), { cells := ((w).map ivc).flatten, sz := 2, elem := (101), st := 0 }), (q, { cells := ((us).map ivc).flatten, sz := 2, elem := (101), st := 0 }), ((nK + 1 + (0 + 1)), { cells := ivc (d ^ i), sz := 2, elem := (101), st := 0 }), (0, { cells := [.sl k (ss.map stc)], sz := 1, elem := (24), st := 0 })]) (fun ⟨j, w⟩ n => j ≤ (brs ss t).length ∧ w.length = ss.length ∧ (∀ a : Nat, a < t → w.getD a default = hsum d (brs ss a) us (brs ss a).length) ∧ w.getD t default = hsum d (brs ss t) us j ∧ (∀ a : Nat, t < a → a < ss.length → w.getD a default = 0) ∧ nJ + 6 < n) (fun ⟨j, w⟩ => (brs ss t).length - j) (0, ws) ⟨J, J, J, J, J, J, J, J, J, J, J, J, J, J, J, J, trivial⟩ ⟨gG, gG, gG, gG, trivial⟩ ⟨Nat.zero_le _, hwl, hws, hw0 t om om, fun a ha hb => hw0 a om hb, om⟩ ?_
 rintro ⟨j, w⟩ n hF
 change WC _ _ _ _ _ (_ :: _) (_ :: _) n _
 obtain ⟨hjl, hxl, hxs, hxt, hx0, hn10⟩ := hF
 refine Rg 1 J <| aA (bP J J) J <| aV (fun h115 => ?_) (fun h115 => ?_)
 rotate_left
 ·refine Nk [1,2,3,4,5,17,18,19,22,23,101,102,103,112,113,114,115] J <| aS J <| aX <| aP <| eQ J <| aF <| Ck [1,2,3,4,5,17,18,19,22,101,102,103] J <| aH (z := 2) J <| aA (cI (((t + 1 : Nat) : Int)) (aQ J J om) om) J <| Um J J <| Wn <| aG <| ⟨⟨t + 1, w⟩, ⟨J, J, J, J, J, J, J, J, J, J, J, J, trivial⟩, ⟨gG, gG, gG, gG, trivial⟩, ⟨om, hxl, fun a ha => ?_, fun a ha hb => hx0 a om hb, om⟩, by show ss.length - (t + 1) < ss.length - t; omega⟩
  by_cases e : a = t
  ·rw [e, hxt, show j = (brs ss t).length by omega]
  ·exact hxs a om
 refine Nk [1,2,3,4,5,17,18,19,22,23,101,102,103,112,113,114,115] J <| aO J <| aD <| aK <| Rg 4 J <| aA (bQ J J J J J om J) J <| aA (cW (l := .agg (brc ((brs ss t).getD j default))) J J J) J <| bE (eM J) J <| bB (cM (cs' := brc ((brs ss t).getD j default)) J J J g0 J J J J) <| Nk [1,2,3,4,5,17,18,19,22,23,26,101,102,103,112,113,114] J ?_
 have hb0 : ((brs ss t).getD j default).2.2 ≠ 0 := by have := (hvb.vn j om).1; omega
 have hto := hvb.to j om
 obtain ⟨hq8, hw8⟩ := hvb.wgt hrg.2.2 (i := j) om
 have hui := hub _ (bN (us := us) (i := ((brs ss t).getD j default).1.toNat) om)
 have hhs := hsum_bd hvb hrg.2.2 hul hub j om
 have hlb := hvb.len
 obtain ⟨hl1, hl2, hl3⟩ := hits_len (i := i) om hui hw8 hhs om
 rw [← hxt] at hl3
 have hw8' : 0 ≤ d.tdiv ((brs ss t).getD j default).2.2 * ((brs ss t).getD j default).2.1 ∧ d.tdiv ((brs ss t).getD j default).2.2 * ((brs ss t).getD j default).2.1 ≤ 1000 := hw8
 refine dT (z := 25) J kR <| Dm J J <| Dm J J <| Dm J J <| Dm J J <| aI (cX (j := t) J J J J om om J) J <| aI (bG (b := lvI (w.getD t default)) (fV (f := ivc) (us := w) J J gG (fun _ => rfl) J (by decide) om J) J) J ?_
 refine Dm J J <| aI (bD J J J J J) J <| aI (aN J J gG J J) J ?_
 refine aI (cX (j := ((brs ss t).getD j default).1.toNat) J J J J om om J) J <| aI (bG (b := lvI (us.getD ((brs ss t).getD j default).1.toNat default)) (fV (f := ivc) (us := us) J J gG (fun _ => rfl) J (by decide) om J) J) J ?_
 refine Dm J J <| aI (bD J J J J J) J <| aI (bD J J J J J) J <| aI (aN J J gG J J) J ?_
 refine aI (jS J J hb0 om) J <| aI (bD J J J J J) J <| aI (bD J J J J J) J <| aI (aN J J gG J J) J ?_
 refine aI (eO J J om) J <| aI (bG (b := lvI (wgt d ((brs ss t).getD j default))) (aM J (jT _ om) dD) J) J <| aI (aM J (iR (us.getD ((brs ss t).getD j default).1.toNat default) (wgt d ((brs ss t).getD j default)) om om) (aY (by intro c hc; simp only [List.mem_cons, List.not_mem_nil, or_false] at hc; rcases hc with rfl | rfl; exact (.agg _ (iD _)); exact (.agg _ (iD _))))) J <| aI (bG (b := lvI ((w.getD t default) + (us.getD ((brs ss t).getD j default).1.toNat default) * wgt d ((brs ss t).getD j default))) (aM J (pE (w.getD t default) ((us.getD ((brs ss t).getD j default).1.toNat default) * wgt d ((brs ss t).getD j default)) om (by have := dX (us.getD ((brs ss t).getD j default).1.toNat default) (wgt d ((brs ss t).getD j default)); omega)) (aY (by intro c hc; simp only [List.mem_cons, List.not_mem_nil, or_false] at hc; rcases hc with rfl | rfl; exact (.agg _ (iD _)); exact (.agg _ (iD _))))) J) J <| aI (cX (j := t) J J J J om om J) J <| cV (fE (f := ivc) (us := w) ((w.getD t default) + (us.getD ((brs ss t).getD j default).1.toNat default) * wgt d ((brs ss t).getD j default)) J J J gG (fun _ => rfl) J J om J) ?_
 refine bK (iA (rn n) (by simp only [List.reverse_cons, List.reverse_nil, List.nil_append, List.cons_append, List.map_cons, List.map_nil, ren, keys, Nat.add_assoc, rB, show rn n q = 0 from rn_lt om, show rn n (nJ + 6) = 0 from rn_lt om]; kernel_rfl)) J <| aF <| Ck [1,2,3,4,5,17,18,19,22,23,101,102,103,112,113,114] J <| aH (z := 2) J <| aA (cI (((j + 1 : Nat) : Int)) (aQ J J om) om) J <| Um J J <| Wn <| aG <| ⟨⟨j + 1, w.set t ((w.getD t default) + (us.getD ((brs ss t).getD j default).1.toNat default) * wgt d ((brs ss t).getD j default))⟩, ⟨J, J, J, J, J, J, J, J, J, J, J, J, J, J, J, J, trivial⟩, ⟨gG, gG, gG, gG, trivial⟩, ⟨om, by rw [List.length_set]; exact hxl, fun a ha => by rw [bY om, if_neg om]; exact hxs a ha, ?_, fun a ha hb => by rw [bY om, if_neg om]; exact hx0 a ha hb, om⟩, by show (brs ss t).length - (j + 1) < (brs ss t).length - j; omega⟩
 rw [bY om, if_pos rfl, hxt]; rfl
end Go.Proofs.YtcblgjaomljikaaGreat
namespace Go.Proofs.YtcblgjaomljikaaGreat
open Go.Ab Go.RowKit
theorem lD (a b : Int) : Run Tryz.prog T E0 (.call 97 [.v (.int .i64 (a : Int)), .v (.int .i64 (b : Int))] (lvM (a, b))) := by
 refine bA Tryz.func97 J J (cU J) <| Rg 1 J <| bE (eM J) J <| Wn <| Rg 4 J <| Um J J <| Um J J <| aA (fP (cs := mc (a, b)) J J J J J) J <| bB (cM (cs' := mc (a, b)) J J J g0 J J J J) <| Wn <| aL ?_
 exact post (n := 0) (.inr J) J J (by simp)
theorem oD (a b : Int) : Run Tryz.prog T E0 (.call 40 [.v (.int .i64 (a : Int)), .v (.int .i64 (b : Int))] (lvM (a, b))) := by
 refine bA Tryz.func40 J J (cU J) <| Rg 1 J <| bE (eM J) J <| Wn <| Rg 4 J <| Um J J <| Um J J <| aA (fP (cs := mc (a, b)) J J J J J) J <| bB (cM (cs' := mc (a, b)) J J J g0 J J J J) <| Wn <| aL ?_
 exact post (n := 0) (.inr J) J J (by simp)
theorem rC  : Run Tryz.prog T E0 (.call 44 [] (lvMo 2 rollS)) := by
 refine bA Tryz.func44 J J (cU J) <| Rg 1 J <| bE (eM J) J <| Wn <| Rg 20 J <| aA (aM J (lD 0 1) dD) J <| aA (aM J (lD 1 2) dD) J <| aA (fP (cs := brc (0, (1, 2))) J J J J J) J <| aA (aM J (lD 1 4) dD) J <| aA (fP (cs := brc (1, (1, 4))) J J J J J) J <| aA (aM J (lD 1 4) dD) J <| aA (fP (cs := brc (2, (1, 4))) J J J J J) J <| aA (bG (b := .sl 2 (rollC.2.2.map brc)) (cP (cs := [_, _, _, _, _, _, _, _, _]) (rows := [[_, _, _], [_, _, _], [_, _, _]]) J J (by decide) J J J) J) J <| aA (fP (cs := chc rollC) J J J J J) J <| aA (bG (b := .sl 2 ([rollC].map chc)) (cP (cs := [_, _, _]) (rows := [[_, _, _]]) J J (by decide) J J J) J) J <| aA (fP (cs := stc ((0, 0), (2, [rollC]))) J J J J J) J <| aA (aM J (qloop_run 1) dD) J <| aA (bG (b := .sl 2 ([lpc 1].map chc)) (cP (cs := [_, _, _]) (rows := [[_, _, _]]) J J (by decide) J J J) J) J <| aA (fP (cs := stc ((0, 0), (2, [lpc 1]))) J J J J J) J <| aA (aM J (qloop_run 2) dD) J <| aA (bG (b := .sl 2 ([lpc 2].map chc)) (cP (cs := [_, _, _]) (rows := [[_, _, _]]) J J (by decide) J J J) J) J <| aA (fP (cs := stc ((0, 1), (2, [lpc 2]))) J J J J J) J <| aA (bG (b := .sl 2 (rollS.map stc)) (cP (cs := [_, _, _, _, _, _, _, _, _]) (rows := [[_, _, _], [_, _, _], [_, _, _]]) J J (by decide) J J J) J) J <| aA (fP (cs := [.sl 2 (rollS.map stc)]) J J J J J) J ?_
 refine bB (cM (cs' := [.sl 2 (rollS.map stc)]) J J J g0 J J J J) <| Nk [0] J <| aL ?_
 exact post (n := 0) (.inr J) J J iK
theorem nN  : Run Tryz.prog T E0 (.call 8 [] (.v (.bool true))) := by
 refine bA Tryz.func8 J J (cU J) <| Rg 1 J <| Ua J J <| Wn <| Rg 10 J <| aA (aM J (rC) dD) J <| aA (aM J (oD 1 3) dD) J <| aA (aM J (oD 1 2) dD) J <| aA (bG (b := .sl 2 (([(1, 3), (1, 2)] : List NM).map mc)) (cP (cs := [_, _, _, _]) (rows := [[_, _], [_, _]]) J J (by decide) J J J) J) J <| aA (bG (b := .tup [lvL (kd2 2) [0, 0, 1], .v (.int .i64 0)]) (aM J (mC 2 2 rollS 0 [(1, 3), (1, 2)] roll_is (by decide) (iv_small _ (by decide))) (aY (by intro c hc; simp only [List.mem_cons, List.not_mem_nil, or_false] at hc; rcases hc with rfl | rfl | rfl; exact iK; exact (.v _); exact (.sl _ _ (bL gO (us := [(1, 3), (1, 2)])))))) roll_run1) J <| Um J J <| aA (dV J J) J <| aA (dV J J) J <| Ua J J <| Ua J J <| Wn <| Rg 9 J <| aA (aM J (rC) dD) J <| aA (aM J (oD 3 4) dD) J <| aA (bG (b := .sl 2 (([(3, 4)] : List NM).map mc)) (cP (cs := [_, _]) (rows := [[_, _]]) J J (by decide) J J J) J) J <| aA (bG (b := .tup [lvL (kd2 1) [0, 2], .v (.int .i64 0)]) (aM J (mC 2 2 rollS 0 [(3, 4)] roll_is (by decide) (iv_small _ (by decide))) (aY (by intro c hc; simp only [List.mem_cons, List.not_mem_nil, or_false] at hc; rcases hc with rfl | rfl | rfl; exact iK; exact (.v _); exact (.sl _ _ (bL gO (us := [(3, 4)])))))) roll_run2) J <| Um J J <| aA (dV J J) J <| aA (dV J J) J ?_
 refine Ua J J <| Ua J J <| Nk [1,2,3,4] J <| Rg 8 J <| aA (aM J (rC) dD) J <| aA (bG (b := lvL 2 [2]) (cP (cs := [_]) (rows := [[_]]) J J (by decide) J J J) J) J <| aA (bG (b := .tup [.v (.int .i64 6), .v (.int .i64 0)]) (aM J (hits_run 2 2 rollS 0 [2] 2 4 roll_is (by decide)) (aY (by intro c hc; simp only [List.mem_cons, List.not_mem_nil, or_false] at hc; rcases hc with rfl | rfl | rfl | rfl | rfl; exact iK; exact (.v _); exact (gQ _ _); exact (.v _); exact (.v _)))) roll_hit) J <| Um J J <| aA (dV J J) J <| aA (dV J J) J <| Ua J J <| Ua J J <| Wn <| Rg 25 J <| Um J J <| aA (dS J J) J <| aV (fun h29 => ?_) (fun h29 => ?_)
 rotate_left
 ·refine Um J J <| K1 J J <| K1 J J <| K1 J J <| aA (bF J J) J <| Um J J <| K1 J J <| K1 J J <| aA (bF J J) J <| Um J J <| K1 J J <| K1 J J <| K1 J J <| aA (bF J J) J <| Um J J <| K1 J J <| K1 J J <| aA (bF J J) J <| Um J J <| K1 J J <| K1 J J <| aA (bF J J) J <| Ua J J <| cL ?_
  refine Ck [0] J <| aL ?_
  first | exact post (n := 0) (.inr rfl) rfl rfl (by simp) | (exfalso; omega) | (exfalso; simp_all)
 refine Um J J <| aE J (dL J) J <| aE J (bG (b := lvL 2 [0, 0, 1]) (cP (cs := [_, _, _]) (rows := [[_], [_], [_]]) J J (by decide) J J J) J) J <| aE J (bG (b := .v (.bool true)) (aM J (pN (kd2 2) 2 [0, 0, 1] [0, 0, 1] (by decide)) (aY (by intro c hc; simp only [List.mem_cons, List.not_mem_nil, or_false] at hc; rcases hc with rfl | rfl; exact (gQ _ _); exact (gQ _ _)))) J) J <| aA (bI J J) J <| Um J J <| dB (fun h35 => ?_) (fun h35 => ?_)
 rotate_left
 ·refine K1 J J <| K1 J J <| aA (bF J J) J <| Um J J <| K1 J J <| K1 J J <| K1 J J <| aA (bF J J) J <| Um J J <| K1 J J <| K1 J J <| aA (bF J J) J <| Um J J <| K1 J J <| K1 J J <| aA (bF J J) J <| Ua J J <| Nk [0] J <| aL ?_
  first | exact post (n := 0) (.inr rfl) rfl rfl (by simp) | (exfalso; omega) | (exfalso; simp_all)
 refine aE J (dL J) J <| aE J (dS J J) J <| aV (fun h37 => ?_) (fun h37 => ?_)
 rotate_left
 ·refine aA (bI J J) J <| Um J J <| K1 J J <| K1 J J <| K1 J J <| aA (bF J J) J <| Um J J <| K1 J J <| K1 J J <| aA (bF J J) J <| Um J J <| K1 J J <| K1 J J <| aA (bF J J) J <| Ua J J <| Nk [0] J <| aL ?_
  first | exact post (n := 0) (.inr rfl) rfl rfl (by simp) | (exfalso; omega) | (exfalso; simp_all)
 refine aA (bI J J) J <| Um J J <| aE J (dL J) J <| aE J (bG (b := lvL 2 [0, 2]) (cP (cs := [_, _]) (rows := [[_], [_]]) J J (by decide) J J J) J) J <| aE J (bG (b := .v (.bool true)) (aM J (pN (kd2 1) 2 [0, 2] [0, 2] (by decide)) (aY (by intro c hc; simp only [List.mem_cons, List.not_mem_nil, or_false] at hc; rcases hc with rfl | rfl; exact (gQ _ _); exact (gQ _ _)))) J) J <| aA (bI J J) J <| Um J J <| dB (fun h44 => ?_) (fun h44 => ?_)
 rotate_left
 ·refine K1 J J <| K1 J J <| aA (bF J J) J <| Um J J <| K1 J J <| K1 J J <| aA (bF J J) J <| Ua J J <| Nk [0] J <| aL ?_
  first | exact post (n := 0) (.inr rfl) rfl rfl (by simp) | (exfalso; omega) | (exfalso; simp_all)
 refine aE J (dL J) J <| aE J (dS J J) J <| aV (fun h46 => ?_) (fun h46 => ?_)
 ·refine aA (bI J J) J <| Um J J <| aE J (dL J) J <| aE J (dS J J) J <| aA (bI J J) J <| Ua J J <| Nk [0] J <| aL ?_
  first | exact post (n := 0) (.inr rfl) rfl rfl (by simp) | (exfalso; omega) | (exfalso; simp_all)
 refine aA (bI J J) J <| Um J J <| K1 J J <| K1 J J <| aA (bF J J) J <| Ua J J <| Nk [0] J <| aL ?_
 first | exact post (n := 0) (.inr rfl) rfl rfl (by simp) | (exfalso; omega) | (exfalso; simp_all)
end Go.Proofs.YtcblgjaomljikaaGreat
namespace Go.Proofs.YtcblgjaomljikaaGreat
open Go.Ab Go.RowKit
theorem qfewn_run (m k : Nat) (ss : List Go.Ab.ST) : Run Tryz.prog T E0 (.call 43 [.v (.int .i64 (m : Int)), lvMo k ss] (.v (.bool (fewN m ss)))) := by
 refine bA Tryz.func43 J J (cU J) <| Rg 2 J <| bE (dO J J) J <| Ua J J <| Wn <| aB <| Rg 17 J <| aA (bD J J J J J) J <| aA (aN J J gG J J) J ?_
 refine aA (aU J J) J <| Um J J <| aA (dK J J) J <| aV (fun h13 => ?_) (fun h13 => ?_)
 rotate_left
 ·refine Um J J <| K1 J J <| K1 J J <| K1 J J <| K1 J J <| aA (bF J J) J <| Um J J <| aE J (bD J J J J J) J <| aE J (aN J J gG J J) J ?_
  refine aE J (aU J J) J <| aE J (dK J J) J <| aV (fun h24 => ?_) (fun h24 => ?_)
  ·refine aA (bF J J) J <| Nk [3,25] J <| aO J <| aB <| Rg 1 J <| Ua J J <| Wn <| aW <| post (n := 0) (.inr J) J ?_ dD
   exact congrArg (fun z => LV.v (.bool z)) (show false = fewN m ss by unfold fewN fewM; rw [decide_eq_false (show ¬ ss.length ≤ 45 by omega), Bool.false_and, Bool.and_false])
  refine aA (bF J J) J <| Nk [3,25] J <| aS J <| aD <| aB ?_
  have h6 : (!(decide (m < ss.length) && decide (ss.length ≤ 40))) = true := by first | (rw [decide_eq_false (show ¬ m < ss.length by omega)]; rfl) | (rw [decide_eq_false (show ¬ ss.length ≤ 40 by omega), Bool.and_false]; rfl)
  refine Rg 4 J <| aA (bD J J J J J) J <| aA (aN J J gG J J) J ?_
  refine aA (aU J J) J <| Um J J <| Wn <| aK <| aZ (α := Nat) (fun i => [(27, .sl k (ss.map stc)), (28, .v (.int .i64 (ss.length : Int))), (29, .v (.int .i64 (i : Int)))]) (fun i => []) (fun i n => i ≤ ss.length ∧ (ss.take i).all fewS = true) (fun i => ss.length - i) (0) ⟨J, J, J, trivial⟩ trivial ⟨Nat.zero_le _, by simp⟩ ?_
  rintro i n hF
  change WC _ _ _ _ _ (_ :: _) ([]) n _
  obtain ⟨hi, ha⟩ := hF
  refine Rg 1 J <| aA (bP J J) J <| aV (fun h30 => ?_) (fun h30 => ?_)
  rotate_left
  ·refine Wn <| aS J <| aX <| aP <| aR J <| Rg 1 J <| Ua J J <| Wn <| aL <| post (n := 0) (.inr J) J ?_ dD
   exact congrArg (fun z => LV.v (.bool z)) (show true = fewN m ss by unfold fewN fewM; rw [h6, decide_eq_true om, fY ha om]; rfl)
  refine Wn <| aO J <| aD <| aK <| Rg 4 J <| aA (bQ J J J J J om J) J <| aA (cW (l := .agg (stc (ss.getD i default))) J J J) J <| bE (eM J) J <| bB (cM (cs' := stc (ss.getD i default)) J J J g0 J J J J) <| Wn <| aB <| Rg 4 J <| aA (bD J J J J J) J <| aA (aN J J gG J J) J ?_
  refine aA (aU J J) J <| aA (dK J J) J <| aV (fun h36 => ?_) (fun h36 => ?_)
  ·refine Wn <| aO J <| aB <| Rg 1 J <| Ua J J <| Wn <| aW <| aJ <| bC <| aJ <| post (n := 0) (.inr J) J ?_ dD
   exact congrArg (fun z => LV.v (.bool z)) (show false = fewN m ss by unfold fewN; rw [pI (i := i) om (fewS_no1 om), Bool.and_false])
  refine Wn <| aS J <| aD <| Rg 4 J <| aA (bD J J J J J) J <| aA (aN J J gG J J) J ?_
  refine aA (aU J J) J <| Um J J <| Nk [27,28,29,38,39,40] J <| cJ <| aZ (α := Nat) (fun j => [(27, .sl k (ss.map stc)), (28, .v (.int .i64 (ss.length : Int))), (29, .v (.int .i64 (i : Int))), (38, .sl (ss.getD i default).2.1 ((ss.getD i default).2.2.map chc)), (39, .v (.int .i64 ((ss.getD i default).2.2.length : Int))), (40, .v (.int .i64 (j : Int)))]) (fun j => []) (fun j n => j ≤ (ss.getD i default).2.2.length ∧ ((ss.getD i default).2.2.take j).all fewC = true) (fun j => (ss.getD i default).2.2.length - j) (0) ⟨J, J, J, J, J, J, trivial⟩ trivial ⟨Nat.zero_le _, by simp⟩ ?_
  rintro j n hF
  change WC _ _ _ _ _ (_ :: _) ([]) n _
  obtain ⟨hj, hb⟩ := hF
  refine Rg 1 J <| aA (bP J J) J <| aV (fun h41 => ?_) (fun h41 => ?_)
  rotate_left
  ·refine Wn <| aS J <| aX <| aP <| eQ J <| aF <| aH (z := 2) J <| aA (cI (((i + 1 : Nat) : Int)) (aQ J J om) om) J <| Um J J <| Wn <| aG <| ⟨i + 1, ⟨J, J, J, trivial⟩, trivial, ⟨om, fG ha om (by unfold fewS; rw [decide_eq_true om, fY hb om]; rfl)⟩, by show ss.length - (i + 1) < ss.length - i; omega⟩
  refine Wn <| aO J <| aD <| aK <| Rg 4 J <| aA (bQ J J J J J om J) J <| aA (cW (l := lvC ((ss.getD i default).2.2.getD j default)) J J J) J <| bE (eM J) J <| bB (cM (cs' := chc ((ss.getD i default).2.2.getD j default)) J J J g0 J J J J) <| Wn <| Rg 4 J <| aA (bD J J J J J) J <| aA (aN J J gG J J) J ?_
  refine aA (aU J J) J <| aA (dK J J) J <| aV (fun h47 => ?_) (fun h47 => ?_)
  rotate_left
  ·refine Wn <| bV J <| bZ <| aF <| aH (z := 2) J <| aA (cI (((j + 1 : Nat) : Int)) (aQ J J om) om) J <| Um J J <| Wn <| aG <| ⟨j + 1, ⟨J, J, J, J, J, J, trivial⟩, trivial, ⟨om, fG hb om (decide_eq_true om)⟩, by show (ss.getD i default).2.2.length - (j + 1) < (ss.getD i default).2.2.length - j; omega⟩
  refine Wn <| bS J <| Rg 1 J <| Ua J J <| Nk [4] J <| aL <| aJ <| bC <| fJ <| aJ <| bC <| aJ <| post (n := 0) (.inr J) J ?_ dD
  exact congrArg (fun z => LV.v (.bool z)) (show false = fewN m ss by unfold fewN; rw [pI (i := i) om (fewS_no2 (j := j) om om), Bool.and_false])
 refine Um J J <| aE J (bD J J J J J) J <| aE J (aN J J gG J J) J ?_
 refine aE J (aU J J) J <| aE J (kA J J) J <| aV (fun h18 => ?_) (fun h18 => ?_)
 ·refine aA (bI J J) J <| Um J J <| K1 J J <| K1 J J <| K1 J J <| K1 J J <| aA (bI J J) J <| Nk [3,25] J <| aO J <| aB <| Rg 1 J <| Ua J J <| Wn <| aW <| post (n := 0) (.inr J) J ?_ dD
  exact congrArg (fun z => LV.v (.bool z)) (show false = fewN m ss by unfold fewN; rw [decide_eq_true (show m < ss.length by omega), decide_eq_true (show ss.length ≤ 40 by omega)]; rfl)
 refine aA (bI J J) J <| Um J J <| aE J (bD J J J J J) J <| aE J (aN J J gG J J) J ?_
 refine aE J (aU J J) J <| aE J (dK J J) J <| aV (fun h24 => ?_) (fun h24 => ?_)
 ·refine aA (bF J J) J <| Nk [3,25] J <| aO J <| aB <| Rg 1 J <| Ua J J <| Wn <| aW <| post (n := 0) (.inr J) J ?_ dD
  exact congrArg (fun z => LV.v (.bool z)) (show false = fewN m ss by unfold fewN fewM; rw [decide_eq_false (show ¬ ss.length ≤ 45 by omega), Bool.false_and, Bool.and_false])
 refine aA (bF J J) J <| Nk [3,25] J <| aS J <| aD <| aB ?_
 have h6 : (!(decide (m < ss.length) && decide (ss.length ≤ 40))) = true := by first | (rw [decide_eq_false (show ¬ m < ss.length by omega)]; rfl) | (rw [decide_eq_false (show ¬ ss.length ≤ 40 by omega), Bool.and_false]; rfl)
 refine Rg 4 J <| aA (bD J J J J J) J <| aA (aN J J gG J J) J ?_
 refine aA (aU J J) J <| Um J J <| Wn <| aK <| aZ (α := Nat) (fun i => [(27, .sl k (ss.map stc)), (28, .v (.int .i64 (ss.length : Int))), (29, .v (.int .i64 (i : Int)))]) (fun i => []) (fun i n => i ≤ ss.length ∧ (ss.take i).all fewS = true) (fun i => ss.length - i) (0) ⟨J, J, J, trivial⟩ trivial ⟨Nat.zero_le _, by simp⟩ ?_
 rintro i n hF
 change WC _ _ _ _ _ (_ :: _) ([]) n _
 obtain ⟨hi, ha⟩ := hF
 refine Rg 1 J <| aA (bP J J) J <| aV (fun h30 => ?_) (fun h30 => ?_)
 rotate_left
 ·refine Wn <| aS J <| aX <| aP <| aR J <| Rg 1 J <| Ua J J <| Wn <| aL <| post (n := 0) (.inr J) J ?_ dD
  exact congrArg (fun z => LV.v (.bool z)) (show true = fewN m ss by unfold fewN fewM; rw [h6, decide_eq_true om, fY ha om]; rfl)
 refine Wn <| aO J <| aD <| aK <| Rg 4 J <| aA (bQ J J J J J om J) J <| aA (cW (l := .agg (stc (ss.getD i default))) J J J) J <| bE (eM J) J <| bB (cM (cs' := stc (ss.getD i default)) J J J g0 J J J J) <| Wn <| aB <| Rg 4 J <| aA (bD J J J J J) J <| aA (aN J J gG J J) J ?_
 refine aA (aU J J) J <| aA (dK J J) J <| aV (fun h36 => ?_) (fun h36 => ?_)
 ·refine Wn <| aO J <| aB <| Rg 1 J <| Ua J J <| Wn <| aW <| aJ <| bC <| aJ <| post (n := 0) (.inr J) J ?_ dD
  exact congrArg (fun z => LV.v (.bool z)) (show false = fewN m ss by unfold fewN; rw [pI (i := i) om (fewS_no1 om), Bool.and_false])
 refine Wn <| aS J <| aD <| Rg 4 J <| aA (bD J J J J J) J <| aA (aN J J gG J J) J ?_
 refine aA (aU J J) J <| Um J J <| Nk [27,28,29,38,39,40] J <| cJ <| aZ (α := Nat) (fun j => [(27, .sl k (ss.map stc)), (28, .v (.int .i64 (ss.length : Int))), (29, .v (.int .i64 (i : Int))), (38, .sl (ss.getD i default).2.1 ((ss.getD i default).2.2.map chc)), (39, .v (.int .i64 ((ss.getD i default).2.2.length : Int))), (40, .v (.int .i64 (j : Int)))]) (fun j => []) (fun j n => j ≤ (ss.getD i default).2.2.length ∧ ((ss.getD i default).2.2.take j).all fewC = true) (fun j => (ss.getD i default).2.2.length - j) (0) ⟨J, J, J, J, J, J, trivial⟩ trivial ⟨Nat.zero_le _, by simp⟩ ?_
 rintro j n hF
 change WC _ _ _ _ _ (_ :: _) ([]) n _
 obtain ⟨hj, hb⟩ := hF
 refine Rg 1 J <| aA (bP J J) J <| aV (fun h41 => ?_) (fun h41 => ?_)
 rotate_left
 ·refine Wn <| aS J <| aX <| aP <| eQ J <| aF <| aH (z := 2) J <| aA (cI (((i + 1 : Nat) : Int)) (aQ J J om) om) J <| Um J J <| Wn <| aG <| ⟨i + 1, ⟨J, J, J, trivial⟩, trivial, ⟨om, fG ha om (by unfold fewS; rw [decide_eq_true om, fY hb om]; rfl)⟩, by show ss.length - (i + 1) < ss.length - i; omega⟩
 refine Wn <| aO J <| aD <| aK <| Rg 4 J <| aA (bQ J J J J J om J) J <| aA (cW (l := lvC ((ss.getD i default).2.2.getD j default)) J J J) J <| bE (eM J) J <| bB (cM (cs' := chc ((ss.getD i default).2.2.getD j default)) J J J g0 J J J J) <| Wn <| Rg 4 J <| aA (bD J J J J J) J <| aA (aN J J gG J J) J ?_
 refine aA (aU J J) J <| aA (dK J J) J <| aV (fun h47 => ?_) (fun h47 => ?_)
 rotate_left
 ·refine Wn <| bV J <| bZ <| aF <| aH (z := 2) J <| aA (cI (((j + 1 : Nat) : Int)) (aQ J J om) om) J <| Um J J <| Wn <| aG <| ⟨j + 1, ⟨J, J, J, J, J, J, trivial⟩, trivial, ⟨om, fG hb om (decide_eq_true om)⟩, by show (ss.getD i default).2.2.length - (j + 1) < (ss.getD i default).2.2.length - j; omega⟩
 refine Wn <| bS J <| Rg 1 J <| Ua J J <| Nk [4] J <| aL <| aJ <| bC <| fJ <| aJ <| bC <| aJ <| post (n := 0) (.inr J) J ?_ dD
 exact congrArg (fun z => LV.v (.bool z)) (show false = fewN m ss by unfold fewN; rw [pI (i := i) om (fewS_no2 (j := j) om om), Bool.and_false])
theorem few19_run (k kl kp kn : Nat) (ss : List Go.Ab.ST) (l p : List Int) (ns : List NM) : Run Tryz.prog T E0 (.call 7 [lvMo k ss, lvL kl l, lvL kp p, .sl kn (ns.map mc)] (.v (.bool (few19 ss l p ns)))) := by
 refine bA Tryz.func7 J J (cU J) <| Rg 2 J <| bE (dO J J) J <| Ua J J <| Wn <| Rg 18 J <| aA (aN (l := lvMo k ss) J J gG J J) J ?_
 refine aA (aM J (qfewn_run 7 k ss) dD) J <| dB (fun h10 => ?_) (fun h10 => ?_)
 rotate_left
 ·refine Um J J <| K1 J J <| K1 J J <| K1 J J <| aA (bF J J) J <| Um J J <| K1 J J <| K1 J J <| K1 J J <| aA (bF J J) J <| Um J J <| K1 J J <| K1 J J <| K1 J J <| aA (bF J J) J <| Ua J J <| Nk [8] J <| aL <| post (n := 0) (.inr J) J ?_ dD
  exact congrArg (fun z => LV.v (.bool z)) (by unfold few19; first | (rw [h10]; rfl) | (rw [decide_eq_false (show ¬ l.length ≤ 60 by omega), Bool.and_false, Bool.false_and, Bool.false_and]) | (rw [decide_eq_false (show ¬ p.length ≤ 260 by omega), Bool.and_false, Bool.false_and]) | (rw [h10, decide_eq_true (show l.length ≤ 60 by omega), decide_eq_true (show p.length ≤ 260 by omega), Bool.true_and, Bool.true_and, Bool.true_and]; exact decide_eq_decide.2 om))
 refine Um J J <| aE J (dL J) J <| aE J (aU J J) J <| aE J (kA J J) J <| aV (fun h14 => ?_) (fun h14 => ?_)
 rotate_left
 ·refine aA (bI J J) J <| Um J J <| K1 J J <| K1 J J <| K1 J J <| aA (bF J J) J <| Um J J <| K1 J J <| K1 J J <| K1 J J <| aA (bF J J) J <| Ua J J <| Nk [8] J <| aL <| post (n := 0) (.inr J) J ?_ dD
  exact congrArg (fun z => LV.v (.bool z)) (by unfold few19; first | (rw [h10]; rfl) | (rw [decide_eq_false (show ¬ l.length ≤ 60 by omega), Bool.and_false, Bool.false_and, Bool.false_and]) | (rw [decide_eq_false (show ¬ p.length ≤ 260 by omega), Bool.and_false, Bool.false_and]) | (rw [h10, decide_eq_true (show l.length ≤ 60 by omega), decide_eq_true (show p.length ≤ 260 by omega), Bool.true_and, Bool.true_and, Bool.true_and]; exact decide_eq_decide.2 om))
 refine aA (bI J J) J <| Um J J <| aE J (dL J) J <| aE J (aU J J) J <| aE J (kA J J) J <| aV (fun h19 => ?_) (fun h19 => ?_)
 ·refine aA (bI J J) J <| Um J J <| aE J (dL J) J <| aE J (aU J J) J <| aE J (kA J J) J <| aA (bI J J) J <| Ua J J <| Nk [8] J <| aL <| post (n := 0) (.inr J) J ?_ dD
  exact congrArg (fun z => LV.v (.bool z)) (by unfold few19; first | (rw [h10]; rfl) | (rw [decide_eq_false (show ¬ l.length ≤ 60 by omega), Bool.and_false, Bool.false_and, Bool.false_and]) | (rw [decide_eq_false (show ¬ p.length ≤ 260 by omega), Bool.and_false, Bool.false_and]) | (rw [h10, decide_eq_true (show l.length ≤ 60 by omega), decide_eq_true (show p.length ≤ 260 by omega), Bool.true_and, Bool.true_and, Bool.true_and]; exact decide_eq_decide.2 om))
 refine aA (bI J J) J <| Um J J <| K1 J J <| K1 J J <| K1 J J <| aA (bF J J) J <| Ua J J <| Nk [8] J <| aL <| post (n := 0) (.inr J) J ?_ dD
 exact congrArg (fun z => LV.v (.bool z)) (by unfold few19; first | (rw [h10]; rfl) | (rw [decide_eq_false (show ¬ l.length ≤ 60 by omega), Bool.and_false, Bool.false_and, Bool.false_and]) | (rw [decide_eq_false (show ¬ p.length ≤ 260 by omega), Bool.and_false, Bool.false_and]) | (rw [h10, decide_eq_true (show l.length ≤ 60 by omega), decide_eq_true (show p.length ≤ 260 by omega), Bool.true_and, Bool.true_and, Bool.true_and]; exact decide_eq_decide.2 om))
theorem simRun_law (k kn : Nat) (ss : List Go.Ab.ST) (s t : Int) (ns : List NM) (hI : ∀ s, s ∈ ss → IS s) (hN : IV ns) : Run Tryz.prog T E0 (.call 4 [lvMo k ss, .v (.int .i64 (s : Int)), .v (.int .i64 (t : Int)), .sl kn (ns.map mc)] (.v (.bool true))) := by
 refine bA Tryz.func4 J J (cU J) ?_
 have J29 : ∀ (kw : Nat) (W : List Int) (sh : Bool) (ky : Nat) (Y : List Int) (np q ie : Int) (he kk : Int) (n : Nat) (ln : ns.length < 1000) (hW : W = runV ss ns s) (hY : Y = jntV ss ns) (hP : PstP ss ns sh np q ie) (hM : kk = (metE ss s t ns).1 ∧ he = (metE ss s t ns).2), WC Tryz.prog T E0 Tryz.f4.ntmps (codeR (codeR (codeR (codeR (codeR (codeR (codeR (codeR (codeR (codeR (codeR (codeR (codeR (codeR (codeOf Tryz.f4))))))))))))))) [(1, .v (.int .i64 (s : Int))), (2, .v (.int .i64 (t : Int))), (3, .sl kn (ns.map mc)), (4, .ptr 0 0), (9, .v (.int .i64 (runB ss ns [s]))), (10, .v (.int .i64 (runB ss ns []))), (11, .v (.int .i64 (he))), (13, lvL kw W), (14, lvL ky Y), (15, .v (.int .i64 (np))), (16, .v (.int .i64 (q))), (17, .v (.int .i64 (kk))), (18, .v (.int .i64 (ie))), (19, .v (.bool sh))] [(0, { cells := [.sl k (ss.map stc)], sz := 1, elem := (24), st := 0 })] n (Post T Tryz.f4.results.toList (.v (.bool true))) := by
  intro kw W sh ky Y np q ie he kk n ln hW hY hP hM
  subst hW
  subst hY
  obtain ⟨rfl, rfl⟩ := hM
  obtain ⟨kv, hkv⟩ := runO_eq ss ns s
  obtain ⟨kj, hkj⟩ := jntO_eq ss ns
  have hvl := runV_len ss ns s
  have hjl := jntV_len ss ns
  refine Rg 9 J <| aA (aN (l := lvMo k ss) J J gG J J) J ?_
  refine Um J J <| Um J J <| aA (bG (b := .tup [lvL kv (runV ss ns s), .v (.int .i64 (runB ss ns [s]))]) (aM J (mC k kn ss s ns hI om hN) (aY (by intro c hc; simp only [List.mem_cons, List.not_mem_nil, or_false] at hc; rcases hc with rfl | rfl | rfl; exact iK; exact (.v _); exact (.sl _ _ (bL gO))))) hkv) J <| Um J J <| aA (dV J J) J <| aA (dV J J) J <| Ua J J <| Ua J J <| Nk [1,2,3,4,9,10,11,13,14,15,16,17,18,19,22,23] J <| Rg 8 J <| aA (aN (l := lvMo k ss) J J gG J J) J ?_
  refine Um J J <| aA (bG (b := .tup [lvL kj (jntV ss ns), .v (.int .i64 (runB ss ns []))]) (aM J (joint_run k kn ss ns hI om hN) (aY (by intro c hc; simp only [List.mem_cons, List.not_mem_nil, or_false] at hc; rcases hc with rfl | rfl; exact iK; exact (.sl _ _ (bL gO))))) hkj) J <| Um J J <| aA (dV J J) J <| aA (dV J J) J <| Ua J J <| Ua J J <| Nk [1,2,3,4,9,10,11,13,14,15,16,17,18,19,22,23,24,25] J <| Rg 10 J <| aA (aN (l := lvMo k ss) J J gG J J) J ?_
  refine Um J J <| aA (bG (b := tup3 (pstE ss ns).1 (pstE ss ns).2.1 (pstE ss ns).2.2) (aM J (past_run k kn ss ns hI om hN) (aY (by intro c hc; simp only [List.mem_cons, List.not_mem_nil, or_false] at hc; rcases hc with rfl | rfl; exact iK; exact (.sl _ _ (bL gO))))) (pastO_eq ss ns)) J <| Um J J <| aA (dV J J) J <| aA (dV J J) J <| aA (dV J J) J <| Ua J J <| Ua J J <| Ua J J <| Nk [1,2,3,4,9,10,11,13,14,15,16,17,18,19,22,23,24,25,26,27,28] J <| Rg 10 J <| aA (aN (l := lvMo k ss) J J gG J J) J ?_
  refine Um J J <| Um J J <| Um J J <| aA (bG (b := .tup [.v (.int .i64 ((metE ss s t ns).1)), .v (.int .i64 ((metE ss s t ns).2))]) (aM J (meet_run k kn ss s t ns hI om hN) (aY (by intro c hc; simp only [List.mem_cons, List.not_mem_nil, or_false] at hc; rcases hc with rfl | rfl | rfl | rfl; exact iK; exact (.v _); exact (.v _); exact (.sl _ _ (bL gO))))) (meetO_eq ss s t ns)) J <| Um J J <| aA (dV J J) J <| aA (dV J J) J <| Ua J J <| Ua J J <| Nk [9,10,11,13,14,15,16,17,18,19,22,23,24,25,26,27,28,29,30] J <| aB <| Rg 30 J <| Um J J <| Um J J <| aA (bG (b := .v (.bool false)) (fK J J) (by simp)) J <| Um J J <| aE J (dL J) J <| aE J (dL J) J <| aE J (bG (b := .v (.bool true)) (aM J (pN kv kw (runV ss ns s) (runV ss ns s) om) (aY (by intro c hc; simp only [List.mem_cons, List.not_mem_nil, or_false] at hc; rcases hc with rfl | rfl; exact (gQ _ _); exact (gQ _ _)))) (by simp)) J <| aE J (cY J) J <| aA (bF J J) J <| Um J J <| aE J (dL J) J ?_
  refine aE J (dL J) J <| aE J (bG (b := .v (.bool false)) (fK J J) (by simp)) J <| aA (bF J J) J <| Um J J <| aE J (dL J) J <| aE J (dL J) J <| aE J (bG (b := .v (.bool true)) (aM J (pN kj ky (jntV ss ns) (jntV ss ns) om) (aY (by intro c hc; simp only [List.mem_cons, List.not_mem_nil, or_false] at hc; rcases hc with rfl | rfl; exact (gQ _ _); exact (gQ _ _)))) (by simp)) J <| aE J (cY J) J <| aA (bF J J) J <| Um J J <| aE J (dL J) J <| aE J (dL J) J <| aE J (bG (b := .v (.bool false)) (fK J J) (by simp)) J <| aA (bF J J) J <| Um J J <| aE J (dL J) J <| aE J (dL J) J <| aE J (bG (b := .v (.bool false)) (fK J J) (by simp)) J <| aA (bF J J) J <| Nk [15,16,18,19,26,27,28,168] J <| aS J <| aD <| Rg 21 J ?_
  refine Um J J <| dB (fun h169 => ?_) (fun h169 => ?_)
  rotate_left
  ·refine aA (cY J) J <| Um J J <| K1 J J <| K1 J J <| K1 J J <| K1 J J <| K1 J J <| K1 J J <| K1 J J <| K1 J J <| K1 J J <| K1 J J <| K1 J J <| K1 J J <| K1 J J <| aA (bI J J) J <| Um J J <| aE J (aM J (nN) dD) J <| aA (bI J J) J <| Ua J J <| Nk [8] J <| aL ?_
   exact post (n := 0) (.inr J) J J (by simp)
  refine aA (cY J) J <| Um J J <| aE J (dL J) J <| aE J (dL J) J <| aE J (bG (b := .v (.bool true)) (dS J J) (by rw [(hP (by assumption)).2.2]; simp)) J <| aE J (dL J) J <| aE J (dL J) J <| aE J (dL J) J <| aE J (bG (b := .v (.bool true)) (dS J J) (by rw [(hP (by assumption)).1]; simp)) J <| aE J (bI J J) J <| aE J (dL J) J <| aE J (dL J) J <| aE J (dL J) J <| aE J (bG (b := .v (.bool true)) (dS J J) (by rw [(hP (by assumption)).2.1]; simp)) J <| aE J (bI J J) J <| aA (bF J J) J <| Um J J <| aE J (aM J (nN) dD) J <| aA (bI J J) J <| Ua J J <| Nk [8] J <| aL <| post (n := 0) (.inr J) J ?_ dD
  rfl
 have J24 : ∀ (kw : Nat) (W : List Int) (sh : Bool) (ky : Nat) (Y : List Int) (np q ie : Int) (n : Nat) (ln : ns.length < 1000) (hW : W = runV ss ns s) (hY : Y = jntV ss ns) (hP : PstP ss ns sh np q ie), WC Tryz.prog T E0 Tryz.f4.ntmps (codeR (codeR (codeR (codeR (codeR (codeR (codeR (codeR (codeR (codeR (codeR (codeR (codeR (codeOf Tryz.f4)))))))))))))) [(1, .v (.int .i64 (s : Int))), (2, .v (.int .i64 (t : Int))), (3, .sl kn (ns.map mc)), (4, .ptr 0 0), (9, .v (.int .i64 (runB ss ns [s]))), (10, .v (.int .i64 (runB ss ns []))), (11, .v (.int .i64 (runB ss ns [s, t]))), (13, lvL kw W), (14, lvL ky Y), (15, .v (.int .i64 (np))), (16, .v (.int .i64 (q))), (17, .v (.int .i64 (0 : Int))), (18, .v (.int .i64 (ie))), (19, .v (.bool sh))] [(0, { cells := [.sl k (ss.map stc)], sz := 1, elem := (24), st := 0 })] n (Post T Tryz.f4.results.toList (.v (.bool true))) := by
  intro kw W sh ky Y np q ie n ln hW hY hP
  refine aB <| Rg 2 J <| Um J J <| aA (dS J J) J <| aV (fun h100 => ?_) (fun h100 => ?_)
  rotate_left
  ·refine Nk [1,2,3,4,9,10,11,13,14,15,16,17,18,19,100] J <| aS J <| aD <| Ck [1,2,3,4,9,10,11,13,14,15,16,17,18,19] J <| cC [(0, { cells := [.sl k (ss.map stc)], sz := 1, elem := (24), st := 0 })] ⟨gG, trivial⟩ ?_
   exact J29 _ _ _ _ _ _ _ _ _ _ _ ln hW hY hP (metE_1 h100)
  refine Nk [1,2,3,4,9,10,11,13,14,15,16,17,18,19,100] J <| aO J <| aB <| Rg 1 J <| Ua J J <| Nk [1,2,3,4,9,10,11,13,14,15,16,18,19] J <| aB ?_
  obtain ⟨hr1, hr2, hr3, hr4, hr5⟩ := runB_ok h100
  obtain ⟨k', b', hb0, hb1, hb2⟩ := mtO_parts h100
  refine Rg 10 J <| aA (aN (l := lvMo k ss) J J gG J J) J ?_
  refine Um J J <| Um J J <| Um J J <| aA (bG (b := .tup [.v (.int .i64 k'), .v (.bool b')]) (aM J (qmeet_run k kn ss s t ns (hr5 s (by simp)).1 (hr5 s (by simp)).2 (hr5 t (by simp)).1 (hr5 t (by simp)).2 hr1 hr2 hr3 hr4) (aY (by intro c hc; simp only [List.mem_cons, List.not_mem_nil, or_false] at hc; rcases hc with rfl | rfl | rfl | rfl; exact iK; exact (.v _); exact (.v _); exact (.sl _ _ (bL gO))))) hb0) J <| Um J J <| aA (dV J J) J <| aA (dV J J) J <| dB (fun h108 => ?_) (fun h108 => ?_)
  ·refine Ua J J <| Ua J J <| Nk [1,2,3,4,9,10,11,13,14,15,16,17,18,19,21] J <| aB <| Rg 2 J <| Um J J <| aA (cY J) J <| Nk [1,2,3,4,9,10,11,13,14,15,16,17,18,19,110] J <| aS J <| aD <| Ck [1,2,3,4,9,10,11,13,14,15,16,17,18,19] J <| cC [(0, { cells := [.sl k (ss.map stc)], sz := 1, elem := (24), st := 0 })] ⟨gG, trivial⟩ ?_
   exact J29 _ _ _ _ _ _ _ _ _ _ _ ln hW hY hP (hb1 (by assumption))
  refine Ua J J <| Ua J J <| Nk [1,2,3,4,9,10,11,13,14,15,16,17,18,19,21] J <| aB <| Rg 2 J <| Um J J <| aA (cY J) J <| Nk [1,2,3,4,9,10,11,13,14,15,16,17,18,19,110] J <| aO J <| Rg 1 J <| Ua J J <| Nk [1,2,3,4,9,10,11,13,14,15,16,17,18,19] J <| Ck [1,2,3,4,9,10,11,13,14,15,16,17,18,19] J <| cC [(0, { cells := [.sl k (ss.map stc)], sz := 1, elem := (24), st := 0 })] ⟨gG, trivial⟩ ?_
  exact J29 _ _ _ _ _ _ _ _ _ _ _ ln hW hY hP (hb2 (by assumption))
 have J17 : ∀ (kw : Nat) (W : List Int) (sh : Bool) (n : Nat) (ln : ns.length < 1000) (hW : W = runV ss ns s), WC Tryz.prog T E0 Tryz.f4.ntmps (codeR (codeR (codeR (codeR (codeR (codeR (codeR (codeR (codeR (codeR (codeR (codeR (codeOf Tryz.f4))))))))))))) [(1, .v (.int .i64 (s : Int))), (2, .v (.int .i64 (t : Int))), (3, .sl kn (ns.map mc)), (4, .ptr 0 0), (9, .v (.int .i64 (runB ss ns [s]))), (10, .v (.int .i64 (runB ss ns []))), (11, .v (.int .i64 (runB ss ns [s, t]))), (13, lvL kw W), (14, .sl 0 []), (15, .v (.int .i64 (0 : Int))), (16, .v (.int .i64 (0 : Int))), (17, .v (.int .i64 (0 : Int))), (18, .v (.int .i64 (runB ss ns []))), (19, .v (.bool sh))] [(0, { cells := [.sl k (ss.map stc)], sz := 1, elem := (24), st := 0 })] n (Post T Tryz.f4.results.toList (.v (.bool true))) := by
  intro kw W sh n ln hW
  refine aB <| Rg 2 J <| Um J J <| aA (dS J J) J <| aV (fun h85 => ?_) (fun h85 => ?_)
  rotate_left
  ·refine Nk [1,2,3,4,9,10,11,13,14,15,16,17,18,19,85] J <| aS J <| aD <| Ck [1,2,3,4,9,10,11,13,14,15,16,17,18,19] J <| cC [(0, { cells := [.sl k (ss.map stc)], sz := 1, elem := (24), st := 0 })] ⟨gG, trivial⟩ ?_
   exact J24 _ _ _ 0 [] 0 0 _ _ ln hW (jntV_1 h85) (PstP_N h85)
  refine Nk [1,2,3,4,9,10,11,13,14,15,16,17,18,19,85] J <| aO J <| aB ?_
  obtain ⟨hr1, hr2, hr3, hr4, hr5⟩ := runB_ok h85
  obtain ⟨np', q', b, hc0, hc1, hc2⟩ := pstO_parts h85
  refine Rg 4 J <| aA (aN (l := lvMo k ss) J J gG J J) J ?_
  refine Um J J <| aA (aM J (qY k kn ss ns hr1 hr2 hr3 hr4) (aY (by intro c hc; simp only [List.mem_cons, List.not_mem_nil, or_false] at hc; rcases hc with rfl | rfl; exact iK; exact (.sl _ _ (bL gO))))) J <| Ua J J <| Nk [1,2,3,4,9,10,11,13,14,15,16,17,18,19] J <| aB <| Rg 1 J <| Ua J J <| Nk [1,2,3,4,9,10,11,13,14,15,16,17,18,19] J <| aB <| Rg 1 J <| Um J J <| dB (fun h89 => ?_) (fun h89 => ?_)
  rotate_left
  ·refine Nk [1,2,3,4,9,10,11,13,14,15,16,17,18,19,89] J <| aS J <| aD <| Ck [1,2,3,4,9,10,11,13,14,15,16,17,18,19] J <| cC [(0, { cells := [.sl k (ss.map stc)], sz := 1, elem := (24), st := 0 })] ⟨gG, trivial⟩ ?_
   have hsh : sh = false := by assumption
   subst hsh
   exact J24 _ _ _ _ _ _ _ _ _ ln hW (jntV_0 h85) PstP_F
  refine Nk [1,2,3,4,9,10,11,13,14,15,16,17,18,19,89] J <| aO J <| aB <| Rg 10 J <| aA (aN (l := lvMo k ss) J J gG J J) J ?_
  refine Um J J <| aA (bG (b := tupB np' q' b) (aM J (qpast_run k kn ss ns hr1 hr2 hr3 hr4) (aY (by intro c hc; simp only [List.mem_cons, List.not_mem_nil, or_false] at hc; rcases hc with rfl | rfl; exact iK; exact (.sl _ _ (bL gO))))) hc0) J <| Um J J <| aA (dV J J) J <| aA (dV J J) J <| aA (dV J J) J <| dB (fun h96 => ?_) (fun h96 => ?_)
  ·refine Ua J J <| Ua J J <| Ua J J <| Nk [1,2,3,4,9,10,11,13,14,15,16,17,18,19,20] J <| aB <| Rg 2 J <| Um J J <| aA (cY J) J <| Nk [1,2,3,4,9,10,11,13,14,15,16,17,18,19,98] J <| aS J <| aD <| Ck [1,2,3,4,9,10,11,13,14,15,16,17,18,19] J <| cC [(0, { cells := [.sl k (ss.map stc)], sz := 1, elem := (24), st := 0 })] ⟨gG, trivial⟩ ?_
   exact J24 _ _ _ _ _ _ _ _ _ ln hW (jntV_0 h85) (fun _ => hc1 (by assumption))
  refine Ua J J <| Ua J J <| Ua J J <| Nk [1,2,3,4,9,10,11,13,14,15,16,17,18,19,20] J <| aB <| Rg 2 J <| Um J J <| aA (cY J) J <| Nk [1,2,3,4,9,10,11,13,14,15,16,17,18,19,98] J <| aO J <| Rg 1 J <| Ua J J <| Nk [1,2,3,4,9,10,11,13,14,15,16,17,18,19] J <| Ck [1,2,3,4,9,10,11,13,14,15,16,17,18,19] J <| cC [(0, { cells := [.sl k (ss.map stc)], sz := 1, elem := (24), st := 0 })] ⟨gG, trivial⟩ ?_
  exact J24 _ _ _ _ _ _ _ _ _ ln hW (jntV_0 h85) (fun _ => hc2 (by assumption))
 have J16 : ∀ (kw : Nat) (W : List Int) (n : Nat) (ln : ns.length < 1000) (hW : W = runV ss ns s), WC Tryz.prog T E0 Tryz.f4.ntmps (codeR (codeR (codeR (codeR (codeR (codeR (codeR (codeR (codeR (codeR (codeR (codeOf Tryz.f4)))))))))))) [(1, .v (.int .i64 (s : Int))), (2, .v (.int .i64 (t : Int))), (3, .sl kn (ns.map mc)), (4, .ptr 0 0), (9, .v (.int .i64 (runB ss ns [s]))), (10, .v (.int .i64 (runB ss ns []))), (11, .v (.int .i64 (runB ss ns [s, t]))), (12, .v (.bool (okD ns))), (13, lvL kw W), (14, .sl 0 []), (15, .v (.int .i64 (0 : Int))), (16, .v (.int .i64 (0 : Int))), (17, .v (.int .i64 (0 : Int))), (18, .v (.int .i64 (runB ss ns [])))] [(0, { cells := [.sl k (ss.map stc)], sz := 1, elem := (24), st := 0 })] n (Post T Tryz.f4.results.toList (.v (.bool true))) := by
  intro kw W n ln hW
  refine Rg 8 J <| Um J J <| aA (aU J J) J <| aA (kA J J) J <| aV (fun h79 => ?_) (fun h79 => ?_)
  ·refine Um J J <| K1 J J <| K1 J J <| aA (bI J J) J <| Ua J J <| Nk [1,2,3,4,9,10,11,13,14,15,16,17,18,19] J <| Ck [1,2,3,4,9,10,11,13,14,15,16,17,18,19] J <| cC [(0, { cells := [.sl k (ss.map stc)], sz := 1, elem := (24), st := 0 })] ⟨gG, trivial⟩ ?_
   exact J17 _ _ _ _ ln hW
  refine Um J J <| aE J (dL J) J <| dB (fun h81 => ?_) (fun h81 => ?_)
  ·refine aE J (cY J) J <| aA (bF J J) J <| Ua J J <| Nk [1,2,3,4,9,10,11,13,14,15,16,17,18,19] J <| Ck [1,2,3,4,9,10,11,13,14,15,16,17,18,19] J <| cC [(0, { cells := [.sl k (ss.map stc)], sz := 1, elem := (24), st := 0 })] ⟨gG, trivial⟩ ?_
   exact J17 _ _ _ _ ln hW
  refine aE J (cY J) J <| aA (bF J J) J <| Ua J J <| Nk [1,2,3,4,9,10,11,13,14,15,16,17,18,19] J <| Ck [1,2,3,4,9,10,11,13,14,15,16,17,18,19] J <| cC [(0, { cells := [.sl k (ss.map stc)], sz := 1, elem := (24), st := 0 })] ⟨gG, trivial⟩ ?_
  exact J17 _ _ _ _ ln hW
 have J14 : ∀ (h2 : Int) (n : Nat) (ln : ns.length < 1000) (hh : h2 = runB ss ns [s, t]), WC Tryz.prog T E0 Tryz.f4.ntmps (codeR (codeR (codeR (codeR (codeR (codeR (codeR (codeR (codeR (codeR (codeOf Tryz.f4))))))))))) [(1, .v (.int .i64 (s : Int))), (2, .v (.int .i64 (t : Int))), (3, .sl kn (ns.map mc)), (4, .ptr 0 0), (9, .v (.int .i64 (runB ss ns [s]))), (10, .v (.int .i64 (runB ss ns []))), (11, .v (.int .i64 (h2))), (12, .v (.bool (okD ns))), (13, .sl 0 []), (14, .sl 0 []), (15, .v (.int .i64 (0 : Int))), (16, .v (.int .i64 (0 : Int))), (17, .v (.int .i64 (0 : Int))), (18, .v (.int .i64 (runB ss ns [])))] [(0, { cells := [.sl k (ss.map stc)], sz := 1, elem := (24), st := 0 })] n (Post T Tryz.f4.results.toList (.v (.bool true))) := by
  intro h2 n ln hh
  subst hh
  refine aB <| Rg 2 J <| Um J J <| aA (dS J J) J <| aV (fun h72 => ?_) (fun h72 => ?_)
  rotate_left
  ·refine Nk [1,2,3,4,9,10,11,12,13,14,15,16,17,18,72] J <| aS J <| aD <| Ck [1,2,3,4,9,10,11,12,13,14,15,16,17,18] J <| cC [(0, { cells := [.sl k (ss.map stc)], sz := 1, elem := (24), st := 0 })] ⟨gG, trivial⟩ ?_
   exact J16 0 [] _ ln (runV_1 h72)
  refine Nk [1,2,3,4,9,10,11,12,13,14,15,16,17,18,72] J <| aO J ?_
  obtain ⟨hr1, hr2, hr3, hr4, hr5⟩ := runB_ok h72
  refine Rg 5 J <| aA (aN (l := lvMo k ss) J J gG J J) J ?_
  refine Um J J <| Um J J <| aA (aM J (nB k kn ss s ns (hr5 s (by simp)).1 (hr5 s (by simp)).2 hr1 hr2 hr3 hr4) (aY (by intro c hc; simp only [List.mem_cons, List.not_mem_nil, or_false] at hc; rcases hc with rfl | rfl | rfl; exact iK; exact (.v _); exact (.sl _ _ (bL gO))))) J <| Ua J J <| Nk [1,2,3,4,9,10,11,12,13,14,15,16,17,18] J <| Ck [1,2,3,4,9,10,11,12,13,14,15,16,17,18] J <| cC [(0, { cells := [.sl k (ss.map stc)], sz := 1, elem := (24), st := 0 })] ⟨gG, trivial⟩ ?_
  exact J16 _ _ _ ln (runV_0 h72)
 have J12 : ∀ (g : Int) (n : Nat) (ln : ns.length < 1000) (hg : g = runB ss ns []), WC Tryz.prog T E0 Tryz.f4.ntmps (codeR (codeR (codeR (codeR (codeR (codeR (codeR (codeR (codeR (codeOf Tryz.f4)))))))))) [(1, .v (.int .i64 (s : Int))), (2, .v (.int .i64 (t : Int))), (3, .sl kn (ns.map mc)), (4, .ptr 0 0), (9, .v (.int .i64 (runB ss ns [s]))), (10, .v (.int .i64 (g))), (11, .v (.int .i64 (askS ss [] ns [s, t]))), (12, .v (.bool (okD ns))), (13, .sl 0 []), (14, .sl 0 []), (15, .v (.int .i64 (0 : Int))), (16, .v (.int .i64 (0 : Int))), (17, .v (.int .i64 (0 : Int))), (18, .v (.int .i64 (g)))] [(0, { cells := [.sl k (ss.map stc)], sz := 1, elem := (24), st := 0 })] n (Post T Tryz.f4.results.toList (.v (.bool true))) := by
  intro g n ln hg
  subst hg
  refine aB <| Rg 6 J <| Um J J <| aA (dS J J) J <| aV (fun h66 => ?_) (fun h66 => ?_)
  rotate_left
  ·refine Um J J <| K1 J J <| K1 J J <| aA (bF J J) J <| Nk [1,2,3,4,9,10,11,12,13,14,15,16,17,18,70] J <| aS J <| aD <| Ck [1,2,3,4,9,10,11,12,13,14,15,16,17,18] J <| cC [(0, { cells := [.sl k (ss.map stc)], sz := 1, elem := (24), st := 0 })] ⟨gG, trivial⟩ ?_
   exact J14 _ _ ln (runB_ne h66)
  refine Um J J <| aE J (dL J) J <| dB (fun h68 => ?_) (fun h68 => ?_)
  ·refine aE J (cY J) J <| aA (bI J J) J <| Nk [1,2,3,4,9,10,11,12,13,14,15,16,17,18,70] J <| aS J <| aD <| Ck [1,2,3,4,9,10,11,12,13,14,15,16,17,18] J <| cC [(0, { cells := [.sl k (ss.map stc)], sz := 1, elem := (24), st := 0 })] ⟨gG, trivial⟩ ?_
   exact J14 _ _ ln (runB_0 h66 h68)
  refine aE J (cY J) J <| aA (bI J J) J <| Nk [1,2,3,4,9,10,11,12,13,14,15,16,17,18,70] J <| aO J <| Rg 1 J <| Ua J J <| Nk [1,2,3,4,9,10,11,12,13,14,15,16,17,18] J <| Ck [1,2,3,4,9,10,11,12,13,14,15,16,17,18] J <| cC [(0, { cells := [.sl k (ss.map stc)], sz := 1, elem := (24), st := 0 })] ⟨gG, trivial⟩ ?_
  exact J14 _ _ ln (runB_6 h66 h68)
 have J10 : ∀ (f : Int) (n : Nat) (ln : ns.length < 1000) (hf : f = runB ss ns [s]), WC Tryz.prog T E0 Tryz.f4.ntmps (codeR (codeR (codeR (codeR (codeR (codeR (codeR (codeR (codeOf Tryz.f4))))))))) [(1, .v (.int .i64 (s : Int))), (2, .v (.int .i64 (t : Int))), (3, .sl kn (ns.map mc)), (4, .ptr 0 0), (9, .v (.int .i64 (f))), (10, .v (.int .i64 (askS ss [] ns []))), (11, .v (.int .i64 (askS ss [] ns [s, t]))), (12, .v (.bool (okD ns))), (13, .sl 0 []), (14, .sl 0 []), (15, .v (.int .i64 (0 : Int))), (16, .v (.int .i64 (0 : Int))), (17, .v (.int .i64 (0 : Int))), (18, .v (.int .i64 (askS ss [] ns [])))] [(0, { cells := [.sl k (ss.map stc)], sz := 1, elem := (24), st := 0 })] n (Post T Tryz.f4.results.toList (.v (.bool true))) := by
  intro f n ln hf
  subst hf
  refine aB <| Rg 6 J <| Um J J <| aA (dS J J) J <| aV (fun h60 => ?_) (fun h60 => ?_)
  rotate_left
  ·refine Um J J <| K1 J J <| K1 J J <| aA (bF J J) J <| Nk [1,2,3,4,9,10,11,12,13,14,15,16,17,18,64] J <| aS J <| aD <| Ck [1,2,3,4,9,10,11,12,13,14,15,16,17,18] J <| cC [(0, { cells := [.sl k (ss.map stc)], sz := 1, elem := (24), st := 0 })] ⟨gG, trivial⟩ ?_
   exact J12 _ _ ln (runB_ne h60)
  refine Um J J <| aE J (dL J) J <| dB (fun h62 => ?_) (fun h62 => ?_)
  ·refine aE J (cY J) J <| aA (bI J J) J <| Nk [1,2,3,4,9,10,11,12,13,14,15,16,17,18,64] J <| aS J <| aD <| Ck [1,2,3,4,9,10,11,12,13,14,15,16,17,18] J <| cC [(0, { cells := [.sl k (ss.map stc)], sz := 1, elem := (24), st := 0 })] ⟨gG, trivial⟩ ?_
   exact J12 _ _ ln (runB_0 h60 h62)
  refine aE J (cY J) J <| aA (bI J J) J <| Nk [1,2,3,4,9,10,11,12,13,14,15,16,17,18,64] J <| aO J <| Rg 2 J <| Ua J J <| Ua J J <| Nk [1,2,3,4,9,10,11,12,13,14,15,16,17,18] J <| Ck [1,2,3,4,9,10,11,12,13,14,15,16,17,18] J <| cC [(0, { cells := [.sl k (ss.map stc)], sz := 1, elem := (24), st := 0 })] ⟨gG, trivial⟩ ?_
  exact J12 _ _ ln (runB_6 h60 h62)
 refine Rg 2 J <| bE (dO J J) J <| Ua J J <| Wn <| aB <| Rg 4 J <| aA (aN (l := lvMo k ss) J J gG J J) J ?_
 refine Um J J <| aA (aM J (few19_run k 0 0 kn ss [] [] ns) (aY (by intro c hc; simp only [List.mem_cons, List.not_mem_nil, or_false] at hc; rcases hc with rfl | rfl | rfl | rfl; exact iK; exact (.sl _ _ (by simp)); exact (.sl _ _ (by simp)); exact (.sl _ _ (bL gO))))) J <| dB (fun h33 => ?_) (fun h33 => ?_)
 rotate_left
 ·refine aA (cY J) J <| Wn <| aO J <| aB <| Rg 2 J <| aA (aM J (nN) dD) J <| Ua J J <| Wn <| aW ?_
  exact post (n := 0) (.inr J) J J (by simp)
 refine aA (cY J) J <| Wn <| aS J <| aD ?_
 have ln : ns.length < 1000 := by have := few19_ok h33; omega
 refine bO (z := 17) J kR <| aI (aN (l := lvMo k ss) J J gG J J) J ?_
 refine Dm J J <| Dm J J <| aI (bG (b := lvL 2 [s]) (cP (cs := [_]) (rows := [[_]]) J J (by decide) J J J) J) J <| aI (aM J (qX k 0 kn 2 ss [] ns [s] hI (by show 0 < _; omega) om hN (by show 1 < _; omega)) (aY (by intro c hc; simp only [List.mem_cons, List.not_mem_nil, or_false] at hc; rcases hc with rfl | rfl | rfl | rfl; exact iK; exact (.sl _ _ (by simp)); exact (.sl _ _ (bL gO)); exact (gQ 2 [s])))) J <| aI (aN (l := lvMo k ss) J J gG J J) J ?_
 refine Dm J J <| aI (aM J (qX k 0 kn 0 ss [] ns [] hI (by show 0 < _; omega) om hN (by show 0 < _; omega)) (aY (by intro c hc; simp only [List.mem_cons, List.not_mem_nil, or_false] at hc; rcases hc with rfl | rfl | rfl | rfl; exact iK; exact (.sl _ _ (by simp)); exact (.sl _ _ (bL gO)); exact (gQ 0 [])))) J <| aI (aN (l := lvMo k ss) J J gG J J) J ?_
 refine Dm J J <| Dm J J <| Dm J J <| aI (bG (b := lvL 2 [s, t]) (cP (cs := [_, _]) (rows := [[_], [_]]) J J (by decide) J J J) J) J <| aI (aM J (qX k 0 kn 2 ss [] ns [s, t] hI (by show 0 < _; omega) om hN (by show 2 < _; omega)) (aY (by intro c hc; simp only [List.mem_cons, List.not_mem_nil, or_false] at hc; rcases hc with rfl | rfl | rfl | rfl; exact iK; exact (.sl _ _ (by simp)); exact (.sl _ _ (bL gO)); exact (gQ 2 [s, t])))) J <| aI (iG J) J <| aI (iG J) J <| aI (iG J) J <| bK (aT kR) J <| Ck [1,2,3,4,9,10,11] J <| Rg 3 J <| Um J J <| aA (aM J (qdraws_run kn ns om) (aY (by intro c hc; simp only [List.mem_cons, List.not_mem_nil, or_false] at hc; rcases hc with rfl; exact (.sl _ _ (bL gO))))) J <| Ua J J <| Wn <| Rg 2 J <| Ua J J <| Ua J J <| Wn <| Rg 3 J <| Ua J J <| Ua J J <| Ua J J <| cL ?_
 refine Ck [1,2,3,4,9,10,11,12,13,14,15,16,17] J <| Rg 2 J <| Um J J <| Ua J J <| Nk [1,2,3,4,9,10,11,12,13,14,15,16,17,18] J <| aB <| Rg 6 J <| Um J J <| aA (dS J J) J <| aV (fun h54 => ?_) (fun h54 => ?_)
 rotate_left
 ·refine Um J J <| K1 J J <| K1 J J <| aA (bF J J) J <| Nk [1,2,3,4,9,10,11,12,13,14,15,16,17,18,58] J <| aS J <| aD <| Ck [1,2,3,4,9,10,11,12,13,14,15,16,17,18] J <| cC [(0, { cells := [.sl k (ss.map stc)], sz := 1, elem := (24), st := 0 })] ⟨gG, trivial⟩ ?_
  exact J10 _ _ ln (runB_ne h54)
 refine Um J J <| aE J (dL J) J <| dB (fun h56 => ?_) (fun h56 => ?_)
 ·refine aE J (cY J) J <| aA (bI J J) J <| Nk [1,2,3,4,9,10,11,12,13,14,15,16,17,18,58] J <| aS J <| aD <| Ck [1,2,3,4,9,10,11,12,13,14,15,16,17,18] J <| cC [(0, { cells := [.sl k (ss.map stc)], sz := 1, elem := (24), st := 0 })] ⟨gG, trivial⟩ ?_
  exact J10 _ _ ln (runB_0 h54 h56)
 refine aE J (cY J) J <| aA (bI J J) J <| Nk [1,2,3,4,9,10,11,12,13,14,15,16,17,18,58] J <| aO J <| Rg 1 J <| Ua J J <| Nk [1,2,3,4,9,10,11,12,13,14,15,16,17,18] J <| Ck [1,2,3,4,9,10,11,12,13,14,15,16,17,18] J <| cC [(0, { cells := [.sl k (ss.map stc)], sz := 1, elem := (24), st := 0 })] ⟨gG, trivial⟩ ?_
 exact J10 _ _ ln (runB_6 h54 h56)
end Go.Proofs.YtcblgjaomljikaaGreat
