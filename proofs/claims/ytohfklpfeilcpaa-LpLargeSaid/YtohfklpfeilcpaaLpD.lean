/- Part D of the proof of lpLarge_holds: what it rests on. No condition. -/
import Derived.Test.YtohfklpfeilcpaaLpC
set_option linter.unusedVariables false
set_option linter.unusedSimpArgs false
set_option maxRecDepth 100000
set_option maxHeartbeats 4000000
namespace Go.Proofs.Ytohfklpfeilcpaa
open Go.Ab Go.RowKit
theorem idx1_run (k : Nat) (ns : List NM) (g : FuncId) (cap : List LV) (p : NM → Bool) (hcap : ∀ c, c ∈ cap → Go.Ab.Data c) (ln : ns.length < 4611686018427387904) (hp : ∀ a, a ∈ ns → Run Try.prog T E0 (.call g ([lvM a] ++ cap) (.v (.bool (p a))))) : Run Try.prog T E0 (.call 72 [.sl k (ns.map mc), .fn (.func g) [] cap] (.v (.int .i64 (fidx p ns)))) := by
 refine bM Try.func72 J J (dK J) <| Rg 1 J <| Ua J J <| Wn <| aB <| Rg 3 J <| Um J J <| aA (bO J J) J <| Um J J <| Wn <| aI <| bI (α := Nat) (fun i => [(0, .sl k (ns.map mc)), (1, .fn (.func g) [] cap), (7, .v (.int .i64 (ns.length : Int))), (8, .v (.int .i64 (i : Int)))]) (fun i => []) (fun i n => i ≤ ns.length ∧ (ns.take i).any p = false) (fun i => ns.length - i) (0) ⟨J, J, J, J, trivial⟩ trivial ⟨Nat.zero_le _, by simp⟩ ?_
 rintro i n hF
 change WC _ _ _ _ _ (_ :: _) ([]) n _
 obtain ⟨hi, ha⟩ := hF
 refine Rg 1 J <| aA (bX J J) J <| bL (fun h9 => ?_) (fun h9 => ?_)
 rotate_left
 ·refine Wn <| bC J <| bB <| aW <| aQ J <| Rg 1 J <| Ua J J <| Wn <| aP <| post (n := 0) (.inr J) J ?_ (by first | (simp [-cB]; done) | simp)
  exact congrArg (fun z => LV.v (.int .i64 z)) (pJ ha om).symm
 refine Wn <| bF J <| aG <| aI <| Rg 2 J <| Um J J <| Ua J J <| Wn <| Rg 6 J <| Um J J <| Um J J <| Um J J <| aA (cZ J J J J J om J) J <| aA (gC (l := .agg [_, _]) J J J) J <| aA (qV J J (hp _ (bN om)) (aK (by simpa [-cB] using hcap))) J <| fN (fun h16 => ?_) (fun h16 => ?_)
 rotate_left
 ·refine Wn <| cD J <| cE <| aE <| aL (z := 2) J <| aA (cI (((i + 1 : Nat) : Int)) (aU J J om) om) J <| Um J J <| Wn <| aF <| ⟨i + 1, ⟨J, J, J, J, trivial⟩, trivial, ⟨om, take_any ha om h16⟩, by show ns.length - (i + 1) < ns.length - i; omega⟩
 refine Wn <| cU J <| Rg 2 J <| Um J J <| Ua J J <| Nk [4] J <| aP <| bH <| gH <| bH <| post (n := 0) (.inr J) J ?_ (by first | (simp [-cB]; done) | simp)
 exact congrArg (fun z => LV.v (.int .i64 z)) (fidx_hit ha om h16).symm
theorem con1_run (k : Nat) (ns : List NM) (g : FuncId) (cap : List LV) (p : NM → Bool) (hcap : ∀ c, c ∈ cap → Go.Ab.Data c) (ln : ns.length < 4611686018427387904) (hp : ∀ a, a ∈ ns → Run Try.prog T E0 (.call g ([lvM a] ++ cap) (.v (.bool (p a))))) : Run Try.prog T E0 (.call 45 [.sl k (ns.map mc), .fn (.func g) [] cap] (.v (.bool (ns.any p)))) := by
 refine bM Try.func45 J J (dK J) <| Rg 1 J <| Ua J J <| Wn <| Rg 5 J <| Um J J <| Um J J <| aA (aJ J (idx1_run k ns g cap p hcap ln hp) (by simpa [-cB] using hcap)) J <| aA (iT J J) J <| Ua J J <| Wn <| aP <| post (n := 0) (.inr J) J ?_ (by first | (simp [-cB]; done) | simp)
 exact congrArg (fun z => LV.v (.bool z)) (mZ p ns)
theorem not1_run (a : NM) (g : FuncId) (cap : List LV) (b : Bool) (hcap : ∀ c, c ∈ cap → Go.Ab.Data c) (hg : Run Try.prog T E0 (.call g ([lvM a] ++ cap) (.v (.bool b)))) : Run Try.prog T E0 (.call 77 [lvM a, .ro [.fn (.func g) [] cap]] (.v (.bool (!b)))) := by
 refine bM Try.func77 J J (dK J) <| Rg 2 J <| bK (gF J J) J <| Ua J J <| Wn <| Rg 5 J <| aA (gC (cs := [.fn (.func g) [] cap]) (l := .fn (.func g) [] cap) J J J) J <| aA (aH (l := .agg [_, _]) J J J J J) J <| aA (qV J J hg (aK (by simpa [-cB] using hcap))) J <| aA (fA J) J <| Ua J J <| Wn <| aP ?_
 exact post (n := 0) (.inr J) J J (by simp)
theorem all1_run (k : Nat) (ns : List NM) (g : FuncId) (cap : List LV) (p : NM → Bool) (hcap : ∀ c, c ∈ cap → Go.Ab.Data c) (ln : ns.length < 4611686018427387904) (hp : ∀ a, a ∈ ns → Run Try.prog T E0 (.call g ([lvM a] ++ cap) (.v (.bool (p a))))) : Run Try.prog T E0 (.call 56 [.sl k (ns.map mc), .fn (.func g) [] cap] (.v (.bool (ns.all p)))) := by
 refine bM Try.func56 J J (dK J) <| Rg 2 J <| bK (gF J J) J <| Ua J J <| Wn <| Rg 5 J <| Um J J <| aA (oMf J) J <| bK (lA [.sl k (ns.map mc), .fn (.func 77) [] [.ro [.fn (.func g) [] cap]]] [(0, { cells := [.fn (.func g) [] cap], sz := 1, elem := 70, st := 1 })] J (con1_run k ns 77 [.ro [.fn (.func g) [] cap]] (fun a => !p a) (by simpa [-cB] using hcap) ln (fun a ha => not1_run a g cap (p a) hcap (hp a ha))) (.data (by simp [-cB]) (.fnp g0 (by show (0 : Nat) ≠ 2; decide) (by simp [keys]) (fun c hc => by have hc' := List.mem_singleton.1 hc; subst hc'; exact .fn _ _ _ (by simp) hcap) .nil)) (by intro q hq; rw [List.mem_singleton] at hq; subst hq; exact ⟨_, g0, by show (0 : Nat) ≠ 2; decide, rfl⟩)) J <| aA (fA J) J <| Ua J J <| Wn <| aP <| post (n := 0) (.inr J) J ?_ (by first | (simp [-cB]; done) | simp)
 exact congrArg (fun z => LV.v (.bool z)) (nQ p ns)
theorem idx2_run (k : Nat) (ns : List M1) (g : FuncId) (cap : List LV) (p : M1 → Bool) (hcap : ∀ c, c ∈ cap → Go.Ab.Data c) (ln : ns.length < 4611686018427387904) (hp : ∀ a, a ∈ ns → Run Try.prog T E0 (.call g ([.sl a.1 (a.2.map mc)] ++ cap) (.v (.bool (p a))))) : Run Try.prog T E0 (.call 49 [.sl k (ns.map fM), .fn (.func g) [] cap] (.v (.int .i64 (fidx p ns)))) := by
 refine bM Try.func49 J J (dK J) <| Rg 1 J <| Ua J J <| Wn <| aB <| Rg 3 J <| Um J J <| aA (bO J J) J <| Um J J <| Wn <| aI <| bI (α := Nat) (fun i => [(0, .sl k (ns.map fM)), (1, .fn (.func g) [] cap), (7, .v (.int .i64 (ns.length : Int))), (8, .v (.int .i64 (i : Int)))]) (fun i => []) (fun i n => i ≤ ns.length ∧ (ns.take i).any p = false) (fun i => ns.length - i) (0) ⟨J, J, J, J, trivial⟩ trivial ⟨Nat.zero_le _, by simp⟩ ?_
 rintro i n hF
 change WC _ _ _ _ _ (_ :: _) ([]) n _
 obtain ⟨hi, ha⟩ := hF
 refine Rg 1 J <| aA (bX J J) J <| bL (fun h9 => ?_) (fun h9 => ?_)
 rotate_left
 ·refine Wn <| bC J <| bB <| aW <| aQ J <| Rg 1 J <| Ua J J <| Wn <| aP <| post (n := 0) (.inr J) J ?_ (by first | (simp [-cB]; done) | simp)
  exact congrArg (fun z => LV.v (.int .i64 z)) (pJ ha om).symm
 refine Wn <| bF J <| aG <| aI <| Rg 2 J <| Um J J <| Ua J J <| Wn <| Rg 6 J <| Um J J <| Um J J <| Um J J <| aA (cZ J J J J J om J) J <| aA (gC J J J) J <| aA (qV J J (hp _ (bN om)) (aK (by simpa [-cB] using hcap))) J <| fN (fun h16 => ?_) (fun h16 => ?_)
 rotate_left
 ·refine Wn <| cD J <| cE <| aE <| aL (z := 2) J <| aA (cI (((i + 1 : Nat) : Int)) (aU J J om) om) J <| Um J J <| Wn <| aF <| ⟨i + 1, ⟨J, J, J, J, trivial⟩, trivial, ⟨om, take_any ha om h16⟩, by show ns.length - (i + 1) < ns.length - i; omega⟩
 refine Wn <| cU J <| Rg 2 J <| Um J J <| Ua J J <| Nk [4] J <| aP <| bH <| gH <| bH <| post (n := 0) (.inr J) J ?_ (by first | (simp [-cB]; done) | simp)
 exact congrArg (fun z => LV.v (.int .i64 z)) (fidx_hit ha om h16).symm
theorem oG (k : Nat) (ns : List M1) (g : FuncId) (cap : List LV) (p : M1 → Bool) (hcap : ∀ c, c ∈ cap → Go.Ab.Data c) (ln : ns.length < 4611686018427387904) (hp : ∀ a, a ∈ ns → Run Try.prog T E0 (.call g ([.sl a.1 (a.2.map mc)] ++ cap) (.v (.bool (p a))))) : Run Try.prog T E0 (.call 25 [.sl k (ns.map fM), .fn (.func g) [] cap] (.v (.bool (ns.any p)))) := by
 refine bM Try.func25 J J (dK J) <| Rg 1 J <| Ua J J <| Wn <| Rg 5 J <| Um J J <| Um J J <| aA (aJ J (idx2_run k ns g cap p hcap ln hp) (by simpa [-cB] using hcap)) J <| aA (iT J J) J <| Ua J J <| Wn <| aP <| post (n := 0) (.inr J) J ?_ (by first | (simp [-cB]; done) | simp)
 exact congrArg (fun z => LV.v (.bool z)) (mZ p ns)
theorem not2_run (a : M1) (g : FuncId) (cap : List LV) (b : Bool) (hcap : ∀ c, c ∈ cap → Go.Ab.Data c) (hg : Run Try.prog T E0 (.call g ([.sl a.1 (a.2.map mc)] ++ cap) (.v (.bool b)))) : Run Try.prog T E0 (.call 76 [.sl a.1 (a.2.map mc), .ro [.fn (.func g) [] cap]] (.v (.bool (!b)))) := by
 refine bM Try.func76 J J (dK J) <| Rg 1 J <| Ua J J <| Wn <| Rg 5 J <| aA (gC (cs := [.fn (.func g) [] cap]) (l := .fn (.func g) [] cap) J J J) J <| Um J J <| aA (qV J J hg (aK (by simpa [-cB] using hcap))) J <| aA (fA J) J <| Ua J J <| Wn <| aP ?_
 exact post (n := 0) (.inr J) J J (by simp)
theorem all2_run (k : Nat) (ns : List M1) (g : FuncId) (cap : List LV) (p : M1 → Bool) (hcap : ∀ c, c ∈ cap → Go.Ab.Data c) (ln : ns.length < 4611686018427387904) (hp : ∀ a, a ∈ ns → Run Try.prog T E0 (.call g ([.sl a.1 (a.2.map mc)] ++ cap) (.v (.bool (p a))))) : Run Try.prog T E0 (.call 54 [.sl k (ns.map fM), .fn (.func g) [] cap] (.v (.bool (ns.all p)))) := by
 refine bM Try.func54 J J (dK J) <| Rg 2 J <| bK (gF J J) J <| Ua J J <| Wn <| Rg 5 J <| Um J J <| aA (oMf J) J <| bK (lA [.sl k (ns.map fM), .fn (.func 76) [] [.ro [.fn (.func g) [] cap]]] [(0, { cells := [.fn (.func g) [] cap], sz := 1, elem := 69, st := 1 })] J (oG k ns 76 [.ro [.fn (.func g) [] cap]] (fun a => !p a) (by simpa [-cB] using hcap) ln (fun a ha => not2_run a g cap (p a) hcap (hp a ha))) (.data (by simp [-cB]) (.fnp g0 (by show (0 : Nat) ≠ 2; decide) (by simp [keys]) (fun c hc => by have hc' := List.mem_singleton.1 hc; subst hc'; exact .fn _ _ _ (by simp) hcap) .nil)) (by intro q hq; rw [List.mem_singleton] at hq; subst hq; exact ⟨_, g0, by show (0 : Nat) ≠ 2; decide, rfl⟩)) J <| aA (fA J) J <| Ua J J <| Wn <| aP <| post (n := 0) (.inr J) J ?_ (by first | (simp [-cB]; done) | simp)
 exact congrArg (fun z => LV.v (.bool z)) (nQ p ns)
theorem vv_run (k : Nat) (ns : List NM) (hI : IV ns) (ln : ns.length < 4611686018427387904) : Run Try.prog T E0 (.call 31 [.sl k (ns.map mc)] (.v (.bool (VV ns)))) := by
 refine bM Try.func31 J J (dK J) <| Rg 1 J <| Ua J J <| Wn <| Rg 8 J <| Um J J <| aA (bO J J) J <| aA (oLeq J J) J <| bL (fun h5 => ?_) (fun h5 => ?_)
 ·refine Um J J <| aM J (dQ J) J <| aM J (aJ J (all1_run k ns 27 [] vn (by simp) ln (fun a ha => kZ a (hI a ha).1 (hI a ha).2)) (by first | (simp [-cB]; done) | simp)) J <| aA (bT J J) J <| Ua J J <| Wn <| aP <| post (n := 0) (.inr J) J ?_ (by first | (simp [-cB]; done) | simp)
  exact congrArg (fun z => LV.v (.bool z)) (show ns.all vn = VV ns by unfold VV; rw [decide_eq_true om, Bool.true_and])
 refine Um J J <| K1 J J <| K1 J J <| aA (bU J J) J <| Ua J J <| Wn <| aP <| post (n := 0) (.inr J) J ?_ (by first | (simp [-cB]; done) | simp)
 exact congrArg (fun z => LV.v (.bool z)) (show false = VV ns by unfold VV; rw [decide_eq_false om, Bool.false_and])
theorem vrow_run (r : M1) (k : Nat) (a : List M1) (hI : IV r.2) (hne : 0 < a.length) (ln : r.2.length < 4611686018427387904) : Run Try.prog T E0 (.call 55 [.sl r.1 (r.2.map mc), .ro [.sl k (a.map fM)]] (.v (.bool (VMr a r)))) := by
 refine bM Try.func55 J J (dK J) <| Rg 1 J <| Ua J J <| Wn <| Rg 12 J <| Um J J <| aA (bO J J) J <| aA (gC (cs := [.sl k (a.map fM)]) J J J) J <| aA (cZ (j := 0) J J J J om om J) J <| aA (gC J J J) J <| aA (bO J J) J <| aA (fS J J) J <| bL (fun h10 => ?_) (fun h10 => ?_)
 ·refine Um J J <| aM J (dQ J) J <| aM J (aJ J (vv_run r.1 r.2 hI ln) (by first | (simp [-cB]; done) | simp)) J <| aA (bT J J) J <| Ua J J <| Wn <| aP <| post (n := 0) (.inr J) J ?_ (by first | (simp [-cB]; done) | simp)
  exact congrArg (fun z => LV.v (.bool z)) (show VV r.2 = VMr a r by unfold VMr; rw [decide_eq_true om, Bool.true_and])
 refine Um J J <| K1 J J <| K1 J J <| aA (bU J J) J <| Ua J J <| Wn <| aP <| post (n := 0) (.inr J) J ?_ (by first | (simp [-cB]; done) | simp)
 exact congrArg (fun z => LV.v (.bool z)) (show false = VMr a r by unfold VMr; rw [decide_eq_false om, Bool.false_and])
theorem mvalid_run (k : Nat) (a : List M1) (hI : IM a) (ln : a.length < 4611686018427387904) (lr : ∀ r, r ∈ a → r.2.length < 4611686018427387904) : Run Try.prog T E0 (.call 30 [.sl k (a.map fM)] (.v (.bool (VM a)))) := by
 refine bM Try.func30 J J (dK J) <| Rg 2 J <| bK (gF J J) J <| Ua J J <| Wn <| Rg 9 J <| aA (aH J J J J J) J <| aA (bO J J) J <| aA (oLeq J J) J <| bL (fun h5 => ?_) (fun h5 => ?_)
 ·refine Um J J <| aM J (aH J J J J J) J <| aM J (oMf J) J <| WO.Sg J (lA [.sl k (a.map fM), .fn (.func 55) [] [.ro [.sl k (a.map fM)]]] [(0, { cells := [.sl k (a.map fM)], sz := 1, elem := 24, st := 1 })] J (all2_run k a 55 [.ro [.sl k (a.map fM)]] (VMr a) (by simp [-cB]) ln (fun r hr => vrow_run r k a (hI r hr) (List.length_pos_of_mem hr) (lr r hr))) (.data (by simp [-cB]) (.fnp g0 (by show (0 : Nat) ≠ 2; decide) (by simp [keys]) (fun c hc => by have hc' := List.mem_singleton.1 hc; subst hc'; exact nL dfM _ _) .nil)) (by intro q hq; rw [List.mem_singleton] at hq; subst hq; exact ⟨_, g0, by show (0 : Nat) ≠ 2; decide, rfl⟩)) J <| aA (bT J J) J <| Ua J J <| Wn <| aP <| post (n := 0) (.inr J) J ?_ (by first | (simp [-cB]; done) | simp)
  exact congrArg (fun z => LV.v (.bool z)) (show a.all (VMr a) = VM a by unfold VM; rw [decide_eq_true om, Bool.true_and])
 refine Um J J <| K1 J J <| K1 J J <| K1 J J <| aA (bU J J) J <| Ua J J <| Wn <| aP <| post (n := 0) (.inr J) J ?_ (by first | (simp [-cB]; done) | simp)
 exact congrArg (fun z => LV.v (.bool z)) (show false = VM a by unfold VM; rw [decide_eq_false om, Bool.false_and])
theorem dO (k : Nat) (ns : List NM) (ln : ns.length < 1099511627776) (hI : IV ns) (h0 : ∀ a, a ∈ ns → a.2 ≠ 0) : Run Try.prog T E0 (.call 10 [.sl k (ns.map mc)] (.sl (kd (ns.map nx).length) ((ns.map nx).map xc))) := by
 refine bM Try.func10 J J (dK J) <| Rg 1 J <| Ua J J <| Wn <| Rg 1 J <| Ua J J <| Wn <| aB <| Rg 3 J <| Um J J <| aA (bO J J) J <| Um J J <| Wn <| aI <| bI (α := Nat × Nat × (List X)) (fun ⟨i, q, ds⟩ => [(3, outV q 4 (ds.map xc)), (6, .sl k (ns.map mc)), (7, .v (.int .i64 (ns.length : Int))), (8, .v (.int .i64 (i : Int)))]) (fun ⟨i, q, ds⟩ => outH q 4 46 (ds.map xc) []) (fun ⟨i, q, ds⟩ n => i ≤ ns.length ∧ ds = (ns.take i).map nx ∧ ds.length = i ∧ q < n) (fun ⟨i, q, ds⟩ => ns.length - i) (0, 0, []) ⟨J, J, J, J, trivial⟩ trivial ⟨Nat.zero_le _, by simp, rfl, om⟩ ?_
 rintro ⟨i, q, ds⟩ n hF
 change WC _ _ _ _ _ (_ :: _) (outH _ _ _ _ _) n _
 obtain ⟨hi, hds, hdl, hq⟩ := hF
 refine Rg 1 J <| aA (bX J J) J <| bL (fun h9 => ?_) (fun h9 => ?_)
 rotate_left
 ·refine Wn <| bC J <| bB <| aW <| aQ J <| Rg 2 J <| Um J J <| Ua J J <| Wn <| aP ?_
  rw [List.take_of_length_le om] at hds
  rw [← hds, ← qX]
  exact postOut (n := 0) (.inr J) J (by decide) (cQ (n := 4) (fun _ => rfl)) (bA kF)
 refine Wn <| bF J <| aG <| aI <| Rg 4 J <| aA (cZ J J J J J om J) J <| aA (gC (l := .agg [_, _]) J J J) J <| bK (gE J) J <| bG (cV (cs' := [_, _]) J J J g0 J J J J) <| dR ?_
 have hm := bN (us := ns) (i := i) om
 refine aL (z := 6) J <| Um J J <| aA (aH (l := .agg [_, _]) J J g0 J J) J <| aA (aJ J (iE (ns.getD i default) (hI _ hm).1 (hI _ hm).2 (h0 _ hm)) (by first | (simp [-cB]; done) | simp)) J <| aA (eV (cs := [_, _, _, _]) (rows := [[_, _, _, _]]) J J (by decide) J J J) J <| lG (outH q 4 46 ((ds).map xc) []) (Hp.le_skip (gA om J) (Hp.le_skip (gA om J) (Hp.le_refl _))) <| qI (te := ti46) (f := xc) (q := q) (us := ds) (u := (nx (ns.getD i default))) J J J J J (fun _ => rfl) (by decide) (by show (2 * (ds.length + 1) + 256) * 64 ≤ _; omega) om J J J <| Ua J J <| Wn <| aE <| aL (z := 2) J <| aA (cI (((i + 1 : Nat) : Int)) (aU J J om) om) J <| Um J J <| Wn <| aF <| ⟨⟨i + 1, _, ds ++ [nx (ns.getD i default)]⟩, ⟨J, J, J, J, trivial⟩, kJ, ⟨om, by rw [iK om, hds], by simp; omega, om⟩, by show ns.length - (i + 1) < ns.length - i; omega⟩
theorem nouts_run (k : Nat) (ns : List X) (ln : ns.length < 1099511627776)  : Run Try.prog T E0 (.call 43 [.sl k (ns.map xc)] (lvOV (ns.mapM (fun x => outN x.1)))) := by
 refine bM Try.func43 J J (dK J) <| Rg 2 J <| Ua J J <| Ua J J <| Wn <| Rg 1 J <| Ua J J <| Wn <| aB <| Rg 3 J <| Um J J <| aA (bO J J) J <| Um J J <| Wn <| aI <| bI (α := Nat × Nat × (List NM)) (fun ⟨i, q, ds⟩ => [(4, outV q 2 (ds.map mc)), (9, .sl k (ns.map xc)), (10, .v (.int .i64 (ns.length : Int))), (11, .v (.int .i64 (i : Int)))]) (fun ⟨i, q, ds⟩ => outH q 2 29 (ds.map mc) []) (fun ⟨i, q, ds⟩ n => i ≤ ns.length ∧ (ns.take i).mapM (fun x => outN x.1) = some ds ∧ ds.length = i ∧ q < n) (fun ⟨i, q, ds⟩ => ns.length - i) (0, 0, []) ⟨J, J, J, J, trivial⟩ trivial ⟨Nat.zero_le _, by simp, rfl, om⟩ ?_
 rintro ⟨i, q, ds⟩ n hF
 change WC _ _ _ _ _ (_ :: _) (outH _ _ _ _ _) n _
 obtain ⟨hi, hds, hdl, hq⟩ := hF
 refine Rg 1 J <| aA (bX J J) J <| bL (fun h12 => ?_) (fun h12 => ?_)
 rotate_left
 ·refine Wn <| bC J <| bB <| aW <| aQ J <| Rg 3 J <| Um J J <| Ua J J <| Ua J J <| Wn <| aP ?_
  rw [List.take_of_length_le om] at hds
  rw [hds]
  exact postOutT (n := 0) (.inr J) J (by decide) (cQ (n := 2) (fun _ => rfl)) (bA gK) (by simp [lvOV, qX])
 refine Wn <| bF J <| aG <| aI <| Rg 4 J <| aA (cZ J J J J J om J) J <| aA (gC (l := .agg [_, _, _, _]) J J J) J <| bK (gE J) J <| bG (cV (cs' := [_, _, _, _]) J J J g0 J J J J) <| Wn <| Rg 8 J <| aA (aH (l := .agg [_, _, _, _]) J J g0 J J) J <| aA (aO (b := .tup [lvM ((outN (ns.getD i default).1).getD (0, 0)), .v (.int .i64 (if (outN (ns.getD i default).1).isSome = true then 0 else 3))]) (aJ J (nout_run (ns.getD i default)) (by first | (simp [-cB]; done) | simp)) (by rw [lvO_eq])) J <| Um J J <| aA (fD J J) J <| aA (fD J J) J <| bK (gE J) J <| bG (cV (cs' := [_, _]) J J J g0 J J J J) <| Ua J J <| Nk [4,7,8,9,10,11] J <| aB <| Rg 2 J <| Um J J ?_
 refine aA (lD J J) J <| bL (fun h21 => ?_) (fun h21 => ?_)
 ·refine Wn <| bF J <| aB ?_
  have hno2 : outN (ns.getD i default).1 = none := by
   cases ho : outN (ns.getD i default).1 with
   | none => rfl
   | some _ => rw [ho] at h21; exact absurd rfl h21
  have hno : ns.mapM (fun x => outN x.1) = none := mapM_no (i := i) om hno2
  refine Rg 3 J <| Um J J <| Ua J J <| Ua J J <| Wn <| bQ <| bH <| gH <| bH <| post (n := 0) (.inr J) J ?_ (by first | (simp [-cB]; done) | simp)
  first | (rw [hno]; rfl) | (rw [hno, hno2]; rfl)
 refine Wn <| bC J <| aG ?_
 obtain ⟨o, ho⟩ : ∃ o, outN (ns.getD i default).1 = some o := by
  cases ho : outN (ns.getD i default).1 with
  | none => rw [ho] at h21; exact absurd (by decide) h21
  | some o => exact ⟨o, rfl⟩
 refine aL (z := 5) J <| Um J J <| aA (aO (b := lvM o) (aH (l := .agg [_, _]) J J g0 J J) (by simp only [ho, Option.getD_some]; rfl)) J <| aA (eV (cs := [_, _]) (rows := [[_, _]]) J J (by decide) J J J) J <| lG (outH q 2 29 ((ds).map mc) []) (Hp.le_skip (gA om J) (Hp.le_skip (gA om J) (Hp.le_skip (gA om J) (Hp.le_skip (gA om J) (Hp.le_refl _))))) <| qI (te := ti29) (f := mc) (q := q) (us := ds) (u := o) J J J J J (fun _ => rfl) (by decide) (by show (2 * (ds.length + 1) + 256) * 16 ≤ _; omega) om J J J <| Ua J J <| Wn <| aE <| aL (z := 2) J <| aA (cI (((i + 1 : Nat) : Int)) (aU J J om) om) J <| Um J J <| Wn <| aF <| ⟨⟨i + 1, _, ds ++ [o]⟩, ⟨J, J, J, J, trivial⟩, kJ, ⟨om, mapM_take hds om ho, by simp; omega, om⟩, by show ns.length - (i + 1) < ns.length - i; omega⟩
end Go.Proofs.Ytohfklpfeilcpaa
set_option maxHeartbeats 8000000
namespace Go.Proofs.Ytohfklpfeilcpaa
open Go.Ab Go.RowKit
theorem rsub_run (x y : X) (hx : Bd 34359738368 x.1) (hy : Bd 34359738368 y.1) : Run Try.prog T E0 (.call 53 [lvX x, lvX y] (lvX (xadd x (xneg y)))) := by
 refine bM Try.func53 J J (dK J) <| Rg 3 J <| bK (gF J J) J <| bK (gF J J) J <| bK (gE J) J <| Wn <| bS (z := 5) J kR <| aC (aH (l := lvX x) J J (by repeat (first | exact g0 | refine g1 (by decide) ?_)) J J) J ?_
 refine aC (aH (l := lvX y) J J (by repeat (first | exact g0 | refine g1 (by decide) ?_)) J J) J ?_
 refine aC (aJ J (lZ y) dD) J <| aC (aJ J (lW x (xneg y) (hx.mono (by decide)) (hy.neg.mono (by decide))) dD) J <| cN (cV (cs' := xc (xadd x (xneg y))) J J J (by repeat (first | exact g0 | refine g1 (by decide) ?_)) J J J J) ?_
 refine bJ (aT kR) J <| aP <| post (n := 0) (.inr J) J ?_ dD
 rfl
theorem lY (x y : X) (hx : Bd 34359738368 x.1) (hy : Bd 34359738368 y.1) : Run Try.prog T E0 (.call 29 [lvX x, lvX y] (.v (.int .i64 (x.1 - y.1).num.sign))) := by
 refine bM Try.func29 J J (dK J) <| Rg 3 J <| bK (gF J J) J <| bK (gF J J) J <| Ua J J <| Wn <| Rg 5 J <| aA (aH (l := lvX x) J J (by repeat (first | exact g0 | refine g1 (by decide) ?_)) J J) J ?_
 refine aA (aH (l := lvX y) J J (by repeat (first | exact g0 | refine g1 (by decide) ?_)) J J) J ?_
 refine aA (aJ J (rsub_run x y hx hy) dD) J <| aA (aO (b := .v (.int .i64 (x.1 - y.1).num.sign)) (aJ J (eP (xadd x (xneg y))) dD) (by rw [show (xadd x (xneg y)).1 = x.1 - y.1 from (Rat.sub_eq_add_neg _ _).symm])) J <| Ua J J <| Wn <| aP <| post (n := 0) (.inr J) J ?_ dD
 rfl
end Go.Proofs.Ytohfklpfeilcpaa
set_option maxHeartbeats 16000000
namespace Go.Proofs.Ytohfklpfeilcpaa
open Go.Ab Go.RowKit
theorem rpl_G (n0 q ql qf : Nat) (H : Hp) (l f : List X) (k β : Nat) (hl : getH H ql = some (obX (46) l)) (hf : getH H qf = some (obX (46) f)) (hne : ql ≠ qf) (hql : ql < n0) (hqf : qf < n0) (hfl : f.length = l.length) (hk : k + 1 < l.length) (hll : l.length ≤ 200000) (h1 : 1 ≤ β) (hβ : β ≤ 1000000000) (hbl : ∀ x, x ∈ l → Bd β x.1) (hbf : ∀ x, x ∈ f → Bd β x.1) : WC Try.prog T E0 Try.f82.ntmps (codeOf Try.f82) (argsEnv 0 [.ptr q 0, .ref ql 4 0 l.length, .ref qf 4 0 f.length, .v (.int .i64 (k : Int))]) (nrm H) n0 (fun x e' h' n' => (x = .normal ∨ x = .ret) ∧ ∃ ls', resE e' T h' Try.f82.results.toList = some ls' ∧ (∃ l' : List X, r1 l' = rplR (r1 l) (r1 f) k ∧ l'.length = l.length ∧ n0 ≤ n' ∧ getH h' ql = some (obX (46) l') ∧ ∀ r o, r < n0 → r ≠ ql → getH H r = some o → getH h' r = some o)) := by
 change WC _ _ _ _ _ [(0, .ptr q 0), (1, .ref ql 4 0 l.length), (2, .ref qf 4 0 f.length), (3, .v (.int .i64 (k : Int)))] _ _ _
 have hgl : getH (nrm H) ql = some { cells := (l.map xc).flatten, sz := 4, elem := (46), st := 0 } := nrm_get.trans hl
 have hgf : getH (nrm H) qf = some { cells := (f.map xc).flatten, sz := 4, elem := (46), st := 0 } := nrm_get.trans hf
 refine Ck [1,2,3] J <| Rg 7 J <| Um J J <| Um J J <| aA (cI (((k + 1 : Nat) : Int)) (aU J J om) om) J <| aA (bV (j := k + 1) J J J J om om J) J <| aA (aO (b := lvX (l.getD (k + 1) default)) (dP (f := xc) (us := l) (j := k + 1) J J hgl (fun _ => rfl) J (by decide) hk J) J) J <| bK (gE J) J <| bG (cV (cs' := xc (l.getD (k + 1) default)) J J J g0 J J J J) <| Nk [1,2,3,8] J <| aB <| Rg 3 J <| aA (aH (l := lvX (l.getD (k + 1) default)) J J g0 J J) J <| aA (aJ J (eP (l.getD (k + 1) default)) dD) J <| aA (fS J J) J <| bL (fun h18 => ?_) (fun h18 => ?_)
 ·refine Nk [1,2,3,8,18] J <| bF J <| bQ <| ⟨.inr J, _, rfl, l, ?_, rfl, om, (by repeat (first | exact g0 | exact nrm_get.trans hl | refine g1 om ?_)), fun r o hr hq h => (by repeat (first | exact g0 | exact nrm_get.trans h | refine g1 om ?_))⟩
  rw [rplR_zero]
  rw [gI]; exact gQ.1 om
 refine Nk [1,2,3,8,18] J <| bC J <| aG <| Rg 6 J <| Um J J <| Um J J <| aA (cI (((k + 1 : Nat) : Int)) (aU J J om) om) J <| aA (aO (b := lvX x0) (iF (cs := [_, _, _, _]) J J J J J) J) J <| aA (bV (j := k + 1) J J J J om om J) J <| bG (fB (f := xc) (us := l) x0 J J J (by repeat (first | exact g0 | exact nrm_get.trans hl | refine g1 om ?_)) (fun _ => rfl) J J hk J) ?_
 refine Nk [1,2,8] J <| Rg 3 J <| Um J J <| aA (gR J J) J <| Um J J <| Nk [1,8,24,25,26] J <| dM <| bI (α := Nat × (List X) × Hp) (fun ⟨i, cur, hh⟩ => [(1, .ref ql 4 0 l.length), (8, .ptr (n0 + 5) 0), (24, .ref qf 4 0 f.length), (25, .v (.int .i64 (f.length : Int))), (26, .v (.int .i64 (i : Int)))]) (fun ⟨i, cur, hh⟩ => nrm hh) (fun ⟨i, cur, hh⟩ n => i ≤ f.length ∧ cur.length = l.length ∧ getH hh ql = some { cells := (cur.map xc).flatten, sz := 4, elem := (46), st := 0 } ∧ getH hh qf = some { cells := (f.map xc).flatten, sz := 4, elem := (46), st := 0 } ∧ getH hh (n0 + 5) = some { cells := xc ((l.getD (k + 1) default)), sz := 4, elem := (46), st := 0 } ∧ (∀ t, i ≤ t → cur.getD t default = (l.set (k + 1) x0).getD t default) ∧ (∀ t, t < i → (cur.getD t default).1 = ((l.set (k + 1) x0).getD t default).1 + (l.getD (k + 1) default).1 * (f.getD t default).1) ∧ (∀ r o, r < n0 → r ≠ ql → getH H r = some o → getH hh r = some o) ∧ n0 + 7 ≤ n) (fun ⟨i, cur, hh⟩ => f.length - i) (0, l.set (k + 1) x0, _) ⟨J, J, J, J, J, trivial⟩ (aR fun _ _ h => h) ⟨Nat.zero_le _, List.length_set, (by repeat (first | exact g0 | exact nrm_get.trans hl | refine g1 om ?_)), (by repeat (first | exact g0 | exact nrm_get.trans hf | refine g1 om ?_)), (by repeat (first | exact g0 | exact nrm_get.trans hl | refine g1 om ?_)), fun _ _ => rfl, fun t ht => absurd ht om, fun r o hr hq h => (by repeat (first | exact g0 | exact nrm_get.trans h | refine g1 om ?_)), om⟩ ?_
 rintro ⟨i, cur, hh⟩ n hF
 change WC _ _ _ _ _ [(1, .ref ql 4 0 l.length), (8, .ptr (n0 + 5) 0), (24, .ref qf 4 0 f.length), (25, .v (.int .i64 (f.length : Int))), (26, .v (.int .i64 (i : Int)))] (nrm hh) n _
 obtain ⟨hi, hcl, hg1, hg2, hg3, hct, hcd, hke, hn⟩ := hF
 refine Rg 1 J <| aA (bX J J) J <| bL (fun h27 => ?_) (fun h27 => ?_)
 rotate_left
 ·refine Nk [1,8,24,25,26,27] J <| bC J <| bB <| aW <| gM J <| ⟨.inl J, _, rfl, cur, ?_, hcl, om, nrm_get.trans hg1, fun r o hr hq h => nrm_get.trans (hke r o hr hq h)⟩
  refine lO (by rw [iG, fC, fC, hcl]) fun c hc => ?_
  rw [fC] at hc
  rw [oV (by rw [fC]; omega), gI, gI, gI, gI, hcd c om, dH om]
  by_cases e : c = k + 1
  ·rw [if_pos e.symm, if_pos e]; rfl
  ·rw [if_neg (fun h => e h.symm), if_neg e]
 have hil : i < l.length := by omega
 have hbi := hbf _ (bN (us := f) (i := i) om)
 have hbk := hbl _ (bN (us := l) (i := k + 1) hk)
 have hbc : Bd β (cur.getD i default).1 := by
  rw [hct i (Nat.le_refl _), dH hil]
  split
  ·exact Bd0 h1
  ·exact hbl _ (bN hil)
 refine Nk [1,8,24,25,26,27] J <| bF J <| aG <| aI <| Rg 6 J <| Um J J <| aA (bV (j := i) J J J J om om J) J <| aA (aO (b := lvX (f.getD i default)) (dP (f := xc) (us := f) (j := i) J J (by repeat (first | exact g0 | exact nrm_get.trans hg2 | refine g1 om ?_)) (fun _ => rfl) J (by decide) om J) J) J ?_
 refine bK (gE J) J <| Ua J J <| bG (cV (cs' := xc (f.getD i default)) J J J g0 J J J J) <| Nk [1,8,9,10,24,25,26] J <| Rg 3 J <| aA (aH (l := lvX (f.getD i default)) J J g0 J J) J <| aA (aJ J (eP (f.getD i default)) dD) J <| aA (lD J J) J <| bL (fun h33 => ?_) (fun h33 => ?_)
 rotate_left
 ·refine Nk [1,8,9,10,24,25,26,33] J <| cD J <| cE <| aE <| Ck [1,8,24,25,26] J <| aL (z := 2) J <| aA (cI (((i + 1 : Nat) : Int)) (aU J J om) om) J <| Um J J <| Wn <| aF <| ⟨⟨i + 1, cur, _⟩, ⟨J, J, J, J, J, trivial⟩, aR fun _ _ h => h, ⟨om, hcl, (by repeat (first | exact g0 | exact nrm_get.trans hg1 | refine g1 om ?_)), (by repeat (first | exact g0 | exact nrm_get.trans hg2 | refine g1 om ?_)), (by repeat (first | exact g0 | exact nrm_get.trans hg3 | refine g1 om ?_)), fun t ht => ?_, fun t ht => ?_, fun r o hr hq h => (by repeat (first | exact g0 | exact nrm_get.trans (hke r o hr hq h) | refine g1 om ?_)), om⟩, by show f.length - (i + 1) < f.length - i; omega⟩
  ·exact hct t om
  ·by_cases e : i = t
   ·subst e; rw [hct i (Nat.le_refl _), gQ.1 (show (f.getD i default).1.num.sign = 0 by omega), Rat.mul_zero, Rat.add_zero]
   ·exact hcd t om
 refine Nk [1,8,9,10,24,25,26,33] J <| cU J <| dC (z := 12) J kR <| Dm J J <| Dm J J <| Dm J J <| Dm J J <| aC (bV (j := i) J J J J om om J) J <| aC (aO (b := lvX (cur.getD i default)) (dP (f := xc) (us := cur) (j := i) J J (by repeat (first | exact g0 | exact nrm_get.trans hg1 | refine g1 om ?_)) (fun _ => rfl) J (by decide) om J) J) J ?_
 refine aC (aH (l := lvX (l.getD (k + 1) default)) J J (by repeat (first | exact g0 | exact nrm_get.trans hg3 | refine g1 om ?_)) J J) J ?_
 refine aC (aH (l := lvX (f.getD i default)) J J g0 J J) J <| aC (aJ J (jW (l.getD (k + 1) default) (f.getD i default) (hbk.mono om) (hbi.mono om)) dD) J <| aC (aJ J (lW (cur.getD i default) (xmul (l.getD (k + 1) default) (f.getD i default)) (hbc.mono om) ((hbk.mul hbi).mono om)) dD) J <| aC (bV (j := i) J J J J om om J) J <| cN (fB (f := xc) (us := cur) (xadd (cur.getD i default) (xmul (l.getD (k + 1) default) (f.getD i default))) J J J (by repeat (first | exact g0 | exact nrm_get.trans hg1 | refine g1 om ?_)) (fun _ => rfl) J J om J) ?_
 refine bJ (aT kR) J <| aE <| Ck [1,8,24,25,26] J <| aL (z := 2) J <| aA (cI (((i + 1 : Nat) : Int)) (aU J J om) om) J <| Um J J <| Wn <| aF <| ⟨⟨i + 1, cur.set i (xadd (cur.getD i default) (xmul (l.getD (k + 1) default) (f.getD i default))), _⟩, ⟨J, J, J, J, J, trivial⟩, aR fun _ _ h => h, ⟨om, by rw [List.length_set]; exact hcl, (by repeat (first | exact g0 | exact nrm_get.trans hg1 | refine g1 om ?_)), (by repeat (first | exact g0 | exact nrm_get.trans hg2 | refine g1 om ?_)), (by repeat (first | exact g0 | exact nrm_get.trans hg3 | refine g1 om ?_)), fun t ht => ?_, fun t ht => ?_, fun r o hr hq h => (by repeat (first | exact g0 | exact nrm_get.trans (hke r o hr hq h) | refine g1 om ?_)), om⟩, by show f.length - (i + 1) < f.length - i; omega⟩
 ·rw [oM om]; exact hct t om
 ·rw [dH om]
  by_cases e : i = t
  ·subst e; rw [if_pos rfl, ← hct i (Nat.le_refl _)]; rfl
  ·rw [if_neg e]; exact hcd t om
end Go.Proofs.Ytohfklpfeilcpaa
namespace Go.Proofs.Ytohfklpfeilcpaa
open Go.Ab Go.RowKit
theorem eqn_G (n0 q : Nat) (H : Hp) (nn kr : Nat) (rws : List RW) (c2 c3 c4 c5 : LV) (v : Int) (hq : getH H q = some { cells := [.v (.int .i64 (nn : Int)), .sl kr (rws.map rwc), c2, c3, c4, c5], sz := 6, elem := (83), st := 0 }) (hn1 : nn ≤ 100000) (hr1 : rws.length ≤ 100000) (hv : -1 ≤ v ∧ v ≤ 1000000) : WC Try.prog T E0 Try.f60.ntmps (codeOf Try.f60) (argsEnv 0 [.ptr q 0, .v (.int .i64 v)]) (nrm H) n0 (fun x e' h' n' => (x = .normal ∨ x = .ret) ∧ ∃ ls', resE e' T h' Try.f60.results.toList = some ls' ∧ (resultLV ls' = .v (.bool (decide ((nn : Int) ≤ v) && decide (v < (nn : Int) + (rws.length : Int)) && (rws.getD (v - nn).toNat default).2.2)) ∧ n0 ≤ n' ∧ h' = nrm H)) := by
 change WC _ _ _ _ _ [(0, .ptr q 0), (1, .v (.int .i64 v))] _ _ _
 have hgq : getH (nrm H) q = some { cells := [.v (.int .i64 (nn : Int)), .sl kr (rws.map rwc), c2, c3, c4, c5], sz := 6, elem := (83), st := 0 } := nrm_get.trans hq
 refine Rg 1 J <| Ua J J <| Wn <| bS (z := 36) J kR <| Dm J J <| Dm J J <| aC (cO J) J <| aC (aV J J J J J) J <| aC (aH (l := .v (.int .i64 (nn : Int))) J J hgq J J) J <| aC (iT J J) J <| kS (fun h10 => ?_) (fun h10 => ?_)
 rotate_left
 ·refine Dm J J <| bD J J <| bD J J <| bD J J <| bD J J <| bD J J <| bD J J <| bD J J <| bD J J <| bD J J <| bD J J <| bD J J <| bD J J <| aC (bU J J) J <| Dm J J <| bD J J <| bD J J <| bD J J <| bD J J <| bD J J <| bD J J <| bD J J <| bD J J <| bD J J ?_
  refine bD J J <| bD J J <| bD J J <| bD J J <| aC (bU J J) J <| aC (iS J) J <| bJ (aT kR) J <| Ck [4] J <| aP <| ⟨.inr J, _, rfl, congrArg (fun z => LV.v (.bool z)) (by rw [decide_eq_false h10, Bool.false_and, Bool.false_and]), om, rfl⟩
 refine Dm J J <| aZ J (dQ J) J <| aZ J (dQ J) J <| aZ J (cO J) J <| aZ J (aV J J J J J) J <| aZ J (aH (l := .v (.int .i64 (nn : Int))) J J hgq J J) J <| aZ J (dQ J) J <| aZ J (cO J) J <| aZ J (aV J J J J J) J <| aZ J (aH (l := .sl kr (rws.map rwc)) J J hgq J J) J <| aZ J (bO J J) J <| aZ J (cI (((nn + rws.length : Nat) : Int)) (aU J J om) om) J <| aZ J (bX J J) J <| kS (fun h23 => ?_) (fun h23 => ?_)
 ·refine aC (bT J J) J <| Dm J J <| aZ J (dQ J) J <| aZ J (cO J) J <| aZ J (aV J J J J J) J <| aZ J (aH (l := .sl kr (rws.map rwc)) J J hgq J J) J <| aZ J (dQ J) J <| aZ J (dQ J) J <| aZ J (cO J) J <| aZ J (aV J J J J J) J <| aZ J (aH (l := .v (.int .i64 (nn : Int))) J J hgq J J) J <| aZ J (cI ((((v - nn).toNat : Nat) : Int)) (cY J J om) om) J <| aZ J (cZ (us := rws) (f := rwc) (j := (v - nn).toNat) J J J J J om J) J <| aZ J (oFa J J J J J) J <| aZ J (gC (l := .v (.bool (rws.getD (v - nn).toNat default).2.2)) J J J) J <| aC (bT J J) J <| aC (iS J) J <| bJ (aT kR) J <| Ck [4] J <| aP <| ⟨.inr J, _, rfl, congrArg (fun z => LV.v (.bool z)) (by simp only [decide_eq_true h10, decide_eq_true (show v < (nn : Int) + (rws.length : Int) by omega), Bool.true_and]), om, rfl⟩
 refine aC (bT J J) J <| Dm J J <| bD J J <| bD J J <| bD J J <| bD J J <| bD J J <| bD J J <| bD J J <| bD J J <| bD J J <| bD J J <| bD J J <| bD J J <| bD J J <| aC (bU J J) J <| aC (iS J) J <| bJ (aT kR) J <| Ck [4] J <| aP <| ⟨.inr J, _, rfl, congrArg (fun z => LV.v (.bool z)) (by rw [decide_eq_false (show ¬ v < (nn : Int) + (rws.length : Int) by omega), Bool.and_false, Bool.false_and]), om, rfl⟩
theorem sid_G (n0 q : Nat) (H : Hp) (nn kr : Nat) (rws : List RW) (c2 c3 c4 c5 : LV) (v : Int) (hq : getH H q = some { cells := [.v (.int .i64 (nn : Int)), .sl kr (rws.map rwc), c2, c3, c4, c5], sz := 6, elem := (83), st := 0 }) (hn1 : nn ≤ 100000) (hr1 : rws.length ≤ 100000) (hv : -1 ≤ v ∧ v ≤ 1000000) : WC Try.prog T E0 Try.f68.ntmps (codeOf Try.f68) (argsEnv 0 [.ptr q 0, .v (.int .i64 v)]) (nrm H) n0 (fun x e' h' n' => (x = .normal ∨ x = .ret) ∧ ∃ ls', resE e' T h' Try.f68.results.toList = some ls' ∧ (resultLV ls' = .v (.bool (decide ((nn : Int) ≤ v) && !(decide ((nn : Int) ≤ v) && decide (v < (nn : Int) + (rws.length : Int)) && (rws.getD (v - nn).toNat default).2.2))) ∧ n0 ≤ n' ∧ h' = nrm H)) := by
 change WC _ _ _ _ _ [(0, .ptr q 0), (1, .v (.int .i64 v))] _ _ _
 have hgq : getH (nrm H) q = some { cells := [.v (.int .i64 (nn : Int)), .sl kr (rws.map rwc), c2, c3, c4, c5], sz := 6, elem := (83), st := 0 } := nrm_get.trans hq
 refine Rg 1 J <| Ua J J <| Wn <| dT (z := 13) J <| cX (dQ J) J <| cX (dQ J) J <| cX (cO J) J <| cX (aV J J J J J) J <| cX (aH (l := .v (.int .i64 (nn : Int))) J J hgq J J) J <| cX (iT J J) J <| WN.D (fun h10 => ?_) (fun h10 => ?_)
 rotate_left
 ·refine cX (dQ J) J <| WN.K J J <| WN.K J J <| WN.K J J <| WN.K J J <| cX (bU J J) J <| cX (iS J) J <| WN.nil <| Ck [4] J <| aP <| ⟨.inr J, _, rfl, congrArg (fun z => LV.v (.bool z)) (by rw [decide_eq_false h10, Bool.false_and]), om, rfl⟩
 refine cX (dQ J) J <| WN.Ug J (dQ J) J <| WN.Ug J (dQ J) J <| WN.Gg (ls := [.ptr q 0, .v (.int .i64 v)]) (Φ := fun r h' n' => r = .v (.bool (decide ((nn : Int) ≤ v) && decide (v < (nn : Int) + (rws.length : Int)) && (rws.getD (v - nn).toNat default).2.2)) ∧ n0 ≤ n' ∧ h' = nrm H) J J Try.func60 J J (dK J) J ((eqn_G _ q H nn kr rws c2 c3 c4 c5 v hq hn1 hr1 hv).mono (by rintro x e h m ⟨hx, ls, hr, h1, h2, h3⟩; exact ⟨hx, ls, hr, h1, om, h3⟩)) ?_
 rintro r h' n1 ⟨rfl, hn1', rfl⟩
 refine jM <| aM J (fA J) J <| aA (bT J J) J <| Ua J J <| Nk [4] J <| aP <| ⟨.inr J, _, rfl, congrArg (fun z => LV.v (.bool z)) (by rw [decide_eq_true h10, Bool.true_and, Bool.true_and]), om, rfl⟩
end Go.Proofs.Ytohfklpfeilcpaa
namespace Go.Proofs.Ytohfklpfeilcpaa
open Go.Ab Go.RowKit
theorem rat_zdiv {a : Rat} : (0 : Rat) = -(0 / a) := by rw [Rat.div_def, Rat.zero_mul, Rat.neg_zero]
theorem repl_x0 {m j : Nat} : ((List.replicate m x0).getD j default).1 = 0 := by
 simp only [List.getD_eq_getElem?_getD, List.getElem?_replicate]
 split <;> rfl
theorem piv_G (n0 : Nat) (H : Hp) (L : Lay) (rl : LV) (t : TX) (i k β : Nat) (row : List X) (hM : TM ⟨(83), (3), (41), (46)⟩ H n0 L rl t) (hOk : t.tb.Ok) (hB : t.tb.Bds β) (hi : i < t.cells.length) (hk : k < t.out.length) (hrow : t.cells.getD i [] = row) (hp : (row.getD (k + 1) default).1 ≠ 0) (h1 : 1 ≤ β) (hβ : β ≤ 400000000) : WC Try.prog T E0 Try.f64.ntmps (codeOf Try.f64) (argsEnv 0 [.ptr L.q 0, .v (.int .i64 (i : Int)), .v (.int .i64 (k : Int))]) (nrm H) n0 (fun x e' h' n' => (x = .normal ∨ x = .ret) ∧ ∃ ls', resE e' T h' Try.f64.results.toList = some ls' ∧ (∃ (L' : Lay) (t' : TX), TM ⟨(83), (3), (41), (46)⟩ h' n' L' rl t' ∧ t'.tb = t.tb.piv i k ∧ t'.n = t.n ∧ t'.eqs = t.eqs ∧ t'.cells.length = t.cells.length ∧ Mvd n0 n' t.cells.length L L' H h')) := by
 change WC _ _ _ _ _ [(0, .ptr L.q 0), (1, .v (.int .i64 (i : Int))), (2, .v (.int .i64 (k : Int)))] _ _ _
 have hm := hOk.xm
 have hol : t.out.length ≤ 100000 := hOk.ol
 have hgw := hOk.xg
 have hbl := hOk.xb
 have hrl : row.length = t.out.length + 1 := by rw [← hrow]; exact hOk.xl hi
 have hbr : ∀ x, x ∈ row → Bd β x.1 := by rw [← hrow]; exact hB.xr hi
 have hcne : t.cells ≠ [] := cG hi
 have hLq : L.q < n0 := hM.lt 0 om
 have hLb : L.b < n0 := hM.lt 1 om
 have hLo : L.o < n0 := hM.lt 2 om
 have hLc : L.c < n0 := hM.lt 3 om
 have hLg : L.g < n0 := hM.lt 4 om
 have hLa : ∀ j, j < t.cells.length → L.a j < n0 := fun j hj => hM.lt (j + 5) om
 have hcq : L.c ≠ L.q := hM.ne (i := 3) (j := 0) om om om
 have hbo : L.b ≠ L.o := hM.ne (i := 1) (j := 2) om om om
 have hac : L.a i ≠ L.c := hM.ne (i := i + 5) (j := 3) om om om
 have hra : getH H (L.a i) = some { cells := (row.map xc).flatten, sz := 4, elem := (46), st := 0 } := by rw [← hrow]; exact hM.rw i hi
 have hgt : getH (nrm H) L.q = some { cells := tbC L rl t, sz := 6, elem := (83), st := 0 } := nrm_get.trans hM.tb
 have hgc : getH (nrm H) L.c = some { cells := ((rwsT L t.cells).map rfc).flatten, sz := 1, elem := (41), st := 0 } := nrm_get.trans (hM.cl hcne)
 have hgr : getH (nrm H) (L.a i) = some { cells := (row.map xc).flatten, sz := 4, elem := (46), st := 0 } := nrm_get.trans hra
 refine Ck [0,1,2] J <| Rg 8 J <| Um J J <| aA (cO J) J <| aA (aV J J J J J) J <| aA (aH (l := .ref L.c 1 0 t.cells.length) J J hgt J (congrArg some (gY hcne))) J <| Um J J <| aA (bV (j := i) J J J J om om J) J <| aA (aO (b := .ref (L.a i) 4 0 row.length) (dP (f := rfc) (us := rwsT L t.cells) (j := i) J J hgc (fun _ => rfl) J (by decide) (by rw [eY]; exact hi) J) (by rw [iH hi, hrow])) J <| Ua J J <| Nk [0,1,2,6] J <| Rg 7 J <| Um J J <| Um J J <| aA (cI (((k + 1 : Nat) : Int)) (aU J J om) om) J <| aA (bV (j := k + 1) J J J J om om J) J <| aA (aO (b := lvX (row.getD (k + 1) default)) (dP (f := xc) (us := row) (j := k + 1) J J hgr (fun _ => rfl) J (by decide) om J) J) J <| bK (gE J) J <| bG (cV (cs' := xc (row.getD (k + 1) default)) J J J g0 J J J J) <| Nk [0,1,2,6,7] J <| Rg 4 J <| Um J J ?_
 refine aA (gR J J) J <| bK (oMk (a := row.length) (b := row.length) J J J J om om (by decide) om (by show 64 * row.length ≤ _; omega) om) J <| Ua J J <| Nk [0,1,2,6,7,8] J <| aB <| Rg 3 J <| Um J J <| aA (gR J J) J <| Um J J <| Nk [0,1,2,6,7,8,27,28] J <| aI <| bI (α := Nat × (List X) × Hp) (fun ⟨c, us, hh⟩ => [(0, .ptr L.q 0), (1, .v (.int .i64 (i : Int))), (2, .v (.int .i64 (k : Int))), (6, .ref (L.a i) 4 0 row.length), (7, .ptr (n0 + 8 + 5) 0), (8, .ref (n0 + 8 + 7 + 2) 4 0 row.length), (27, .v (.int .i64 (row.length : Int))), (28, .v (.int .i64 (c : Int)))]) (fun ⟨c, us, hh⟩ => nrm hh) (fun ⟨c, us, hh⟩ n => c ≤ row.length ∧ us.length = row.length ∧ getH hh (n0 + 8 + 7 + 2) = some { cells := (us.map xc).flatten, sz := 4, elem := (46), st := 0 } ∧ getH hh (n0 + 8 + 5) = some { cells := xc ((row.getD (k + 1) default)), sz := 4, elem := (46), st := 0 } ∧ (∀ r o, r < n0 → getH H r = some o → getH hh r = some o) ∧ (∀ j, j < c → (us.getD j default).1 = if j = k + 1 then 0 else -((row.getD j default).1 / (row.getD (k + 1) default).1)) ∧ (∀ j, c ≤ j → (us.getD j default).1 = 0) ∧ n0 + 20 ≤ n) (fun ⟨c, us, hh⟩ => row.length - c) (0, List.replicate row.length x0, _) ⟨J, J, J, J, J, J, J, J, trivial⟩ (aR fun _ _ h => h) ⟨Nat.zero_le _, List.length_replicate, g0.trans (by rw [List.map_replicate]; rfl), (by repeat (first | exact g0 | exact nrm_get.trans J | refine g1 om ?_)), fun r o hr h => (by repeat (first | exact g0 | exact nrm_get.trans h | refine g1 om ?_)), fun j hj => absurd hj om, fun j _ => repl_x0, om⟩ ?_
 rintro ⟨c, us, hh⟩ n hF
 change WC _ _ _ _ _ [(0, .ptr L.q 0), (1, .v (.int .i64 (i : Int))), (2, .v (.int .i64 (k : Int))), (6, .ref (L.a i) 4 0 row.length), (7, .ptr (n0 + 8 + 5) 0), (8, .ref (n0 + 8 + 7 + 2) 4 0 row.length), (27, .v (.int .i64 (row.length : Int))), (28, .v (.int .i64 (c : Int)))] (nrm hh) n _
 obtain ⟨hc, hul, hg1, hg2, hke, hud, huz, hn⟩ := hF
 refine Rg 1 J <| aA (bX J J) J <| bL (fun h29 => ?_) (fun h29 => ?_)
 ·have hbc := hbr _ (bN (us := row) (i := c) om)
  have hbp := hbr _ (bN (us := row) (i := k + 1) om)
  refine Nk [0,1,2,6,7,8,27,28,29] J <| bF J <| aG <| aI <| Rg 2 J <| Um J J <| Ua J J <| Nk [0,1,2,6,7,8,9,27,28] J <| Rg 12 J <| Um J J <| Um J J <| aA (cI (((k + 1 : Nat) : Int)) (aU J J om) om) J <| aA (lD J J) J <| bL (fun h34 => ?_) (fun h34 => ?_)
  rotate_left
  ·refine Um J J <| K1 J J <| K1 J J <| K1 J J <| K1 J J <| K1 J J <| K1 J J <| aA (bU J J) J <| Nk [0,1,2,6,7,8,9,27,28,36,37,38,39,40,41,42] J <| cD J <| cE <| aE <| Ck [0,1,2,6,7,8,27,28,36,37,38,39,40,41] J <| aL (z := 2) J <| aA (cI (((c + 1 : Nat) : Int)) (aU J J om) om) J <| Um J J <| Wn <| aF <| ⟨⟨c + 1, us, _⟩, ⟨J, J, J, J, J, J, J, J, trivial⟩, aR fun _ _ h => h, ⟨om, hul, (by repeat (first | exact g0 | exact nrm_get.trans hg1 | refine g1 om ?_)), (by repeat (first | exact g0 | exact nrm_get.trans hg2 | refine g1 om ?_)), fun r o hr h => (by repeat (first | exact g0 | exact nrm_get.trans (hke r o hr h) | refine g1 om ?_)), fun j hj => ?_, fun j hj => ?_, om⟩, by show row.length - (c + 1) < row.length - c; omega⟩
   ·by_cases e : c = j
    ·subst e; rw [huz c (Nat.le_refl _), if_pos om]
    ·exact hud j om
   ·exact huz j om
  have hck : ¬ c = k + 1 := by omega
  refine Um J J <| aM J (dQ J) J <| aM J (dQ J) J <| aM J (bV (j := c) J J J J om om J) J <| aM J (aO (b := lvX (row.getD c default)) (dP (f := xc) (us := row) (j := c) J J (by repeat (first | exact g0 | exact nrm_get.trans (hke _ _ (hLa i hi) hra) | refine g1 om ?_)) (fun _ => rfl) J (by decide) om J) J) J ?_
  refine aM J (aJ J (eP (row.getD c default)) dD) J <| aM J (lD J J) J <| bL (fun h41 => ?_) (fun h41 => ?_)
  rotate_left
  ·refine aA (bT J J) J <| Nk [0,1,2,6,7,8,9,27,28,36,37,38,39,40,41,42] J <| cD J <| cE <| aE <| Ck [0,1,2,6,7,8,27,28,36,37,38,39,40,41] J <| aL (z := 2) J <| aA (cI (((c + 1 : Nat) : Int)) (aU J J om) om) J <| Um J J <| Wn <| aF <| ⟨⟨c + 1, us, _⟩, ⟨J, J, J, J, J, J, J, J, trivial⟩, aR fun _ _ h => h, ⟨om, hul, (by repeat (first | exact g0 | exact nrm_get.trans hg1 | refine g1 om ?_)), (by repeat (first | exact g0 | exact nrm_get.trans hg2 | refine g1 om ?_)), fun r o hr h => (by repeat (first | exact g0 | exact nrm_get.trans (hke r o hr h) | refine g1 om ?_)), fun j hj => ?_, fun j hj => ?_, om⟩, by show row.length - (c + 1) < row.length - c; omega⟩
   ·by_cases e : c = j
    ·subst e; rw [huz c (Nat.le_refl _), if_neg hck, gQ.1 (show (row.getD c default).1.num.sign = 0 by omega)]; exact rat_zdiv
    ·exact hud j om
   ·exact huz j om
  refine aA (bT J J) J <| Nk [0,1,2,6,7,8,9,27,28,36,37,38,39,40,41,42] J <| cU J <| dC (z := 11) J kR <| Dm J J <| Dm J J <| Dm J J <| Dm J J <| aC (bV (j := c) J J J J om om J) J <| aC (aO (b := lvX (row.getD c default)) (dP (f := xc) (us := row) (j := c) J J (by repeat (first | exact g0 | exact nrm_get.trans (hke _ _ (hLa i hi) hra) | refine g1 om ?_)) (fun _ => rfl) J (by decide) om J) J) J ?_
  refine aC (aH (l := lvX (row.getD (k + 1) default)) J J (by repeat (first | exact g0 | exact nrm_get.trans hg2 | refine g1 om ?_)) J J) J ?_
  refine aC (aJ J (rdiv_run (row.getD c default) (row.getD (k + 1) default) hp (hbc.mono om) (hbp.mono om)) dD) J <| aC (aJ J (lZ (xdiv (row.getD c default) (row.getD (k + 1) default))) dD) J <| aC (bV (j := c) J J J J om om J) J <| cN (fB (f := xc) (us := us) (xneg (xdiv (row.getD c default) (row.getD (k + 1) default))) J J J (by repeat (first | exact g0 | exact nrm_get.trans hg1 | refine g1 om ?_)) (fun _ => rfl) J J om J) ?_
  refine bJ (aT kR) J <| aE <| Ck [0,1,2,6,7,8,27,28,36,37,38,39,40,41] J <| aL (z := 2) J <| aA (cI (((c + 1 : Nat) : Int)) (aU J J om) om) J <| Um J J <| Wn <| aF <| ⟨⟨c + 1, us.set c (xneg (xdiv (row.getD c default) (row.getD (k + 1) default))), _⟩, ⟨J, J, J, J, J, J, J, J, trivial⟩, aR fun _ _ h => h, ⟨om, by rw [List.length_set]; exact hul, (by repeat (first | exact g0 | exact nrm_get.trans hg1 | refine g1 om ?_)), (by repeat (first | exact g0 | exact nrm_get.trans hg2 | refine g1 om ?_)), fun r o hr h => (by repeat (first | exact g0 | exact nrm_get.trans (hke r o hr h) | refine g1 om ?_)), fun j hj => ?_, fun j hj => ?_, om⟩, by show row.length - (c + 1) < row.length - c; omega⟩
  ·rw [dH om]
   by_cases e : c = j
   ·subst e; rw [if_pos rfl, if_neg hck]; rfl
   ·rw [if_neg e]; exact hud j om
  ·rw [oM om]; exact huz j om
 refine Nk [0,1,2,6,7,8,27,28,29] J <| bC J <| bB <| aW <| aQ J <| Ck [0,1,2,7,8] J ?_
 have hbp := hbr _ (bN (us := row) (i := k + 1) om)
 refine bS (z := 8) J kR <| Dm J J <| Dm J J <| aC (cI (((k + 1 : Nat) : Int)) (aU J J om) om) J <| aC (aJ J (mS 1 (by decide)) dD) J <| aC (aH (l := lvX (row.getD (k + 1) default)) J J (by repeat (first | exact g0 | exact nrm_get.trans hg2 | refine g1 om ?_)) J J) J ?_
 refine aC (aJ J (rdiv_run (xint 1) (row.getD (k + 1) default) hp (Bd1.mono om) (hbp.mono om)) dD) J <| aC (bV (j := k + 1) J J J J om om J) J <| cN (fB (f := xc) (us := us) (xdiv (xint 1) (row.getD (k + 1) default)) J J J (by repeat (first | exact g0 | exact nrm_get.trans hg1 | refine g1 om ?_)) (fun _ => rfl) J J om J) ?_
 refine bJ (aT kR) J <| Ck [0,1,2,8] J ?_
 have huUS : (us.set (k + 1) (xdiv (xint 1) (row.getD (k + 1) default))).length = row.length := by rw [List.length_set]; exact hul
 have hfr : r1 (us.set (k + 1) (xdiv (xint 1) (row.getD (k + 1) default))) = frsR (r1 row) k := by
  refine lO (by rw [iB, fC, fC, huUS]) fun j hj => ?_
  rw [fC, huUS] at hj
  rw [gI, oL (by rw [fC]; exact hj), gI, gI, dH om]
  by_cases e : k + 1 = j
  ·subst e; rw [if_pos rfl, if_pos rfl]; show (((1 : Int) : Rat)) / _ = _; rfl
  ·rw [if_neg e, if_neg (fun h => e h.symm), hud j om, if_neg (fun h => e h.symm)]
 have hbUS : ∀ x, x ∈ (us.set (k + 1) (xdiv (xint 1) (row.getD (k + 1) default))) → Bd (2 * β) x.1 := fun x hx => frsR_bd (k := k) om hbr hp h1 x.1 (by rw [← hfr]; exact List.mem_map_of_mem hx)
 refine Rg 8 J <| Um J J <| aA (cO J) J <| aA (aV J J J J J) J <| aA (aH (l := .ref L.c 1 0 t.cells.length) J J (show getH _ _ = some { cells := tbC L rl t, sz := 6, elem := (83), st := 0 } from (by repeat (first | exact g0 | exact nrm_get.trans (hke _ _ hLq hM.tb) | refine g1 om ?_))) J (congrArg some (gY hcne))) J ?_
 refine Um J J <| Um J J <| aA (bV (j := i) J J J J om om J) J <| bG (fB (f := rfc) (us := rwsT L t.cells) ((n0 + 8 + 7 + 2), row.length) J J J (by repeat (first | exact g0 | exact nrm_get.trans (hke _ _ hLc (hM.cl hcne)) | refine g1 om ?_)) (fun _ => rfl) J J (by rw [eY]; exact hi) J) ?_
 refine Nk [0,1,2,8] J <| aB <| Rg 6 J <| Um J J <| aA (cO J) J <| aA (aV J J J J J) J <| aA (aH (l := .ref L.c 1 0 t.cells.length) J J (show getH _ _ = some { cells := tbC L rl t, sz := 6, elem := (83), st := 0 } from (by repeat (first | exact g0 | exact nrm_get.trans (hke _ _ hLq hM.tb) | refine g1 om ?_))) J (congrArg some (gY hcne))) J ?_
 refine aA (gR J J) J <| Um J J <| Nk [0,1,2,8,72,73] J <| aI <| bI (α := Nat × (List (List X)) × Hp) (fun ⟨r, cs, hh⟩ => [(0, .ptr L.q 0), (1, .v (.int .i64 (i : Int))), (2, .v (.int .i64 (k : Int))), (8, .ref (n0 + 8 + 7 + 2) 4 0 row.length), (72, .v (.int .i64 (t.cells.length : Int))), (73, .v (.int .i64 (r : Int)))]) (fun ⟨r, cs, hh⟩ => nrm hh) (fun ⟨r, cs, hh⟩ n => r ≤ t.cells.length ∧ TM ⟨(83), (3), (41), (46)⟩ hh n ({ L with a := fun j => if j = i then (n0 + 8 + 7 + 2) else L.a j }) rl { t with cells := cs } ∧ cs.length = t.cells.length ∧ cs.getD i [] = (us.set (k + 1) (xdiv (xint 1) (row.getD (k + 1) default))) ∧ (∀ j, j < t.cells.length → j ≠ i → (cs.getD j []).length = t.out.length + 1) ∧ (∀ j, j < r → j ≠ i → r1 (cs.getD j []) = rplR (r1 (t.cells.getD j [])) (r1 (us.set (k + 1) (xdiv (xint 1) (row.getD (k + 1) default)))) k) ∧ (∀ j, r ≤ j → j ≠ i → cs.getD j [] = t.cells.getD j []) ∧ (∀ r o, r < n0 → (∀ j, j < 5 + t.cells.length → L.id j ≠ r) → getH H r = some o → getH hh r = some o) ∧ n0 + 25 ≤ n) (fun ⟨r, cs, hh⟩ => t.cells.length - r) (0, t.cells.set i (us.set (k + 1) (xdiv (xint 1) (row.getD (k + 1) default))), _) ⟨J, J, J, J, J, J, trivial⟩ (aR fun _ _ h => h) ⟨Nat.zero_le _, hM.newR (f := (n0 + 8 + 7 + 2)) hi om om (by repeat (first | exact g0 | exact nrm_get.trans J | refine g1 om ?_)) (by rw [huUS]; exact g0) (fun r o hr hne h => (by repeat (first | exact g0 | exact nrm_get.trans (hke r o hr h) | refine g1 om ?_))), List.length_set, hH hi, fun j hj hji => by rw [gW (fun h => hji h.symm)]; exact hOk.xl hj, fun j hj => absurd hj om, fun j _ hji => gW (fun h => hji h.symm), fun r o hr hq h => (by have := hq 3 om; have : L.c ≠ r := this; repeat (first | exact g0 | exact nrm_get.trans (hke r o hr h) | refine g1 om ?_)), om⟩ ?_
 rintro ⟨r, cs, hh⟩ n hF
 change WC _ _ _ _ _ [(0, .ptr L.q 0), (1, .v (.int .i64 (i : Int))), (2, .v (.int .i64 (k : Int))), (8, .ref (n0 + 8 + 7 + 2) 4 0 row.length), (72, .v (.int .i64 (t.cells.length : Int))), (73, .v (.int .i64 (r : Int)))] (nrm hh) n _
 obtain ⟨hr, hM3, hcl, hci, hcw, hcd, hct, hke3, hn3⟩ := hF
 refine Rg 1 J <| aA (bX J J) J <| bL (fun h74 => ?_) (fun h74 => ?_)
 rotate_left
 ·refine Nk [0,1,2,8,72,73,74] J <| bC J <| bB <| aW <| aQ J <| Ck [0,1,2,8] J ?_
  obtain rfl : r = t.cells.length := by omega
  have hFus : getH hh (n0 + 8 + 7 + 2) = some (obX (46) (us.set (k + 1) (xdiv (xint 1) (row.getD (k + 1) default)))) := by
   have := hM3.rw i (by show i < cs.length; omega)
   simp only [if_pos, hci] at this
   exact this
  have hgt3 := hM3.tb
  have hgg3 : getH hh L.g = some (obX (46) t.goal) := hM3.gl
  have hbg : ∀ x, x ∈ t.goal → Bd (2 * β) x.1 := fun x hx => (hB.xg x hx).mono om
  refine dT (z := 8) J <| cX (dQ J) J <| cX (dQ J) J <| cX (cO J) J <| cX (aV J J J J J) J <| cX (aH (l := .ref L.g 4 0 t.goal.length) J J (nrm_get.trans hgt3) J J) J <| cX (dQ J) J <| cX (dQ J) J ?_
  have hrpl := rpl_G (n + 1 + 8) L.q (L.g) (n0 + 8 + 7 + 2) hh t.goal (us.set (k + 1) (xdiv (xint 1) (row.getD (k + 1) default))) k (2 * β) hgg3 hFus om om om (by rw [huUS]; omega) om om om om hbg hbUS
  rw [huUS] at hrpl
  refine kT (ls := [.ptr L.q 0, .ref (L.g) 4 0 (t.goal).length, .ref (n0 + 8 + 7 + 2) 4 0 row.length, .v (.int .i64 (k : Int))]) (Φ := fun _ h' n' => ∃ l' : List X, r1 l' = rplR (r1 t.goal) (r1 (us.set (k + 1) (xdiv (xint 1) (row.getD (k + 1) default)))) k ∧ l'.length = t.goal.length ∧ (n + 1 + 8) ≤ n' ∧ getH h' (L.g) = some (obX (46) l') ∧ ∀ z o, z < (n + 1 + 8) → z ≠ L.g → getH hh z = some o → getH h' z = some o) J Try.func82 J J (dK J) J (hrpl.mono (by rintro x e h m ⟨hx, ls, hr, l', h1, h2, h3, h4, h5⟩; exact ⟨hx, ls, hr, l', h1, h2, h3, h4, h5⟩)) ?_
  rintro r_ h' n1 ⟨l', hl1, hl2, hn1, hgl', hkl'⟩
  refine jM <| Nk [0,1,2] J ?_
  have hM4 := hM3.updG (n' := n1) (l := l') (h' := h') hl2 om hgl' (fun r o hr hne h => hkl' r o om hne h)
  have hgt4 := hM4.tb
  have hbne : t.basic ≠ [] := cG (show i < t.basic.length by omega)
  have hone : t.out ≠ [] := cG hk
  have hgb4 : getH h' L.b = some { cells := (t.basic.map ic).flatten, sz := 1, elem := (3), st := 0 } := hM4.bs hbne
  have hgo4 : getH h' L.o = some { cells := (t.out.map ic).flatten, sz := 1, elem := (3), st := 0 } := hM4.ou hone
  refine dC (z := 28) J kR <| Dm J J <| aC (cO J) J <| aC (aV J J J J J) J <| aC (aH (l := .ref L.b 1 0 t.basic.length) J J hgt4 J (congrArg some (fE hbne))) J <| Dm J J <| Dm J J <| aC (cO J) J <| aC (aV J J J J J) J <| aC (aH (l := .ref L.o 1 0 t.out.length) J J hgt4 J (congrArg some (fE hone))) J <| Dm J J <| Dm J J <| aC (cO J) J <| aC (aV J J J J J) J <| aC (aH (l := .ref L.o 1 0 t.out.length) J J hgt4 J (congrArg some (fE hone))) J <| Dm J J <| aC (bV (j := k) J J J J om om J) J <| aC (aO (b := .v (.int .i64 (t.out.getD k default))) (dP (f := ic) (us := t.out) (j := k) J J hgo4 (fun _ => rfl) J (by decide) hk J) J) J <| Dm J J <| aC (cO J) J <| aC (aV J J J J J) J <| aC (aH (l := .ref L.b 1 0 t.basic.length) J J hgt4 J (congrArg some (fE hbne))) J <| Dm J J <| aC (bV (j := i) J J J J om om J) J ?_
  refine aC (aO (b := .v (.int .i64 (t.basic.getD i default))) (dP (f := ic) (us := t.basic) (j := i) J J hgb4 (fun _ => rfl) J (by decide) om J) J) J <| aC (bV (j := i) J J J J om om J) J <| cN (fB (f := ic) (us := t.basic) (t.out.getD k default) J J J hgb4 (fun _ => rfl) J J om J) <| aC (bV (j := k) J J J J om om J) J <| cN (fB (f := ic) (us := t.out) (t.basic.getD i default) J J J (g1 hbo hgo4) (fun _ => rfl) J J hk J) <| bJ (aT kR) J <| ⟨.inl J, _, rfl, _, ⟨t.n, t.eqs, t.basic.set i (t.out.getD k default), t.out.set k (t.basic.getD i default), cs, l'⟩, hM4.swap (bs := t.basic.set i (t.out.getD k default)) (os := t.out.set k (t.basic.getD i default)) List.length_set List.length_set om (fun _ => g1 (fun e => hbo e.symm) g0) (fun _ => g0) (fun r o hr h1 h2 h => g1 (fun e => h2 e.symm) (g1 (fun e => h1 e.symm) h)), piv_tb hi hcl (by rw [hrow]; exact hfr) hci (fun j hj hji => hcd j hj hji) hl1, rfl, rfl, hcl, om, rfl, fun j _ => Lay.id_new om j, fun r o hr hq h => ?_⟩
  exact g1 (hq 2 om) (g1 (hq 1 om) (hkl' r o om (fun e => hq 4 om e.symm) (hke3 r o hr hq h)))
 refine Nk [0,1,2,8,72,73,74] J <| bF J <| aG <| aI <| Rg 2 J <| Um J J <| Ua J J <| Nk [0,1,2,8,10,72,73] J <| Rg 3 J <| Um J J <| Um J J <| aA (lD J J) J <| bL (fun h78 => ?_) (fun h78 => ?_)
 rotate_left
 ·refine Nk [0,1,2,8,10,72,73,78] J <| cD J <| cE <| aE <| Ck [0,1,2,8,72,73] J <| aL (z := 2) J <| aA (cI (((r + 1 : Nat) : Int)) (aU J J om) om) J <| Um J J <| Wn <| aF <| ⟨⟨r + 1, cs, hh⟩, ⟨J, J, J, J, J, J, trivial⟩, aR fun _ _ h => nrm_get.trans h, ⟨om, hM3.mono om (fun _ _ _ h => h), hcl, hci, hcw, fun j hj hji => hcd j om hji, fun j hj hji => hct j om hji, hke3, om⟩, by show t.cells.length - (r + 1) < t.cells.length - r; omega⟩
 refine Nk [0,1,2,8,10,72,73,78] J <| cU J ?_
 have hri : ¬ r = i := by omega
 have hrm : r < t.cells.length := by omega
 have hra3 : getH hh (L.a r) = some (obX (46) (cs.getD r [])) := by
  have := hM3.rw r (by show r < cs.length; omega)
  simp only [if_neg hri] at this
  exact this
 have hwr : (cs.getD r []).length = t.out.length + 1 := hcw r hrm hri
 have hbcr : ∀ x, x ∈ (cs.getD r []) → Bd (2 * β) x.1 := fun x hx => (hB.xr hrm x (by rw [← hct r (Nat.le_refl _) hri]; exact hx)).mono om
 have hFus : getH hh (n0 + 8 + 7 + 2) = some (obX (46) (us.set (k + 1) (xdiv (xint 1) (row.getD (k + 1) default)))) := by
  have := hM3.rw i (by show i < cs.length; omega)
  simp only [if_pos, hci] at this
  exact this
 have hgt3 := hM3.tb
 have hgc3 := hM3.cl (cG (show r < cs.length by omega))
 have hLar := hLa r hrm
 refine WC.regn1 (z := 11) J <| cX (dQ J) J <| cX (dQ J) J <| cX (cO J) J <| cX (aV J J J J J) J <| cX (aH (l := .ref L.c 1 0 t.cells.length) J J (nrm_get.trans hgt3) J (congrArg some ((gY (cG (show r < cs.length by omega))).trans (by rw [hcl])))) J <| cX (dQ J) J <| cX (bV (j := r) J J J J om om J) J <| cX (aO (b := .ref (L.a r) 4 0 (cs.getD r []).length) (dP (f := rfc) (us := rwsT ({ L with a := fun j => if j = i then (n0 + 8 + 7 + 2) else L.a j }) cs) (j := r) J J (nrm_get.trans hgc3) (fun _ => rfl) J (by decide) (by rw [eY]; omega) J) (by rw [iH om]; simp only [if_neg hri])) J <| cX (dQ J) J <| cX (dQ J) J ?_
 have hrpl := rpl_G (n + 1 + 2 + 3 + 11) L.q (L.a r) (n0 + 8 + 7 + 2) hh (cs.getD r []) (us.set (k + 1) (xdiv (xint 1) (row.getD (k + 1) default))) k (2 * β) hra3 hFus om om om (by rw [huUS]; omega) om om om om hbcr hbUS
 rw [huUS] at hrpl
 refine kT (ls := [.ptr L.q 0, .ref (L.a r) 4 0 ((cs.getD r [])).length, .ref (n0 + 8 + 7 + 2) 4 0 row.length, .v (.int .i64 (k : Int))]) (Φ := fun _ h' n' => ∃ l' : List X, r1 l' = rplR (r1 (cs.getD r [])) (r1 (us.set (k + 1) (xdiv (xint 1) (row.getD (k + 1) default)))) k ∧ l'.length = (cs.getD r []).length ∧ (n + 1 + 2 + 3 + 11) ≤ n' ∧ getH h' (L.a r) = some (obX (46) l') ∧ ∀ z o, z < (n + 1 + 2 + 3 + 11) → z ≠ L.a r → getH hh z = some o → getH h' z = some o) J Try.func82 J J (dK J) J (hrpl.mono (by rintro x e h m ⟨hx, ls, hr, l', h1, h2, h3, h4, h5⟩; exact ⟨hx, ls, hr, l', h1, h2, h3, h4, h5⟩)) ?_
 rintro r_ h' n1 ⟨l', hl1, hl2, hn1, hgl', hkl'⟩
 refine jM <| Wn <| aE <| Ck [0,1,2,8,72,73] J <| aL (z := 2) J <| aA (cI (((r + 1 : Nat) : Int)) (aU J J om) om) J <| Um J J <| Wn <| aF ?_
 have hcl' : ((cs.getD r [])).length = t.out.length + 1 := hcw r om hri
 refine ⟨⟨r + 1, cs.set r l', h'⟩, ⟨J, J, J, J, J, J, trivial⟩, aR fun _ _ h => h, ⟨om, hM3.updR (i := r) (by show r < cs.length; omega) hl2 om (by show getH h' (if r = i then _ else _) = _; rw [if_neg hri]; exact hgl') (fun q o hq hne h => hkl' q o om (fun e => hne (by show q = if r = i then _ else _; rw [if_neg hri]; exact e)) h), by rw [List.length_set]; exact hcl, by rw [gW (fun h => hri h)]; exact hci, fun j hj hji => ?_, fun j hj hji => ?_, fun j hj hji => ?_, fun q o hq hne h => hkl' q o om (fun e => hne (r + 5) om e.symm) (hke3 q o hq hne h), om⟩, by show t.cells.length - (r + 1) < t.cells.length - r; omega⟩
 ·by_cases e : r = j
  ·subst e; rw [hH om, hl2]; exact hcl'
  ·rw [gW e]; exact hcw j hj hji
 ·by_cases e : r = j
  ·subst e; rw [hH om, hl1, hct r (Nat.le_refl _) hji]
  ·rw [gW e]; exact hcd j om hji
 ·rw [gW om]; exact hct j om hji
end Go.Proofs.Ytohfklpfeilcpaa
namespace Go.Proofs.Ytohfklpfeilcpaa
open Go.Ab Go.RowKit
theorem open_G (n0 nn kr : Nat) (H : Hp) (rws : List RW) (gl : RW) (h0 : 1 ≤ nn) (hn : nn ≤ 100000) (hm : rws.length ≤ 100000) (hw : ∀ r, r ∈ rws → r.1.2.length = nn) (hg : gl.1.2.length = nn) : WC Try.prog T E0 Try.f35.ntmps (codeOf Try.f35) (argsEnv 0 [.v (.int .i64 (nn : Int)), .sl kr (rws.map rwc), .agg (rwc gl)]) (nrm H) n0 (fun x e' h' n' => (x = .normal ∨ x = .ret) ∧ ∃ ls', resE e' T h' Try.f35.results.toList = some ls' ∧ (∃ L : Lay, resultLV ls' = .ptr L.q 0 ∧ TM ⟨(83), (3), (41), (46)⟩ h' n' L (.sl kr (rws.map rwc)) (opX nn rws gl.1.2 gl.2.1) ∧ (∀ j, j < 5 + rws.length → n0 ≤ L.id j) ∧ n0 ≤ n' ∧ ∀ r o, r < n0 → getH H r = some o → getH h' r = some o)) := by
 change WC _ _ _ _ _ [(0, .v (.int .i64 (nn : Int))), (1, .sl kr (rws.map rwc)), (2, .agg (rwc gl))] _ _ _
 have hgne : gl.1.2 ≠ [] := cG (show 0 < gl.1.2.length by omega)
 refine Ck [0,1,2] J <| Rg 2 J <| bK (gF J J) J <| Ua J J <| Nk [0,1,5] J <| Rg 11 J <| Um J J <| Um J J <| aA (aV J J J J J) J <| aA (aH (l := lvX gl.2.1) J J g0 J J) J <| aA (aO (b := .sl 2 [xc gl.2.1]) (eV (cs := [_, _, _, _]) (rows := [[_, _, _, _]]) J J (by decide) J J J) J) J <| aA (aV J J J J J) J <| aA (aH (l := .sl gl.1.1 (gl.1.2.map xc)) J J g0 J J) J <| bK (oApS1 (te := ti46) (f := xc) (u := gl.2.1) (us := gl.1.2) J J J J J (fun _ => rfl) (by decide) hgne (by show (2 * (gl.1.2.length + 1) + 256) * 64 ≤ _; omega) om) J <| aA (iF (cs := [_, _, _, _, _, _]) J J J J J) J <| bK (gF J J) J <| Ua J J <| Nk [0,1,7] J <| aB <| Rg 2 J <| Um J J <| Um J J ?_
 refine Nk [0,1,7,21,22] J <| aI <| bI (α := Nat × Nat × Hp) (fun ⟨i, qo, hh⟩ => [(0, .v (.int .i64 (nn : Int))), (1, .sl kr (rws.map rwc)), (7, .ptr (n0 + 2 + 9) 0), (21, .v (.int .i64 (nn : Int))), (22, .v (.int .i64 (i : Int)))]) (fun ⟨i, qo, hh⟩ => nrm hh) (fun ⟨i, qo, hh⟩ n => i ≤ nn ∧ qo < n ∧ n0 + 11 < qo ∧ getH hh (n0 + 2 + 9) = some { cells := [.v (.int .i64 (nn : Int)), .sl kr (rws.map rwc), .sl 0 [], outV qo 1 ((tab i fun k => (k : Int)).map ic), .sl 0 [], .ref (n0 + 2 + 7) 4 0 (gl.2.1 :: gl.1.2).length], sz := 6, elem := (83), st := 0 } ∧ ((tab i fun k => (k : Int)) ≠ [] → getH hh qo = some { cells := ((tab i fun k => (k : Int)).map ic).flatten, sz := 1, elem := (3), st := 0 }) ∧ getH hh (n0 + 2 + 7) = some { cells := ((gl.2.1 :: gl.1.2).map xc).flatten, sz := 4, elem := (46), st := 0 } ∧ (∀ r o, r < n0 → getH H r = some o → getH hh r = some o) ∧ n0 + 15 ≤ n) (fun ⟨i, qo, hh⟩ => nn - i) (0, n0 + 12, _) ⟨J, J, J, J, J, trivial⟩ (aR fun _ _ h => h) ⟨Nat.zero_le _, om, om, g0, fun h => absurd J h, (by repeat (first | exact g0 | exact nrm_get.trans J | refine g1 om ?_)), fun r o hr h => (by repeat (first | exact g0 | exact nrm_get.trans h | refine g1 om ?_)), om⟩ ?_
 rintro ⟨i, qo, hh⟩ n hF
 change WC _ _ _ _ _ [(0, .v (.int .i64 (nn : Int))), (1, .sl kr (rws.map rwc)), (7, .ptr (n0 + 2 + 9) 0), (21, .v (.int .i64 (nn : Int))), (22, .v (.int .i64 (i : Int)))] (nrm hh) n _
 obtain ⟨hi, ho1, ho2, hgt, hgo, hgg, hke, hnn⟩ := hF
 refine Rg 1 J <| aA (bX J J) J <| bL (fun h23 => ?_) (fun h23 => ?_)
 ·refine Nk [0,1,7,21,22,23] J <| bF J <| aG <| aI <| Rg 2 J <| Um J J <| Ua J J <| Nk [0,1,7,8,21,22] J <| aL (z := 11) J <| Um J J <| Um J J <| aA (cO J) J <| aA (aV J J J J J) J <| aA (aH (l := outV qo 1 ((tab i fun k => (k : Int)).map ic)) J J (nrm_get.trans hgt) J J) J <| Um J J <| aA (eV (cs := [_]) (rows := [[_]]) J J (by decide) J J J) J <| WO.apX (te := ti3) (f := ic) (q := qo) (us := (tab i fun k => (k : Int))) (u := (i : Int)) J J J J J (fun _ => rfl) (by decide) (by show (2 * ((tab i _).length + 1) + 256) * 8 ≤ _; rw [aX]; omega) (by rw [aX]; omega) (fun h => nrm_get.trans (hgo h)) J ?_
  intro hX1 hn1 hk1
  refine aA (cO J) J <| aA (aV J J J J J) J <| bG (cV (cs' := [_, _, _, _, _, _]) J J J (hk1 _ _ om (fun _ => by omega) (nrm_get.trans hgt)) J J J J) <| Wn <| aE <| Ck [0,1,7,21,22] J <| aL (z := 2) J <| aA (cI (((i + 1 : Nat) : Int)) (aU J J om) om) J <| Um J J <| Wn <| aF <| ⟨⟨i + 1, n + 1 + 2 + 7, _⟩, ⟨J, J, J, J, J, trivial⟩, aR fun _ _ h => h, ⟨om, om, om, by rw [eQ, fK]; exact g0, fun _ => by rw [eQ]; exact g1 om hn1, g1 om (hk1 _ _ om (fun _ => by omega) (nrm_get.trans hgg)), fun r o hr h => g1 om (hk1 _ _ om (fun _ => by omega) (nrm_get.trans (hke r o hr h))), om⟩, by show nn - (i + 1) < nn - i; omega⟩
 refine Nk [0,1,7,21,22,23] J <| bC J <| bB <| aW <| aQ J <| Ck [0,1,7] J <| aB <| Rg 3 J <| Um J J <| aA (bO J J) J <| Um J J <| Nk [0,7,36,37,38] J <| aI ?_
 obtain ⟨n1, hn1⟩ : ∃ k, k = n := ⟨n, rfl⟩
 obtain rfl : nn = i := by omega
 refine bI (α := Nat × Nat × Nat × (Nat → Nat) × Hp) (fun ⟨i, qb, qc, a, hh⟩ => [(0, .v (.int .i64 (nn : Int))), (7, .ptr (n0 + 2 + 9) 0), (36, .sl kr (rws.map rwc)), (37, .v (.int .i64 (rws.length : Int))), (38, .v (.int .i64 (i : Int)))]) (fun ⟨i, qb, qc, a, hh⟩ => nrm hh) (fun ⟨i, qb, qc, a, hh⟩ n => i ≤ rws.length ∧ n1 ≤ qb ∧ qb < n ∧ n1 ≤ qc ∧ qc < n ∧ qb ≠ qc ∧ (∀ j, j < i → n1 ≤ a j ∧ a j < n ∧ a j ≠ qb ∧ a j ≠ qc) ∧ (∀ j k, j < i → k < i → a j = a k → j = k) ∧ getH hh (n0 + 2 + 9) = some { cells := [.v (.int .i64 (nn : Int)), .sl kr (rws.map rwc), outV qb 1 ((tab i fun k => ((nn + k : Nat) : Int)).map ic), outV qo 1 ((tab nn fun k => (k : Int)).map ic), outV qc 1 ((tab i fun j => (a j, nn + 1)).map rfc), .ref (n0 + 2 + 7) 4 0 (gl.2.1 :: gl.1.2).length], sz := 6, elem := (83), st := 0 } ∧ ((tab i fun k => ((nn + k : Nat) : Int)) ≠ [] → getH hh qb = some { cells := ((tab i fun k => ((nn + k : Nat) : Int)).map ic).flatten, sz := 1, elem := (3), st := 0 }) ∧ ((tab i fun j => (a j, nn + 1)) ≠ [] → getH hh qc = some { cells := ((tab i fun j => (a j, nn + 1)).map rfc).flatten, sz := 1, elem := (41), st := 0 }) ∧ (∀ j, j < i → getH hh (a j) = some { cells := (((rws.getD j default).2.1 :: (rws.getD j default).1.2).map xc).flatten, sz := 4, elem := (46), st := 0 }) ∧ ((tab nn fun k => (k : Int)) ≠ [] → getH hh qo = some { cells := ((tab nn fun k => (k : Int)).map ic).flatten, sz := 1, elem := (3), st := 0 }) ∧ getH hh (n0 + 2 + 7) = some { cells := ((gl.2.1 :: gl.1.2).map xc).flatten, sz := 4, elem := (46), st := 0 } ∧ (∀ r o, r < n0 → getH H r = some o → getH hh r = some o) ∧ n1 + 3 ≤ n) (fun ⟨i, qb, qc, a, hh⟩ => rws.length - i) (0, n, n + 1, (fun _ => 0), _) ⟨J, J, J, J, J, trivial⟩ (aR fun _ _ h => h) ⟨Nat.zero_le _, om, om, om, om, om, fun j hj => absurd hj om, fun j k hj => absurd hj om, nrm_get.trans hgt, fun h => absurd J h, fun h => absurd J h, fun j hj => absurd hj om, fun h => nrm_get.trans (hgo h), nrm_get.trans hgg, fun r o hr h => nrm_get.trans (hke r o hr h), om⟩ ?_
 rintro ⟨i, qb, qc, a, hh⟩ n hF
 change WC _ _ _ _ _ [(0, .v (.int .i64 (nn : Int))), (7, .ptr (n0 + 2 + 9) 0), (36, .sl kr (rws.map rwc)), (37, .v (.int .i64 (rws.length : Int))), (38, .v (.int .i64 (i : Int)))] (nrm hh) n _
 obtain ⟨hi, b1, b2, c1, c2, hbc, ha, hin, hgt, hgb, hgc, hgr, hgo, hgg, hke, hnn⟩ := hF
 refine Rg 1 J <| aA (bX J J) J <| bL (fun h39 => ?_) (fun h39 => ?_)
 rotate_left
 ·refine Nk [0,7,36,37,38,39] J <| bC J <| bB <| aW <| aQ J <| Ck [7] J <| Rg 2 J <| Um J J <| Ua J J <| Nk [6] J <| aP ?_
  obtain rfl : i = rws.length := by omega
  have hcl : rwsT ⟨n0 + 2 + 9, qb, qo, qc, n0 + 2 + 7, a⟩ (opX nn rws gl.1.2 gl.2.1).cells = (tab rws.length fun j => (a j, nn + 1)) := by
   unfold rwsT
   show tab (rws.map _).length _ = _
   rw [List.length_map]
   refine cW fun j hj => ?_
   show (a j, ((rws.map _).getD j []).length) = _
   rw [gmapN _ hj, List.length_cons, hw _ (bN hj)]
  refine ⟨.inr J, _, rfl, ⟨n0 + 2 + 9, qb, qo, qc, n0 + 2 + 7, a⟩, rfl, ⟨?_, fun hb => nrm_get.trans (hgb hb), fun hb => nrm_get.trans (hgo hb), fun hb => ?_, fun j hj => ?_, nrm_get.trans hgg, ?_, ?_⟩, ?_, om, fun r o hr h => nrm_get.trans (hke r o hr h)⟩
  ·unfold tbC; rw [hcl]; exact nrm_get.trans hgt
  ·rw [hcl]
   exact nrm_get.trans (hgc fun e => hb (by
    have := congrArg List.length e
    rw [aX] at this
    exact List.eq_nil_of_length_eq_zero (by show (rws.map _).length = 0; rw [List.length_map]; exact this)))
  ·have hj' : j < rws.length := by simpa [opX] using hj
   show getH _ (a j) = some (obX _ ((rws.map _).getD j []))
   rw [gmapN _ hj']; exact nrm_get.trans (hgr j hj')
  ·have hm' : (opX nn rws gl.1.2 gl.2.1).cells.length = rws.length := List.length_map ..
   rw [hm']
   exact fun j hj => Nat.lt_of_lt_of_le (Lay.all_of (L := ⟨n0 + 2 + 9, qb, qo, qc, n0 + 2 + 7, a⟩) (m := rws.length) (p := (· < n)) ⟨by show n0 + 2 + 9 < n; omega, by show qb < n; omega, by show qo < n; omega, by show qc < n; omega, by show n0 + 2 + 7 < n; omega⟩ (fun j hj => (ha j hj).2.1) j hj) om
  ·have hm' : (opX nn rws gl.1.2 gl.2.1).cells.length = rws.length := List.length_map ..
   rw [hm']
   exact Lay.inj_of (by dsimp only; omega) (by dsimp only; omega) (by dsimp only; omega) (fun j hj => by have := ha j hj; dsimp only; omega) hin
  ·exact Lay.all_of (p := (n0 ≤ ·)) (by dsimp only; omega) fun j hj => by have := ha j hj; show n0 ≤ a j; omega
 refine Nk [0,7,36,37,38,39] J <| bF J <| aG <| aI ?_
 have hil : i < rws.length := by omega
 have hwi : (rws.getD i default).1.2.length = nn := hw _ (bN (us := rws) (i := i) hil)
 have hine : (rws.getD i default).1.2 ≠ [] := cG (show 0 < (rws.getD i default).1.2.length by omega)
 refine Rg 6 J <| Um J J <| aA (cZ (us := rws) (f := rwc) (j := i) J J J J J om J) J <| aA (gC (l := .agg (rwc (rws.getD i default))) J J J) J <| bK (gE J) J <| Ua J J <| bG (cV (cs' := rwc (rws.getD i default)) J J J g0 J J J J) <| Nk [0,7,9,10,36,37,38] J <| Rg 13 J <| Um J J <| Um J J <| aA (cO J) J <| aA (aV J J J J J) J <| aA (aH (l := outV qb 1 ((tab i fun k => ((nn + k : Nat) : Int)).map ic)) J J (by repeat (first | exact g0 | exact nrm_get.trans hgt | refine g1 om ?_)) J J) J ?_
 refine Um J J <| Um J J <| aA (cI (((nn + i : Nat) : Int)) (aU J J om) om) J <| aA (eV (cs := [_]) (rows := [[_]]) J J (by decide) J J J) J <| WO.apX (te := ti3) (f := ic) (q := qb) (us := (tab i fun k => ((nn + k : Nat) : Int))) (u := ((nn + i : Nat) : Int)) J J J J J (fun _ => rfl) (by decide) (by show (2 * ((tab i _).length + 1) + 256) * 8 ≤ _; rw [aX]; omega) (by rw [aX]; omega) (fun h => (by repeat (first | exact g0 | exact nrm_get.trans (hgb h) | refine g1 om ?_))) J ?_
 intro hX1 hn1 hk1
 refine aA (cO J) J <| aA (aV J J J J J) J <| bG (cV (cs' := [_, _, _, _, _, _]) J J J (hk1 _ _ om (fun _ => by omega) (by repeat (first | exact g0 | exact nrm_get.trans hgt | refine g1 om ?_))) J J J J) ?_
 refine Nk [0,7,10,36,37,38] J <| dC (z := 16) J kR <| Dm J J <| Dm J J <| aC (cO J) J <| aC (aV J J J J J) J <| aC (aH (l := outV qc 1 ((tab i fun j => (a j, nn + 1)).map rfc)) J J g0 J J) J <| aC (aV J J J J J) J <| aC (aH (l := lvX (rws.getD i default).2.1) J J (g1 om (hk1 _ _ om (fun _ => by omega) g0)) J J) J <| aC (aO (b := .sl 2 [xc (rws.getD i default).2.1]) (eV (cs := [_, _, _, _]) (rows := [[_, _, _, _]]) J J (by decide) J J J) J) J <| aC (aV J J J J J) J <| aC (aH (l := .sl (rws.getD i default).1.1 ((rws.getD i default).1.2.map xc)) J J (g1 om (hk1 _ _ om (fun _ => by omega) g0)) J J) J <| WD.S (aO (b := .ref (n + 1 + 6 + 13 + 10) 4 0 (nn + 1)) (oApS1 (te := ti46) (f := xc) (u := (rws.getD i default).2.1) (us := (rws.getD i default).1.2) J J J J J (fun _ => rfl) (by decide) hine (by show (2 * ((rws.getD i default).1.2.length + 1) + 256) * 64 ≤ _; omega) om) (by rw [List.length_cons, hwi]; rfl)) J <| aC (eV (cs := [_]) (rows := [[_]]) J J (by decide) J J J) J <| oB (te := ti41) (f := rfc) (q := qc) (us := (tab i fun j => (a j, nn + 1))) (u := ((n + 1 + 6 + 13 + 10), nn + 1)) J J J J J (fun _ => rfl) (by decide) (by show (2 * ((tab i _).length + 1) + 256) * 24 ≤ _; rw [aX]; omega) (by rw [aX]; omega) (fun h => g1 om (g1 om (hk1 _ _ om (fun _ => by omega) (by repeat (first | exact g0 | exact nrm_get.trans (hgc h) | refine g1 om ?_))))) J ?_
 intro hX2 hn2 hk2
 refine aC (cO J) J <| aC (aV J J J J J) J <| cN (cV (cs' := [_, _, _, _, _, _]) J J J (hk2 _ _ om (fun _ => by omega) (g1 om g0)) J J J J) <| bJ (dU (rn n) (by simp only [List.reverse_cons, List.reverse_nil, List.nil_append, List.cons_append, List.map_cons, List.map_nil, ren, keys, Nat.add_assoc, jF, kX (show n0 + (2 + 9) < n by omega), kX (show qc < n by omega)]; kernel_rfl)) J <| aE <| Ck [0,7,36,37,38] J <| aL (z := 2) J <| aA (cI (((i + 1 : Nat) : Int)) (aU J J om) om) J <| Um J J <| Wn <| aF ?_
 have ea : (tab (i + 1) fun j => ((fun j => if j = i then (n + 1 + 6 + 13 + 10) else a j) j, nn + 1)) = (tab i fun j => (a j, nn + 1)) ++ [((n + 1 + 6 + 13 + 10), nn + 1)] := by
  rw [eQ]
  refine congr (congrArg _ (cW fun j hj => ?_)) (congrArg (fun z => [(z, nn + 1)]) (if_pos J))
  show ((if j = i then _ else a j), nn + 1) = _
  rw [if_neg om]
 refine ⟨⟨i + 1, n + 1 + 6 + 9, (n + 1 + 6 + 13 + 12), (fun j => if j = i then (n + 1 + 6 + 13 + 10) else a j), _⟩, ⟨J, J, J, J, J, trivial⟩, aR fun _ _ h => h, ⟨om, om, om, om, om, om, fun j hj => ?_, fun j k hj hk => ?_, by rw [ea, eQ, fK, fK]; exact g0, fun _ => ?_, fun _ => ?_, fun j hj => ?_, fun h => ?_, ?_, fun r o hr h => ?_, om⟩, by show rws.length - (i + 1) < rws.length - i; omega⟩
 ·show n1 ≤ (if j = i then _ else a j) ∧ (if j = i then _ else a j) < _ ∧ (if j = i then _ else a j) ≠ _ ∧ (if j = i then _ else a j) ≠ _
  by_cases e : j = i
  ·rw [if_pos e]; omega
  ·rw [if_neg e]; have := ha j om; omega
 ·change (if j = i then _ else a j) = (if k = i then _ else a k) → j = k
  by_cases e1 : j = i <;> by_cases e2 : k = i
  ·omega
  ·rw [if_pos e1, if_neg e2]; have := ha k om; omega
  ·rw [if_neg e1, if_pos e2]; have := ha j om; omega
  ·rw [if_neg e1, if_neg e2]; exact hin j k om om
 ·rw [eQ]; exact g1 om (hk2 _ _ om (fun _ => by omega) (g1 om (g1 om hn1)))
 ·rw [ea]; exact g1 om hn2
 ·show getH _ (if j = i then _ else a j) = _
  by_cases e : j = i
  ·subst e; rw [if_pos rfl]; exact g1 om (hk2 _ _ om (fun _ => by omega) g0)
  ·rw [if_neg e]; have := ha j om; exact (g1 om (hk2 _ _ om (fun _ => by omega) (g1 om (g1 om (hk1 _ _ om (fun _ => by omega) (by repeat (first | exact g0 | exact nrm_get.trans (hgr j om) | refine g1 om ?_)))))))
 ·exact (g1 om (hk2 _ _ om (fun _ => by omega) (g1 om (g1 om (hk1 _ _ om (fun _ => by omega) (by repeat (first | exact g0 | exact nrm_get.trans (hgo h) | refine g1 om ?_)))))))
 ·exact (g1 om (hk2 _ _ om (fun _ => by omega) (g1 om (g1 om (hk1 _ _ om (fun _ => by omega) (by repeat (first | exact g0 | exact nrm_get.trans hgg | refine g1 om ?_)))))))
 ·exact (g1 om (hk2 _ _ om (fun _ => by omega) (g1 om (g1 om (hk1 _ _ om (fun _ => by omega) (by repeat (first | exact g0 | exact nrm_get.trans (hke r o hr h) | refine g1 om ?_)))))))
end Go.Proofs.Ytohfklpfeilcpaa
namespace Go.Proofs.Ytohfklpfeilcpaa
open Go.Ab Go.RowKit
theorem sidT_G (n0 : Nat) (H : Hp) (n : Nat) (L : Lay) (kr : Nat) (rws : List RW) (t : TX) (v : Int) (q : Nat) (hq : L.q = q) (hM : TM ⟨(83), (3), (41), (46)⟩ H n L (.sl kr (rws.map rwc)) t) (he : t.eqs = rws.map (·.2.2)) (hOk : t.tb.Ok) (hv : -1 ≤ v ∧ v ≤ 1000000) : WC Try.prog T E0 Try.f68.ntmps (codeOf Try.f68) (argsEnv 0 [.ptr q 0, .v (.int .i64 v)]) (nrm H) n0 (fun x e' h' n' => (x = .normal ∨ x = .ret) ∧ ∃ ls', resE e' T h' Try.f68.results.toList = some ls' ∧ (resultLV ls' = .v (.bool (t.tb.sd v)) ∧ n0 ≤ n' ∧ h' = nrm H)) := by
 subst hq
 have hr1 : rws.length ≤ 100000 := by have := hOk.el; rw [show t.tb.eqs = t.eqs from rfl, he, List.length_map] at this; exact this
 exact (sid_G n0 L.q H t.n kr rws _ _ _ _ v hM.tb hOk.nl hr1 hv).mono (by rintro x e h m ⟨hx, ls, hr, h1, h2, h3⟩; exact ⟨hx, ls, hr, h1.trans (congrArg (fun z => LV.v (.bool z)) (sd_eq he v)), h2, h3⟩)
theorem fre_G (n0 : Nat) (H : Hp) (L : Lay) (kr : Nat) (rws : List RW) (t : TX) (β : Nat) (hM : TM ⟨(83), (3), (41), (46)⟩ H n0 L (.sl kr (rws.map rwc)) t) (hev : t.eqs = rws.map (·.2.2)) (hOk : t.tb.Ok) (hB : ∀ k, k ≤ t.out.length → (t.tb.frs k).Bds β) (hm1 : 1 ≤ t.cells.length) (ho1 : 1 ≤ t.out.length) (h1 : 1 ≤ β) (hβ : β ≤ 400000000) : WC Try.prog T E0 Try.f37.ntmps (codeOf Try.f37) (argsEnv 0 [.ptr L.q 0]) (nrm H) n0 (fun x e' h' n' => (x = .normal ∨ x = .ret) ∧ ∃ ls', resE e' T h' Try.f37.results.toList = some ls' ∧ (∃ (L' : Lay) (t' : TX), TM ⟨(83), (3), (41), (46)⟩ h' n' L' (.sl kr (rws.map rwc)) t' ∧ t'.tb = t.tb.frs t.out.length ∧ t'.n = t.n ∧ t'.eqs = t.eqs ∧ t'.cells.length = t.cells.length ∧ t'.out.length = t.out.length ∧ t'.tb.Ok ∧ Mvd n0 n' t.cells.length L L' H h')) := by
 change WC _ _ _ _ _ [(0, .ptr L.q 0)] _ _ _
 have hol : t.out.length ≤ 100000 := hOk.ol
 have hgt0 : getH (nrm H) L.q = some { cells := tbC L (.sl kr (rws.map rwc)) t, sz := 6, elem := (83), st := 0 } := nrm_get.trans hM.tb
 have hone : t.out ≠ [] := cG (show 0 < t.out.length by omega)
 refine Ck [0] J <| Rg 6 J <| Um J J <| aA (cO J) J <| aA (aV J J J J J) J <| aA (aH (l := .ref L.o 1 0 t.out.length) J J hgt0 J (congrArg some (fE hone))) J <| aA (gR J J) J <| Um J J <| Nk [0,9,10] J <| dM <| bI (α := Nat × Lay × TX × Hp) (fun ⟨k, L', t', hh⟩ => [(0, .ptr L.q 0), (9, .v (.int .i64 (t.out.length : Int))), (10, .v (.int .i64 (k : Int)))]) (fun ⟨k, L', t', hh⟩ => nrm hh) (fun ⟨k, L', t', hh⟩ n => k ≤ t.out.length ∧ TM ⟨(83), (3), (41), (46)⟩ hh n L' (.sl kr (rws.map rwc)) t' ∧ t'.tb = t.tb.frs k ∧ t'.tb.Ok ∧ t'.n = t.n ∧ t'.eqs = t.eqs ∧ t'.cells.length = t.cells.length ∧ t'.out.length = t.out.length ∧ Mvd n0 n t.cells.length L L' H hh) (fun ⟨k, L', t', hh⟩ => t.out.length - k) (0, L, t, _) ⟨J, J, J, trivial⟩ (aR fun _ _ h => nrm_get.trans h) ⟨Nat.zero_le _, hM.mono om (fun _ _ _ h => h), rfl, hOk, rfl, rfl, rfl, rfl, Mvd.refl.le' om⟩ ?_
 rintro ⟨k, L', t', hh⟩ n hF
 change WC _ _ _ _ _ [(0, .ptr L.q 0), (9, .v (.int .i64 (t.out.length : Int))), (10, .v (.int .i64 (k : Int)))] (nrm hh) n _
 obtain ⟨hk, hM', htb, hOk', hn', he', hc', ho', hmv⟩ := hF
 have hqe : L'.q = L.q := hmv.qe
 have hgt : getH hh L.q = some { cells := tbC L' (.sl kr (rws.map rwc)) t', sz := 6, elem := (83), st := 0 } := by rw [← hqe]; exact hM'.tb
 have hbl : t'.basic.length = t'.cells.length := hOk'.xb
 have hml := hOk'.xm
 refine Rg 1 J <| aA (bX J J) J <| bL (fun h11 => ?_) (fun h11 => ?_)
 rotate_left
 ·refine Nk [0,9,10,11] J <| bC J <| bB <| aW <| gM J ?_
  obtain rfl : k = t.out.length := by omega
  exact ⟨.inl J, _, rfl, L', t', hM'.mono om (fun _ _ _ h => nrm_get.trans h), htb, hn', he', hc', ho', hOk', hmv.nrm om⟩
 refine Nk [0,9,10,11] J <| bF J <| aG <| aI <| Rg 2 J <| Um J J <| Ua J J <| Nk [0,2,9,10] J <| aB ?_
 have hkl : k < t'.out.length := by omega
 have hgo : getH hh L'.o = some { cells := (t'.out.map ic).flatten, sz := 1, elem := (3), st := 0 } := hM'.ou (cG hkl)
 refine bS (z := 12) J kR <| Dm J J <| aC (cO J) J <| aC (aV J J J J J) J <| aC (aH (l := .ref L'.o 1 0 t'.out.length) J J (nrm_get.trans hgt) J (congrArg some (fE (cG hkl)))) J <| Dm J J <| aC (bV (j := k) J J J J om om J) J <| aC (aO (b := .v (.int .i64 (t'.out.getD k default))) (dP (f := ic) (us := t'.out) (j := k) J J (nrm_get.trans hgo) (fun _ => rfl) J (by decide) om J) J) J <| Dm J J <| aC (cO J) J <| aC (aV J J J J J) J <| aC (aO (b := .v (.int .i64 (t.n : Int))) (aH (l := .v (.int .i64 (t'.n : Int))) J J (nrm_get.trans hgt) J J) (by rw [hn'])) J <| aC (iT J J) J <| kS (fun h24 => ?_) (fun h24 => ?_)
 ·refine bJ (aT kR) J <| Ck [0,2,9,10,24] J <| bF J <| bB <| aQ J <| Ck [0,9,10] J <| aL (z := 2) J <| aA (cI (((k + 1 : Nat) : Int)) (aU J J om) om) J <| Um J J <| Wn <| aF <| ⟨⟨k + 1, L', t', _⟩, ⟨J, J, J, trivial⟩, aR fun _ _ h => nrm_get.trans h, ⟨om, hM'.mono om (fun _ _ _ h => h), htb.trans (Tb.frs_skip (by rw [← htb]; show (t.n : Int) ≤ (t'.out.getD k default); omega)).symm, hOk', hn', he', hc', ho', hmv.le' om⟩, by show t.out.length - (k + 1) < t.out.length - k; omega⟩
 refine bJ (aT kR) J <| Ck [0,2,9,10,24] J <| bC J <| aG ?_
 have hbne : t'.basic ≠ [] := cG (show 0 < t'.basic.length by omega)
 have hgb : getH hh L'.b = some { cells := (t'.basic.map ic).flatten, sz := 1, elem := (3), st := 0 } := hM'.bs hbne
 have hgc := hM'.cl (cG (show 0 < t'.cells.length by omega))
 refine Rg 6 J <| Um J J <| aA (cO J) J <| aA (aV J J J J J) J <| aA (aH (l := .ref L'.b 1 0 t'.basic.length) J J (nrm_get.trans hgt) J (congrArg some (fE hbne))) J <| aA (gR J J) J <| Um J J <| Nk [0,2,9,10,28,29,30] J <| dM ?_
 obtain ⟨no, hno⟩ : ∃ z, z = n := ⟨n, rfl⟩
 refine bI (α := Nat) (fun i => [(0, .ptr L.q 0), (2, .v (.int .i64 (k : Int))), (9, .v (.int .i64 (t.out.length : Int))), (10, .v (.int .i64 (k : Int))), (28, .ref L'.b 1 0 t'.basic.length), (29, .v (.int .i64 (t'.basic.length : Int))), (30, .v (.int .i64 (i : Int)))]) (fun i => nrm hh) (fun i n => i ≤ t'.basic.length ∧ no ≤ n ∧ t'.tb.fr1 k t'.basic.length 0 = t'.tb.fr1 k (t'.basic.length - i) i) (fun i => t'.basic.length - i) (0) ⟨J, J, J, J, J, J, J, trivial⟩ (aR fun _ _ h => nrm_get.trans h) ⟨Nat.zero_le _, om, rfl⟩ ?_
 rintro i n hF
 change WC _ _ _ _ _ [(0, .ptr L.q 0), (2, .v (.int .i64 (k : Int))), (9, .v (.int .i64 (t.out.length : Int))), (10, .v (.int .i64 (k : Int))), (28, .ref L'.b 1 0 t'.basic.length), (29, .v (.int .i64 (t'.basic.length : Int))), (30, .v (.int .i64 (i : Int)))] (nrm hh) n _
 obtain ⟨hi, hnno, hfr⟩ := hF
 refine Rg 1 J <| aA (bX J J) J <| bL (fun h31 => ?_) (fun h31 => ?_)
 rotate_left
 ·refine Nk [0,2,9,10,28,29,30,31] J <| bC J <| bB <| aW <| gM J <| aE <| Ck [0,9,10] J <| aL (z := 2) J <| aA (cI (((k + 1 : Nat) : Int)) (aU J J om) om) J <| Um J J <| Wn <| aF <| ⟨⟨k + 1, L', t', _⟩, ⟨J, J, J, trivial⟩, aR fun _ _ h => nrm_get.trans h, ⟨om, hM'.mono om (fun _ _ _ h => h), ?_, hOk', hn', he', hc', ho', hmv.le' om⟩, by show t.out.length - (k + 1) < t.out.length - k; omega⟩
  rw [Tb.frs_do (by rw [← htb]; show ¬ (t.n : Int) ≤ (t'.out.getD k default); omega), ← htb]
  show _ = t'.tb.fr1 k t'.basic.length 0
  rw [hfr, show t'.basic.length - i = 0 by omega]; rfl
 refine Nk [0,2,9,10,28,29,30,31] J <| bF J <| aG <| aI ?_
 have hil : i < t'.cells.length := by omega
 have hrl : (t'.cells.getD i []).length = t'.out.length + 1 := hOk'.xl hil
 have hgr := hM'.rw i hil
 refine Rg 5 J <| Um J J <| aA (bV (j := i) J J J J om om J) J <| aA (aO (b := .v (.int .i64 (t'.basic.getD i default))) (dP (f := ic) (us := t'.basic) (j := i) J J (nrm_get.trans hgb) (fun _ => rfl) J (by decide) om J) J) J <| Ua J J <| Ua J J <| Nk [0,2,3,4,9,10,28,29,30] J <| dT (z := 18) J <| cX (dQ J) J <| cX (dQ J) J <| kT (ls := [.ptr L.q 0, .v (.int .i64 (t'.basic.getD i default))]) (Φ := fun r h' n' => r = .v (.bool (t'.tb.sd (t'.basic.getD i default))) ∧ n ≤ n' ∧ h' = nrm hh) J Try.func68 J J (dK J) J ((sidT_G _ hh _ L' kr rws t' (t'.basic.getD i default) L.q hqe hM' (he'.trans hev) hOk' (hOk'.br _ (bN (us := t'.basic) (i := i) om))).mono (by rintro x e h m ⟨hx, ls, hr, h1, h2, h3⟩; exact ⟨hx, ls, hr, h1, om, h3⟩)) ?_
 rintro r_ h' n1 ⟨rfl, hn1, rfl⟩
 refine jM <| fN (fun h37 => ?_) (fun h37 => ?_)
 rotate_left
 ·refine Um J J <| K1 J J <| K1 J J <| K1 J J <| K1 J J <| K1 J J <| K1 J J <| K1 J J <| K1 J J <| K1 J J <| K1 J J <| K1 J J <| K1 J J <| K1 J J <| aA (bU J J) J <| Nk [0,2,3,9,10,28,29,30,39,40,41,42,43,44,45,46,47,48,49,50,51,52] J <| cD J <| cE <| aE <| Ck [0,2,9,10,28,29,30,39,40,41,42,43,44,45,46,47,48,49,50,51] J <| aL (z := 2) J <| aA (cI (((i + 1 : Nat) : Int)) (aU J J om) om) J <| Um J J ?_
  refine Wn <| aF <| ⟨i + 1, ⟨J, J, J, J, J, J, J, trivial⟩, aR fun _ _ h => nrm_get.trans h, ⟨om, om, ?_⟩, by show t'.basic.length - (i + 1) < t'.basic.length - i; omega⟩
  rw [hfr, show t'.basic.length - i = (t'.basic.length - (i + 1)) + 1 by omega]
  refine Tb.fr1_miss fun ⟨e1, e2⟩ => ?_
  rw [cellX] at e2
  first | exact e2 (gQ.1 om) | (change t'.tb.sd (t'.basic.getD i default) = true at e1; rw [h37] at e1; cases e1)
 refine Um J J <| aM J (dQ J) J <| aM J (cO J) J <| aM J (aV J J J J J) J <| aM J (aH (l := .ref L'.c 1 0 t'.cells.length) J J (nrm_get.trans hgt) J (congrArg some (gY (cG hil)))) J <| aM J (dQ J) J <| aM J (bV (j := i) J J J J om om J) J <| aM J (aO (b := .ref (L'.a i) 4 0 (t'.cells.getD i []).length) (dP (f := rfc) (us := rwsT L' t'.cells) (j := i) J J (nrm_get.trans hgc) (fun _ => rfl) J (by decide) (by rw [eY]; omega) J) (by rw [iH hil])) J <| aM J (dQ J) J <| aM J (cI (((k + 1 : Nat) : Int)) (aU J J om) om) J <| aM J (bV (j := k + 1) J J J J om om J) J <| aM J (aO (b := lvX ((t'.cells.getD i []).getD (k + 1) default)) (dP (f := xc) (us := (t'.cells.getD i [])) (j := k + 1) J J (nrm_get.trans hgr) (fun _ => rfl) J (by decide) om J) J) J <| aM J (aJ J (eP ((t'.cells.getD i []).getD (k + 1) default)) dD) J <| aM J (lD J J) J <| bL (fun h51 => ?_) (fun h51 => ?_)
 rotate_left
 ·refine aA (bT J J) J <| Nk [0,2,3,9,10,28,29,30,39,40,41,42,43,44,45,46,47,48,49,50,51,52] J <| cD J <| cE <| aE <| Ck [0,2,9,10,28,29,30,39,40,41,42,43,44,45,46,47,48,49,50,51] J <| aL (z := 2) J <| aA (cI (((i + 1 : Nat) : Int)) (aU J J om) om) J <| Um J J <| Wn <| aF <| ⟨i + 1, ⟨J, J, J, J, J, J, J, trivial⟩, aR fun _ _ h => nrm_get.trans h, ⟨om, om, ?_⟩, by show t'.basic.length - (i + 1) < t'.basic.length - i; omega⟩
  rw [hfr, show t'.basic.length - i = (t'.basic.length - (i + 1)) + 1 by omega]
  refine Tb.fr1_miss fun ⟨e1, e2⟩ => ?_
  rw [cellX] at e2
  first | exact e2 (gQ.1 om) | (change t'.tb.sd (t'.basic.getD i default) = true at e1; rw [h37] at e1; cases e1)
 refine aA (bT J J) J <| Nk [0,2,3,9,10,28,29,30,39,40,41,42,43,44,45,46,47,48,49,50,51,52] J <| cU J ?_
 have hne0 : ((t'.cells.getD i []).getD (k + 1) default).1 ≠ 0 := fun e => h51 (gQ.2 e)
 refine dT (z := 4) J <| cX (dQ J) J <| cX (dQ J) J <| cX (dQ J) J ?_
 have hpiv := piv_G (n1 + 4) hh L' (.sl kr (rws.map rwc)) t' i k β _ (hM'.mono om (fun _ _ _ h => h)) hOk' (by rw [htb]; exact hB k om) om om rfl hne0 h1 hβ
 rw [hqe] at hpiv
 refine kT (ls := [.ptr L.q 0, .v (.int .i64 (i : Int)), .v (.int .i64 (k : Int))]) (Φ := fun _ h' n' => (∃ (L2 : Lay) (t2 : TX), TM ⟨(83), (3), (41), (46)⟩ h' n' L2 (.sl kr (rws.map rwc)) t2 ∧ t2.tb = t'.tb.piv i k ∧ t2.n = t'.n ∧ t2.eqs = t'.eqs ∧ t2.cells.length = t'.cells.length ∧ Mvd (n1 + 4) n' t'.cells.length L' L2 hh h')) J Try.func64 J J (dK J) J (hpiv.mono (by rintro x e h m ⟨hx, ls, hr, hP⟩; exact ⟨hx, ls, hr, hP⟩)) ?_
 rintro r_ h' n2 ⟨L2, t2, hM2, htb2, hn2, he2, hc2, hmv2⟩
 refine jM <| Nk [0,9,10,39,40,41,42,43,44,45,46,47,48,49,50,51] J <| nO <| after_exitF J <| aW <| gM J <| aE <| Ck [0,9,10,39,40,41,42,43,44,45,46,47,48,49,50,51] J <| aL (z := 2) J <| aA (cI (((k + 1 : Nat) : Int)) (aU J J om) om) J <| Um J J <| Wn <| aF <| ⟨⟨k + 1, L2, t2, h'⟩, ⟨J, J, J, trivial⟩, aR fun _ _ h => h, ⟨om, hM2.mono om (fun _ _ _ h => h), ?_, ?_, hn2.trans hn', he2.trans he', hc2.trans hc', ?_, (hmv.trans (by rw [← hc']; exact hmv2.le0 om)).le' om⟩, by show t.out.length - (k + 1) < t.out.length - k; omega⟩
 ·rw [htb2, Tb.frs_do (by rw [← htb]; show ¬ (t.n : Int) ≤ (t'.out.getD k default); omega), ← htb]
  show _ = t'.tb.fr1 k t'.basic.length 0
  rw [hfr, show t'.basic.length - i = (t'.basic.length - i - 1) + 1 by omega]
  exact (Tb.fr1_hit (by exact h37) (by rw [cellX]; exact hne0)).symm
 ·rw [htb2]; exact hOk'.piv (by rw [jY]; omega) (show k < t'.out.length by omega)
 ·show t2.tb.out.length = _
  rw [htb2]; show (t'.out.set k _).length = _; rw [List.length_set]; exact ho'
end Go.Proofs.Ytohfklpfeilcpaa
namespace Go.Proofs.Ytohfklpfeilcpaa
open Go.Ab Go.RowKit
theorem feaQ_G (n0 : Nat) (H : Hp) (L : Lay) (kr : Nat) (rws : List RW) (t : TX) (hM : TM ⟨(83), (3), (41), (46)⟩ H n0 L (.sl kr (rws.map rwc)) t) (hev : t.eqs = rws.map (·.2.2)) (hOk : t.tb.Ok) (hm1 : 1 ≤ t.cells.length) (hfe : ∀ i, i < t.cells.length → t.tb.sd (t.basic.getD i default) = true → 0 ≤ ((t.cells.getD i []).getD 0 default).1.num.sign) : WC Try.prog T E0 Try.f38.ntmps (codeOf Try.f38) (argsEnv 0 [.ptr L.q 0]) (nrm H) n0 (fun x e' h' n' => (x = .normal ∨ x = .ret) ∧ ∃ ls', resE e' T h' Try.f38.results.toList = some ls' ∧ (resultLV ls' = .tup [.sl 0 [], .v (.bool true)] ∧ n0 ≤ n' ∧ ∀ r o, r < n0 → getH H r = some o → getH h' r = some o)) := by
 change WC _ _ _ _ _ [(0, .ptr L.q 0)] _ _ _
 have hgt : getH H L.q = some { cells := tbC L (.sl kr (rws.map rwc)) t, sz := 6, elem := (83), st := 0 } := hM.tb
 have hbl : t.basic.length = t.cells.length := hOk.xb
 have hml := hOk.xm
 have hLq : L.q < n0 := hM.lt 0 om
 have hbne : t.basic ≠ [] := cG (show 0 < t.basic.length by omega)
 have hLb : L.b < n0 := hM.lt 1 om
 have hLc : L.c < n0 := hM.lt 3 om
 have hgb : getH H L.b = some { cells := (t.basic.map ic).flatten, sz := 1, elem := (3), st := 0 } := hM.bs hbne
 have hgc := hM.cl (cG (show 0 < t.cells.length by omega))
 refine Ck [0] J <| Rg 3 J <| bK (gF J J) J <| Ua J J <| Ua J J <| Nk [1] J <| Rg 1 J <| Ua J J <| Nk [1,4] J <| aB <| Rg 6 J <| aA (aH (l := .ptr L.q 0) J J g0 J J) J <| aA (cO J) J <| aA (aV J J J J J) J <| aA (aH (l := .ref L.b 1 0 t.basic.length) J J (show getH _ _ = some { cells := tbC L (.sl kr (rws.map rwc)) t, sz := 6, elem := (83), st := 0 } from (by repeat (first | exact g0 | exact nrm_get.trans hgt | refine g1 om ?_))) J (congrArg some (fE hbne))) J ?_
 refine aA (gR J J) J <| Um J J <| Nk [1,4,23,24,25] J <| aI <| bI (α := Nat × Hp) (fun ⟨i, hh⟩ => [(1, .ptr n0 0), (4, .v (.int .i64 (-1))), (23, .ref L.b 1 0 t.basic.length), (24, .v (.int .i64 (t.basic.length : Int))), (25, .v (.int .i64 (i : Int)))]) (fun ⟨i, hh⟩ => nrm hh) (fun ⟨i, hh⟩ n => i ≤ t.basic.length ∧ getH hh n0 = some { cells := [.ptr L.q 0], sz := 1, elem := (77), st := 0 } ∧ (∀ r o, r < n0 → getH H r = some o → getH hh r = some o) ∧ n0 + 4 ≤ n) (fun ⟨i, hh⟩ => t.basic.length - i) (0, _) ⟨J, J, J, J, J, trivial⟩ (aR fun _ _ h => h) ⟨Nat.zero_le _, g0, fun r o hr h => (by repeat (first | exact g0 | exact nrm_get.trans h | refine g1 om ?_)), om⟩ ?_
 rintro ⟨i, hh⟩ n hF
 change WC _ _ _ _ _ [(1, .ptr n0 0), (4, .v (.int .i64 (-1))), (23, .ref L.b 1 0 t.basic.length), (24, .v (.int .i64 (t.basic.length : Int))), (25, .v (.int .i64 (i : Int)))] (nrm hh) n _
 obtain ⟨hi, hgx, hke, hnn⟩ := hF
 have hM' := hM.mono (n' := n) om (fun j o hj h => hke _ o (hM.lt j hj) h)
 refine Rg 1 J <| aA (bX J J) J <| bL (fun h26 => ?_) (fun h26 => ?_)
 rotate_left
 ·refine Nk [1,4,23,24,25,26] J <| bC J <| bB <| aW <| aQ J <| Ck [1,4] J <| aB <| Rg 2 J <| Um J J <| aA (bX J J) J <| bL (fun h75 => ?_) (fun h75 => ?_)
  rotate_left
  ·exact absurd (show (-1 : Int) < 0 by decide) h75
  refine Nk [1,4,75] J <| bF J <| aB <| Rg 2 J <| Ua J J <| Ua J J <| Nk [2,3] J <| bQ ?_
  exact ⟨.inr J, _, rfl, rfl, om, fun r o hr h => (by repeat (first | exact g0 | exact nrm_get.trans (hke r o hr h) | refine g1 om ?_))⟩
 refine Nk [1,4,23,24,25,26] J <| bF J <| aG <| aI ?_
 have hil : i < t.cells.length := by omega
 have hrl : (t.cells.getD i []).length = t.out.length + 1 := hOk.xl hil
 have hgr := hM.rw i hil
 have hLa : L.a i < n0 := hM.lt (i + 5) om
 refine Rg 5 J <| Um J J <| aA (bV (j := i) J J J J om om J) J <| aA (aO (b := .v (.int .i64 (t.basic.getD i default))) (dP (f := ic) (us := t.basic) (j := i) J J (nrm_get.trans (hke _ _ hLb hgb)) (fun _ => rfl) J (by decide) om J) J) J <| Ua J J <| Ua J J <| Nk [1,4,5,6,23,24,25] J <| jO (z := 42) J kR <| WX.U ((aH (l := .ptr L.q 0) J J (nrm_get.trans hgx) J J)) J <| WX.U (dQ J) J <| WX.G (ls := [.ptr L.q 0, .v (.int .i64 (t.basic.getD i default))]) (Φ := fun r h' n' => r = .v (.bool (t.tb.sd (t.basic.getD i default))) ∧ n ≤ n' ∧ h' = nrm hh) [] J J Try.func68 J J (dK J) J ((sidT_G _ hh _ L kr rws t (t.basic.getD i default) L.q J hM' hev hOk (hOk.br _ (bN (us := t.basic) (i := i) om))).mono (by rintro x e h m ⟨hx, ls, hr, h1, h2, h3⟩; exact ⟨hx, ls, hr, h1, om, h3⟩)) ?_
 rintro r_ h' n1 ⟨rfl, hn1, rfl⟩
 refine ⟨fun _ h => (by cases h), ?_⟩
 refine WX.B (fun h32 => ?_) (fun h32 => ?_)
 rotate_left
 ·refine WX.U (dQ J) J <| WX.K J J <| WX.K J J <| WX.K J J <| WX.K J J <| WX.K J J <| WX.K J J <| WX.K J J <| WX.K J J <| WX.K J J <| WX.K J J <| WX.K J J <| WX.U (bU J J) J <| WX.U (dQ J) J <| WX.K J J <| WX.K J J <| WX.K J J <| WX.K J J <| WX.K J J <| WX.K J J <| WX.K J J <| WX.K J J <| WX.K J J <| WX.K J J ?_
  refine WX.K J J <| WX.K J J <| WX.K J J <| WX.K J J <| WX.K J J <| WX.K J J <| WX.K J J <| WX.K J J <| WX.K J J <| WX.K J J <| WX.K J J <| WX.K J J <| WX.K J J <| WX.K J J <| WX.U (bU J J) J <| WX.nil (kC kR) <| Ck [1,4,5,23,24,25,34,35,36,37,38,39,40,41,42,43,44,47,48,49,50,51,52,53,54,55,56,57,58,59,60,61,62,63,64,65,66,67,68,69,70,71] J <| cD J <| cE <| aE <| Ck [1,4,23,24,25,34,35,36,37,38,39,40,41,42,43,44,47,48,49,50,51,52,53,54,55,56,57,58,59,60,61,62,63,64,65,66,67,68,69,70] J <| aL (z := 2) J <| aA (cI (((i + 1 : Nat) : Int)) (aU J J om) om) J <| Um J J ?_
  refine Wn <| aF <| ⟨⟨i + 1, _⟩, ⟨J, J, J, J, J, trivial⟩, aR fun _ _ h => nrm_get.trans h, ⟨om, hgx, hke, om⟩, by show t.basic.length - (i + 1) < t.basic.length - i; omega⟩
 refine WX.U (dQ J) J <| WX.Ug J ((aH (l := .ptr L.q 0) J J (nrm_get.trans hgx) J J)) J <| WX.Ug J (cO J) J <| WX.Ug J (aV J J J J J) J <| WX.Ug J (aH (l := .ref L.c 1 0 t.cells.length) J J (nrm_get.trans (hke _ _ hLq hgt)) J (congrArg some (gY (cG hil)))) J <| WX.Ug J (dQ J) J <| WX.Ug J (bV (j := i) J J J J om om J) J <| WX.Ug J (aO (b := .ref (L.a i) 4 0 (t.cells.getD i []).length) (dP (f := rfc) (us := rwsT L t.cells) (j := i) J J (nrm_get.trans (hke _ _ hLc hgc)) (fun _ => rfl) J (by decide) (by rw [eY]; omega) J) (by rw [iH hil])) J <| WX.Ug J (bV (j := 0) J J J J om om J) J <| WX.Ug J (aO (b := lvX ((t.cells.getD i []).getD 0 default)) (dP (f := xc) (us := (t.cells.getD i [])) (j := 0) J J (nrm_get.trans (hke _ _ hLa hgr)) (fun _ => rfl) J (by decide) om J) J) J <| WX.Ug J (aJ J (eP ((t.cells.getD i []).getD 0 default)) dD) J <| WX.Ug J (bX J J) J <| WX.D (fun h44 => ?_) (fun h44 => ?_)
 ·exact absurd h44 (by have := hfe i hil h32; omega)
 refine WX.U (bT J J) J <| WX.U (dQ J) J <| WX.K J J <| WX.K J J <| WX.K J J <| WX.K J J <| WX.K J J <| WX.K J J <| WX.K J J <| WX.K J J <| WX.K J J <| WX.K J J <| WX.K J J <| WX.K J J <| WX.K J J <| WX.K J J <| WX.K J J <| WX.K J J <| WX.K J J <| WX.K J J <| WX.K J J <| WX.K J J <| WX.K J J <| WX.K J J ?_
 refine WX.K J J <| WX.K J J <| WX.U (bU J J) J <| WX.nil (kC kR) <| Ck [1,4,5,23,24,25,34,35,36,37,38,39,40,41,42,43,44,47,48,49,50,51,52,53,54,55,56,57,58,59,60,61,62,63,64,65,66,67,68,69,70,71] J <| cD J <| cE <| aE <| Ck [1,4,23,24,25,34,35,36,37,38,39,40,41,42,43,44,47,48,49,50,51,52,53,54,55,56,57,58,59,60,61,62,63,64,65,66,67,68,69,70] J <| aL (z := 2) J <| aA (cI (((i + 1 : Nat) : Int)) (aU J J om) om) J <| Um J J <| Wn <| aF <| ⟨⟨i + 1, _⟩, ⟨J, J, J, J, J, trivial⟩, aR fun _ _ h => nrm_get.trans h, ⟨om, hgx, hke, om⟩, by show t.basic.length - (i + 1) < t.basic.length - i; omega⟩
theorem desQ_G (n0 : Nat) (H : Hp) (L : Lay) (kr : Nat) (rws : List RW) (t : TX) (hM : TM ⟨(83), (3), (41), (46)⟩ H n0 L (.sl kr (rws.map rwc)) t) (hev : t.eqs = rws.map (·.2.2)) (hOk : t.tb.Ok) (ho1 : 1 ≤ t.out.length) (hde : ∀ c, c < t.out.length → t.tb.sd (t.out.getD c default) = true → 0 ≤ (t.goal.getD (c + 1) default).1.num.sign) : WC Try.prog T E0 Try.f41.ntmps (codeOf Try.f41) (argsEnv 0 [.ptr L.q 0]) (nrm H) n0 (fun x e' h' n' => (x = .normal ∨ x = .ret) ∧ ∃ ls', resE e' T h' Try.f41.results.toList = some ls' ∧ (resultLV ls' = .v (.int .i64 (-1)) ∧ n0 ≤ n' ∧ h' = nrm H)) := by
 change WC _ _ _ _ _ [(0, .ptr L.q 0)] _ _ _
 have hgt : getH (nrm H) L.q = some { cells := tbC L (.sl kr (rws.map rwc)) t, sz := 6, elem := (83), st := 0 } := nrm_get.trans hM.tb
 have hol : t.out.length ≤ 100000 := hOk.ol
 have hgw := hOk.xg
 have hone : t.out ≠ [] := cG (show 0 < t.out.length by omega)
 have hgo : getH (nrm H) L.o = some { cells := (t.out.map ic).flatten, sz := 1, elem := (3), st := 0 } := nrm_get.trans (hM.ou hone)
 have hgg : getH (nrm H) L.g = some { cells := (t.goal.map xc).flatten, sz := 4, elem := (46), st := 0 } := nrm_get.trans hM.gl
 refine Ck [0] J <| Rg 1 J <| Ua J J <| Nk [0] J <| dM <| dN <| dM <| Rg 1 J <| Ua J J <| Nk [0,3] J <| aB <| Rg 6 J <| Um J J <| aA (cO J) J <| aA (aV J J J J J) J <| aA (aH (l := .ref L.o 1 0 t.out.length) J J hgt J (congrArg some (fE hone))) J <| aA (gR J J) J <| Um J J <| Nk [0,3,15,16,17] J <| aI <| bI (α := Nat) (fun c => [(0, .ptr L.q 0), (3, .v (.int .i64 (-1))), (15, .ref L.o 1 0 t.out.length), (16, .v (.int .i64 (t.out.length : Int))), (17, .v (.int .i64 (c : Int)))]) (fun c => nrm H) (fun c n => c ≤ t.out.length ∧ n0 ≤ n) (fun c => t.out.length - c) (0) ⟨J, J, J, J, J, trivial⟩ (aR fun _ _ h => nrm_get.trans h) ⟨Nat.zero_le _, om⟩ ?_
 rintro c n hF
 change WC _ _ _ _ _ [(0, .ptr L.q 0), (3, .v (.int .i64 (-1))), (15, .ref L.o 1 0 t.out.length), (16, .v (.int .i64 (t.out.length : Int))), (17, .v (.int .i64 (c : Int)))] (nrm H) n _
 obtain ⟨hc, hnn⟩ := hF
 refine Rg 1 J <| aA (bX J J) J <| bL (fun h18 => ?_) (fun h18 => ?_)
 rotate_left
 ·refine Nk [0,3,15,16,17,18] J <| bC J <| bB <| aW <| aQ J <| Ck [0,3] J <| aB <| Rg 2 J <| Um J J <| aA (bX J J) J <| bL (fun h55 => ?_) (fun h55 => ?_)
  rotate_left
  ·exact absurd (show (-1 : Int) < 0 by decide) h55
  refine Nk [0,3,55] J <| bF J <| aB <| Rg 1 J <| Ua J J <| Nk [2] J <| bQ <| iZ <| unr_ret <| iZ ?_
  exact ⟨.inr J, _, rfl, rfl, om, rfl⟩
 refine Nk [0,3,15,16,17,18] J <| bF J <| aG <| aI <| Rg 5 J <| Um J J <| aA (bV (j := c) J J J J om om J) J <| aA (aO (b := .v (.int .i64 (t.out.getD c default))) (dP (f := ic) (us := t.out) (j := c) J J hgo (fun _ => rfl) J (by decide) om J) J) J <| Ua J J <| Ua J J <| Nk [0,3,4,5,15,16,17] J <| dT (z := 30) J <| cX (dQ J) J <| cX (dQ J) J <| kT (ls := [.ptr L.q 0, .v (.int .i64 (t.out.getD c default))]) (Φ := fun r h' n' => r = .v (.bool (t.tb.sd (t.out.getD c default))) ∧ n ≤ n' ∧ h' = nrm H) J Try.func68 J J (dK J) J ((sidT_G _ H _ L kr rws t (t.out.getD c default) L.q J (hM.mono (n' := n) om (fun _ _ _ h => h)) hev hOk (hOk.or _ (bN (us := t.out) (i := c) om))).mono (by rintro x e h m ⟨hx, ls, hr, h1, h2, h3⟩; exact ⟨hx, ls, hr, h1, om, h3⟩)) ?_
 rintro r_ h' n1 ⟨rfl, hn1, rfl⟩
 refine jM <| fN (fun h24 => ?_) (fun h24 => ?_)
 rotate_left
 ·refine Um J J <| K1 J J <| K1 J J <| K1 J J <| K1 J J <| K1 J J <| K1 J J <| K1 J J <| K1 J J <| K1 J J <| K1 J J <| aA (bU J J) J <| Um J J <| K1 J J <| K1 J J <| K1 J J <| K1 J J <| K1 J J <| K1 J J <| K1 J J <| K1 J J <| K1 J J <| K1 J J <| K1 J J ?_
  refine K1 J J <| K1 J J <| aA (bU J J) J <| Nk [0,3,4,15,16,17,26,27,28,29,30,31,32,33,34,35,38,39,40,41,42,43,44,45,46,47,48,49,50,51] J <| cD J <| cE <| aE <| Ck [0,3,15,16,17,26,27,28,29,30,31,32,33,34,35,38,39,40,41,42,43,44,45,46,47,48,49,50] J <| aL (z := 2) J <| aA (cI (((c + 1 : Nat) : Int)) (aU J J om) om) J <| Um J J <| Wn <| aF <| ⟨c + 1, ⟨J, J, J, J, J, trivial⟩, aR fun _ _ h => nrm_get.trans h, ⟨om, om⟩, by show t.out.length - (c + 1) < t.out.length - c; omega⟩
 refine Um J J <| aM J (dQ J) J <| aM J (cO J) J <| aM J (aV J J J J J) J <| aM J (aH (l := .ref L.g 4 0 t.goal.length) J J hgt J J) J <| aM J (dQ J) J <| aM J (cI (((c + 1 : Nat) : Int)) (aU J J om) om) J <| aM J (bV (j := c + 1) J J J J om om J) J <| aM J (aO (b := lvX (t.goal.getD (c + 1) default)) (dP (f := xc) (us := t.goal) (j := c + 1) J J hgg (fun _ => rfl) J (by decide) om J) J) J <| aM J (aJ J (eP (t.goal.getD (c + 1) default)) dD) J <| aM J (bX J J) J <| bL (fun h35 => ?_) (fun h35 => ?_)
 ·exact absurd h35 (by have := hde c om h24; omega)
 refine aA (bT J J) J <| Um J J <| K1 J J <| K1 J J <| K1 J J <| K1 J J <| K1 J J <| K1 J J <| K1 J J <| K1 J J <| K1 J J <| K1 J J <| K1 J J <| K1 J J <| K1 J J <| aA (bU J J) J <| Nk [0,3,4,15,16,17,26,27,28,29,30,31,32,33,34,35,38,39,40,41,42,43,44,45,46,47,48,49,50,51] J <| cD J <| cE <| aE <| Ck [0,3,15,16,17,26,27,28,29,30,31,32,33,34,35,38,39,40,41,42,43,44,45,46,47,48,49,50] J <| aL (z := 2) J <| aA (cI (((c + 1 : Nat) : Int)) (aU J J om) om) J ?_
 refine Um J J <| Wn <| aF <| ⟨c + 1, ⟨J, J, J, J, J, trivial⟩, aR fun _ _ h => nrm_get.trans h, ⟨om, om⟩, by show t.out.length - (c + 1) < t.out.length - c; omega⟩
end Go.Proofs.Ytohfklpfeilcpaa
namespace Go.Proofs.Ytohfklpfeilcpaa
open Go.Ab Go.RowKit
theorem pnt_G (n0 : Nat) (H : Hp) (L : Lay) (kr : Nat) (rws : List RW) (t : TX) (hM : TM ⟨(83), (3), (41), (46)⟩ H n0 L (.sl kr (rws.map rwc)) t) (hev : t.eqs = rws.map (·.2.2)) (hOk : t.tb.Ok) (hm1 : 1 ≤ t.cells.length) : WC Try.prog T E0 Try.f39.ntmps (codeOf Try.f39) (argsEnv 0 [.ptr L.q 0]) (nrm H) n0 (fun x e' h' n' => (x = .normal ∨ x = .ret) ∧ ∃ ls', resE e' T h' Try.f39.results.toList = some ls' ∧ (∃ (q : Nat) (l : List X), resultLV ls' = .ref q 4 0 l.length ∧ r1 l = t.tb.pnt ∧ l.length = t.n ∧ getH h' q = some (obX (46) l) ∧ n0 ≤ q ∧ q < n' ∧ n0 ≤ n' ∧ ∀ r o, r < n0 → getH H r = some o → getH h' r = some o)) := by
 change WC _ _ _ _ _ [(0, .ptr L.q 0)] _ _ _
 have hgt : getH H L.q = some { cells := tbC L (.sl kr (rws.map rwc)) t, sz := 6, elem := (83), st := 0 } := hM.tb
 have hbl : t.basic.length = t.cells.length := hOk.xb
 have hml := hOk.xm
 have hol : t.out.length ≤ 100000 := hOk.ol
 have hnl : t.n ≤ 100000 := hOk.nl
 have hLq : L.q < n0 := hM.lt 0 om
 have hLb : L.b < n0 := hM.lt 1 om
 have hLo : L.o < n0 := hM.lt 2 om
 have hLc : L.c < n0 := hM.lt 3 om
 have hbne : t.basic ≠ [] := cG (show 0 < t.basic.length by omega)
 have hgb : getH H L.b = some { cells := (t.basic.map ic).flatten, sz := 1, elem := (3), st := 0 } := hM.bs hbne
 have hgc := hM.cl (cG (show 0 < t.cells.length by omega))
 have hke : ∀ r o, r < n0 → getH H r = some o → getH H r = some o := fun _ _ _ h => h
 refine Ck [0] J <| Rg 1 J <| Ua J J <| Nk [0] J <| Rg 6 J <| Um J J <| aA (cO J) J <| aA (aV J J J J J) J <| aA (aH (l := .v (.int .i64 (t.n : Int))) J J (show getH _ _ = some { cells := tbC L (.sl kr (rws.map rwc)) t, sz := 6, elem := (83), st := 0 } from (by repeat (first | exact g0 | exact nrm_get.trans (hke _ _ hLq hgt) | refine g1 om ?_))) J J) J ?_
 refine bK (oMk (a := t.n) (b := t.n) J J J J om om (by decide) om (by show 64 * t.n ≤ _; omega) om) J <| Ua J J <| Nk [0,3] J <| aB <| Rg 6 J <| Um J J <| aA (cO J) J <| aA (aV J J J J J) J <| aA (aH (l := .ref L.b 1 0 t.basic.length) J J (show getH _ _ = some { cells := tbC L (.sl kr (rws.map rwc)) t, sz := 6, elem := (83), st := 0 } from (by repeat (first | exact g0 | exact nrm_get.trans (hke _ _ hLq hgt) | refine g1 om ?_))) J (congrArg some (fE hbne))) J ?_
 refine aA (gR J J) J <| Um J J <| Nk [0,3,14,15,16] J <| aI <| bI (α := Nat × (List X) × Hp) (fun ⟨i, us, hh⟩ => [(0, .ptr L.q 0), (3, .ref (n0 + 1 + 4) 4 0 t.n), (14, .ref L.b 1 0 t.basic.length), (15, .v (.int .i64 (t.basic.length : Int))), (16, .v (.int .i64 (i : Int)))]) (fun ⟨i, us, hh⟩ => nrm hh) (fun ⟨i, us, hh⟩ n => i ≤ t.basic.length ∧ us.length = t.n ∧ getH hh (n0 + 1 + 4) = some { cells := (us.map xc).flatten, sz := 4, elem := (46), st := 0 } ∧ r1 us = t.tb.pntS i ∧ (∀ r o, r < n0 → getH H r = some o → getH hh r = some o) ∧ n0 + 12 ≤ n) (fun ⟨i, us, hh⟩ => t.basic.length - i) (0, List.replicate t.n x0, _) ⟨J, J, J, J, J, trivial⟩ (aR fun _ _ h => h) ⟨Nat.zero_le _, List.length_replicate, g0.trans (by rw [List.map_replicate]; rfl), r1_rep _, fun r o hr h => (by repeat (first | exact g0 | exact nrm_get.trans h | refine g1 om ?_)), om⟩ ?_
 rintro ⟨i, us, hh⟩ n hF
 change WC _ _ _ _ _ [(0, .ptr L.q 0), (3, .ref (n0 + 1 + 4) 4 0 t.n), (14, .ref L.b 1 0 t.basic.length), (15, .v (.int .i64 (t.basic.length : Int))), (16, .v (.int .i64 (i : Int)))] (nrm hh) n _
 clear hke
 obtain ⟨hi, hul, hg1, hus, hke, hnn⟩ := hF
 refine Rg 1 J <| aA (bX J J) J <| bL (fun h17 => ?_) (fun h17 => ?_)
 rotate_left
 ·refine Nk [0,3,14,15,16,17] J <| bC J <| bB <| aW <| aQ J <| Ck [3] J <| Rg 2 J <| Um J J <| Ua J J <| Nk [2] J <| aP ?_
  obtain rfl : i = t.basic.length := by omega
  exact ⟨.inr J, _, rfl, (n0 + 1 + 4), us, by rw [hul]; rfl, hus, hul, nrm_get.trans hg1, om, om, om, fun r o hr h => nrm_get.trans (hke r o hr h)⟩
 refine Nk [0,3,14,15,16,17] J <| bF J <| aG <| aI ?_
 have hil : i < t.cells.length := by omega
 have hrl : (t.cells.getD i []).length = t.out.length + 1 := hOk.xl hil
 have hLa : L.a i < n0 := hM.lt (i + 5) om
 have hgr := hM.rw i hil
 refine Rg 5 J <| Um J J <| aA (bV (j := i) J J J J om om J) J <| aA (aO (b := .v (.int .i64 (t.basic.getD i default))) (dP (f := ic) (us := t.basic) (j := i) J J (nrm_get.trans (hke _ _ hLb hgb)) (fun _ => rfl) J (by decide) om J) J) J <| Ua J J <| Ua J J <| Nk [0,3,4,5,14,15,16] J <| Rg 10 J <| Um J J <| aA (iT J J) J <| bL (fun h22 => ?_) (fun h22 => ?_)
 rotate_left
 ·refine Um J J <| K1 J J <| K1 J J <| K1 J J <| K1 J J <| K1 J J <| K1 J J <| aA (bU J J) J <| Nk [0,3,4,5,14,15,16,24,25,26,27,28,29,30] J <| cD J <| cE <| aE <| Ck [0,3,14,15,16,24,25,26,27,28,29] J <| aL (z := 2) J <| aA (cI (((i + 1 : Nat) : Int)) (aU J J om) om) J <| Um J J <| Wn <| aF <| ⟨⟨i + 1, us, _⟩, ⟨J, J, J, J, J, trivial⟩, aR fun _ _ h => h, ⟨om, hul, (by repeat (first | exact g0 | exact nrm_get.trans hg1 | refine g1 om ?_)), ?_, fun r o hr h => (by repeat (first | exact g0 | exact nrm_get.trans (hke r o hr h) | refine g1 om ?_)), om⟩, by show t.basic.length - (i + 1) < t.basic.length - i; omega⟩
  rw [hus, Tb.pntS_no (t := t.tb) (i := i) fun e => ?_]
  exact h22 e.1
 refine Um J J <| aM J (dQ J) J <| aM J (dQ J) J <| aM J (cO J) J <| aM J (aV J J J J J) J <| aM J (aH (l := .v (.int .i64 (t.n : Int))) J J (show getH _ _ = some { cells := tbC L (.sl kr (rws.map rwc)) t, sz := 6, elem := (83), st := 0 } from (by repeat (first | exact g0 | exact nrm_get.trans (hke _ _ hLq hgt) | refine g1 om ?_))) J J) J ?_
 refine aM J (bX J J) J <| bL (fun h29 => ?_) (fun h29 => ?_)
 rotate_left
 ·refine aA (bT J J) J <| Nk [0,3,4,5,14,15,16,24,25,26,27,28,29,30] J <| cD J <| cE <| aE <| Ck [0,3,14,15,16,24,25,26,27,28,29] J <| aL (z := 2) J <| aA (cI (((i + 1 : Nat) : Int)) (aU J J om) om) J <| Um J J <| Wn <| aF <| ⟨⟨i + 1, us, _⟩, ⟨J, J, J, J, J, trivial⟩, aR fun _ _ h => h, ⟨om, hul, (by repeat (first | exact g0 | exact nrm_get.trans hg1 | refine g1 om ?_)), ?_, fun r o hr h => (by repeat (first | exact g0 | exact nrm_get.trans (hke r o hr h) | refine g1 om ?_)), om⟩, by show t.basic.length - (i + 1) < t.basic.length - i; omega⟩
  rw [hus, Tb.pntS_no (t := t.tb) (i := i) fun e => ?_]
  have e2 : (t.basic.getD i default) < (t.n : Int) := e.2
  omega
 refine aA (bT J J) J <| Nk [0,3,4,5,14,15,16,24,25,26,27,28,29,30] J <| cU J <| aL (z := 13) J <| Um J J <| Um J J <| Um J J <| aA (cO J) J <| aA (aV J J J J J) J <| aA (aH (l := .ref L.c 1 0 t.cells.length) J J (show getH _ _ = some { cells := tbC L (.sl kr (rws.map rwc)) t, sz := 6, elem := (83), st := 0 } from (by repeat (first | exact g0 | exact nrm_get.trans (hke _ _ hLq hgt) | refine g1 om ?_))) J (congrArg some (gY (cG hil)))) J ?_
 refine Um J J <| aA (bV (j := i) J J J J om om J) J <| aA (aO (b := .ref (L.a i) 4 0 (t.cells.getD i []).length) (dP (f := rfc) (us := rwsT L t.cells) (j := i) J J (nrm_get.trans (hke _ _ hLc hgc)) (fun _ => rfl) J (by decide) (by rw [eY]; omega) J) (by rw [iH hil])) J <| aA (bV (j := 0) J J J J om om J) J <| aA (aO (b := lvX ((t.cells.getD i []).getD 0 default)) (dP (f := xc) (us := (t.cells.getD i [])) (j := 0) J J (nrm_get.trans (hke _ _ hLa hgr)) (fun _ => rfl) J (by decide) om J) J) J <| aA (bV (j := (t.basic.getD i default).toNat) J J J J om om J) J <| bG (fB (f := xc) (us := us) ((t.cells.getD i []).getD 0 default) J J J (nrm_get.trans hg1) (fun _ => rfl) J J om J) <| Wn <| aE <| Ck [0,3,14,15,16,24,25,26,27,28,29] J <| aL (z := 2) J <| aA (cI (((i + 1 : Nat) : Int)) (aU J J om) om) J <| Um J J <| Wn <| aF <| ⟨⟨i + 1, us.set (t.basic.getD i default).toNat ((t.cells.getD i []).getD 0 default), _⟩, ⟨J, J, J, J, J, trivial⟩, aR fun _ _ h => h, ⟨om, by rw [List.length_set]; exact hul, (by repeat (first | exact g0 | exact nrm_get.trans hg1 | refine g1 om ?_)), ?_, fun r o hr h => (by repeat (first | exact g0 | exact nrm_get.trans (hke r o hr h) | refine g1 om ?_)), om⟩, by show t.basic.length - (i + 1) < t.basic.length - i; omega⟩
 rw [r1_set, hus, Tb.pntS_yes (t := t.tb) (i := i) ⟨h22, by show (t.basic.getD i default) < (t.n : Int); omega⟩, cellX]; rfl
theorem mlt_G (n0 : Nat) (H : Hp) (L : Lay) (kr : Nat) (rws : List RW) (t : TX) (hM : TM ⟨(83), (3), (41), (46)⟩ H n0 L (.sl kr (rws.map rwc)) t) (hev : t.eqs = rws.map (·.2.2)) (hOk : t.tb.Ok) (lq : Nat) (ml : List X) (hlq : lq < n0) (hl : getH H lq = some (obX (46) ml)) (hll : ml.length = t.out.length + 1) (ho1 : 1 ≤ t.out.length) : WC Try.prog T E0 Try.f42.ntmps (codeOf Try.f42) (argsEnv 0 [.ptr L.q 0, .ref lq 4 0 ml.length]) (nrm H) n0 (fun x e' h' n' => (x = .normal ∨ x = .ret) ∧ ∃ ls', resE e' T h' Try.f42.results.toList = some ls' ∧ (∃ (q : Nat) (l : List X), resultLV ls' = .ref q 4 0 l.length ∧ r1 l = t.tb.mlt (r1 ml) ∧ l.length = t.eqs.length ∧ getH h' q = some (obX (46) l) ∧ n0 ≤ q ∧ q < n' ∧ n0 ≤ n' ∧ ∀ r o, r < n0 → getH H r = some o → getH h' r = some o)) := by
 change WC _ _ _ _ _ [(0, .ptr L.q 0), (1, .ref lq 4 0 ml.length)] _ _ _
 have hgt : getH H L.q = some { cells := tbC L (.sl kr (rws.map rwc)) t, sz := 6, elem := (83), st := 0 } := hM.tb
 have hbl : t.basic.length = t.cells.length := hOk.xb
 have hml := hOk.xm
 have hol : t.out.length ≤ 100000 := hOk.ol
 have hnl : t.n ≤ 100000 := hOk.nl
 have hLq : L.q < n0 := hM.lt 0 om
 have hLb : L.b < n0 := hM.lt 1 om
 have hLo : L.o < n0 := hM.lt 2 om
 have hLc : L.c < n0 := hM.lt 3 om
 have hone : t.out ≠ [] := cG (show 0 < t.out.length by omega)
 have hgo : getH H L.o = some { cells := (t.out.map ic).flatten, sz := 1, elem := (3), st := 0 } := hM.ou hone
 have hre : rws.length = t.eqs.length := by rw [hev, List.length_map]
 have hel : t.eqs.length ≤ 100000 := hOk.el
 have hke : ∀ r o, r < n0 → getH H r = some o → getH H r = some o := fun _ _ _ h => h
 refine Ck [0,1] J <| Rg 1 J <| Ua J J <| Nk [0,1] J <| Rg 7 J <| Um J J <| aA (cO J) J <| aA (aV J J J J J) J <| aA (aH (l := .sl kr (rws.map rwc)) J J (show getH _ _ = some { cells := tbC L (.sl kr (rws.map rwc)) t, sz := 6, elem := (83), st := 0 } from (by repeat (first | exact g0 | exact nrm_get.trans (hke _ _ hLq hgt) | refine g1 om ?_))) J J) J ?_
 refine aA (aO (b := .v (.int .i64 (t.eqs.length : Int))) (bO J J) (by rw [hre])) J <| bK (oMk (a := t.eqs.length) (b := t.eqs.length) J J J J om om (by decide) om (by show 64 * t.eqs.length ≤ _; omega) om) J <| Ua J J <| Nk [0,1,5] J <| aB <| Rg 6 J <| Um J J <| aA (cO J) J <| aA (aV J J J J J) J <| aA (aH (l := .ref L.o 1 0 t.out.length) J J (show getH _ _ = some { cells := tbC L (.sl kr (rws.map rwc)) t, sz := 6, elem := (83), st := 0 } from (by repeat (first | exact g0 | exact nrm_get.trans (hke _ _ hLq hgt) | refine g1 om ?_))) J (congrArg some (fE hone))) J ?_
 refine aA (gR J J) J <| Um J J <| Nk [0,1,5,17,18,19] J <| aI <| bI (α := Nat × (List X) × Hp) (fun ⟨k, us, hh⟩ => [(0, .ptr L.q 0), (1, .ref lq 4 0 ml.length), (5, .ref (n0 + 1 + 5) 4 0 t.eqs.length), (17, .ref L.o 1 0 t.out.length), (18, .v (.int .i64 (t.out.length : Int))), (19, .v (.int .i64 (k : Int)))]) (fun ⟨k, us, hh⟩ => nrm hh) (fun ⟨k, us, hh⟩ n => k ≤ t.out.length ∧ us.length = t.eqs.length ∧ getH hh (n0 + 1 + 5) = some { cells := (us.map xc).flatten, sz := 4, elem := (46), st := 0 } ∧ r1 us = t.tb.mltS (r1 ml) k ∧ (∀ r o, r < n0 → getH H r = some o → getH hh r = some o) ∧ n0 + 12 ≤ n) (fun ⟨k, us, hh⟩ => t.out.length - k) (0, List.replicate t.eqs.length x0, _) ⟨J, J, J, J, J, J, trivial⟩ (aR fun _ _ h => h) ⟨Nat.zero_le _, List.length_replicate, g0.trans (by rw [List.map_replicate]; rfl), r1_rep _, fun r o hr h => (by repeat (first | exact g0 | exact nrm_get.trans h | refine g1 om ?_)), om⟩ ?_
 rintro ⟨k, us, hh⟩ n hF
 change WC _ _ _ _ _ [(0, .ptr L.q 0), (1, .ref lq 4 0 ml.length), (5, .ref (n0 + 1 + 5) 4 0 t.eqs.length), (17, .ref L.o 1 0 t.out.length), (18, .v (.int .i64 (t.out.length : Int))), (19, .v (.int .i64 (k : Int)))] (nrm hh) n _
 clear hke
 obtain ⟨hk, hul, hg1, hus, hke, hnn⟩ := hF
 refine Rg 1 J <| aA (bX J J) J <| bL (fun h20 => ?_) (fun h20 => ?_)
 rotate_left
 ·refine Nk [0,1,5,17,18,19,20] J <| bC J <| bB <| aW <| aQ J <| Ck [5] J <| Rg 2 J <| Um J J <| Ua J J <| Nk [4] J <| aP ?_
  obtain rfl : k = t.out.length := by omega
  exact ⟨.inr J, _, rfl, (n0 + 1 + 5), us, by rw [hul]; rfl, hus, hul, nrm_get.trans hg1, om, om, om, fun r o hr h => nrm_get.trans (hke r o hr h)⟩
 refine Nk [0,1,5,17,18,19,20] J <| bF J <| aG <| aI ?_
 have hok := hOk.or _ (bN (us := t.out) (i := k) om)
 change -1 ≤ (t.out.getD k default) ∧ (t.out.getD k default) ≤ 1000000 at hok
 refine Rg 5 J <| Um J J <| aA (bV (j := k) J J J J om om J) J <| aA (aO (b := .v (.int .i64 (t.out.getD k default))) (dP (f := ic) (us := t.out) (j := k) J J (nrm_get.trans (hke _ _ hLo hgo)) (fun _ => rfl) J (by decide) om J) J) J <| Ua J J <| Ua J J <| Nk [0,1,5,6,7,17,18,19] J <| bS (z := 20) J kR <| Dm J J <| Dm J J <| aC (cO J) J <| aC (aV J J J J J) J <| aC (aH (l := .v (.int .i64 (t.n : Int))) J J (show getH _ _ = some { cells := tbC L (.sl kr (rws.map rwc)) t, sz := 6, elem := (83), st := 0 } from (by repeat (first | exact g0 | exact nrm_get.trans (hke _ _ hLq hgt) | refine g1 om ?_))) J J) J ?_
 refine aC (iT J J) J <| kS (fun h29 => ?_) (fun h29 => ?_)
 rotate_left
 ·refine Dm J J <| bD J J <| bD J J <| bD J J <| bD J J <| bD J J <| bD J J <| bD J J <| bD J J <| bD J J <| bD J J <| bD J J <| bD J J <| aC (bU J J) J <| bJ (aT kR) J <| Ck [0,1,5,6,7,17,18,19,31,32,33,34,35,36,37,38,39,40,41,42,43] J <| cD J <| cE <| aE <| Ck [0,1,5,17,18,19,31,32,33,34,35,36,37,38,39,40,41,42] J <| aL (z := 2) J <| aA (cI (((k + 1 : Nat) : Int)) (aU J J om) om) J <| Um J J <| dR ?_
  refine aF <| ⟨⟨k + 1, us, _⟩, ⟨J, J, J, J, J, J, trivial⟩, aR fun _ _ h => h, ⟨om, hul, (by repeat (first | exact g0 | exact nrm_get.trans hg1 | refine g1 om ?_)), ?_, fun r o hr h => (by repeat (first | exact g0 | exact nrm_get.trans (hke r o hr h) | refine g1 om ?_)), om⟩, by show t.out.length - (k + 1) < t.out.length - k; omega⟩
  rw [hus, Tb.mltS_no (t := t.tb) (k := k) fun e => ?_]
  exact h29 e.1
 refine Dm J J <| aZ J (dQ J) J <| aZ J (dQ J) J <| aZ J (cO J) J <| aZ J (aV J J J J J) J <| aZ J (aH (l := .v (.int .i64 (t.n : Int))) J J (show getH _ _ = some { cells := tbC L (.sl kr (rws.map rwc)) t, sz := 6, elem := (83), st := 0 } from (by repeat (first | exact g0 | exact nrm_get.trans (hke _ _ hLq hgt) | refine g1 om ?_))) J J) J ?_
 refine aZ J (dQ J) J <| aZ J (cO J) J <| aZ J (aV J J J J J) J <| aZ J (aH (l := .sl kr (rws.map rwc)) J J (show getH _ _ = some { cells := tbC L (.sl kr (rws.map rwc)) t, sz := 6, elem := (83), st := 0 } from (by repeat (first | exact g0 | exact nrm_get.trans (hke _ _ hLq hgt) | refine g1 om ?_))) J J) J ?_
 refine aZ J (aO (b := .v (.int .i64 (t.eqs.length : Int))) (bO J J) (by rw [hre])) J <| aZ J (cI (((t.n + t.eqs.length : Nat) : Int)) (aU J J om) om) J <| aZ J (bX J J) J <| kS (fun h42 => ?_) (fun h42 => ?_)
 rotate_left
 ·refine aC (bT J J) J <| bJ (aT kR) J <| Ck [0,1,5,6,7,17,18,19,31,32,33,34,35,36,37,38,39,40,41,42,43] J <| cD J <| cE <| aE <| Ck [0,1,5,17,18,19,31,32,33,34,35,36,37,38,39,40,41,42] J <| aL (z := 2) J <| aA (cI (((k + 1 : Nat) : Int)) (aU J J om) om) J <| Um J J <| Wn <| aF <| ⟨⟨k + 1, us, _⟩, ⟨J, J, J, J, J, J, trivial⟩, aR fun _ _ h => h, ⟨om, hul, (by repeat (first | exact g0 | exact nrm_get.trans hg1 | refine g1 om ?_)), ?_, fun r o hr h => (by repeat (first | exact g0 | exact nrm_get.trans (hke r o hr h) | refine g1 om ?_)), om⟩, by show t.out.length - (k + 1) < t.out.length - k; omega⟩
  rw [hus, Tb.mltS_no (t := t.tb) (k := k) fun e => ?_]
  have e2 : (t.out.getD k default) < (t.n : Int) + (t.eqs.length : Int) := e.2
  omega
 refine aC (bT J J) J <| bJ (aT kR) J <| Ck [0,1,5,6,7,17,18,19,31,32,33,34,35,36,37,38,39,40,41,42,43] J <| cU J <| dC (z := 14) J kR <| Dm J J <| Dm J J <| Dm J J <| aC (cO J) J <| aC (aV J J J J J) J <| aC (aH (l := .v (.int .i64 (t.n : Int))) J J (show getH _ _ = some { cells := tbC L (.sl kr (rws.map rwc)) t, sz := 6, elem := (83), st := 0 } from (by repeat (first | exact g0 | exact nrm_get.trans (hke _ _ hLq hgt) | refine g1 om ?_))) J J) J ?_
 refine aC (cI (((((t.out.getD k default) - t.n).toNat : Nat) : Int)) (cY J J om) om) J <| Dm J J <| Dm J J <| aC (cI (((k + 1 : Nat) : Int)) (aU J J om) om) J <| aC (bV (j := k + 1) J J J J om om J) J <| aC (aO (b := lvX (ml.getD (k + 1) default)) (dP (f := xc) (us := ml) (j := k + 1) J J (nrm_get.trans (hke _ _ hlq hl)) (fun _ => rfl) J (by decide) om J) J) J <| aC (bV (j := ((t.out.getD k default) - t.n).toNat) J J J J om om J) J <| cN (fB (f := xc) (us := us) (ml.getD (k + 1) default) J J J (nrm_get.trans hg1) (fun _ => rfl) J J om J) <| bJ (aT kR) J <| aE <| Ck [0,1,5,17,18,19,31,32,33,34,35,36,37,38,39,40,41,42] J <| aL (z := 2) J <| aA (cI (((k + 1 : Nat) : Int)) (aU J J om) om) J <| Um J J <| Wn <| aF <| ⟨⟨k + 1, us.set ((t.out.getD k default) - t.n).toNat (ml.getD (k + 1) default), _⟩, ⟨J, J, J, J, J, J, trivial⟩, aR fun _ _ h => h, ⟨om, by rw [List.length_set]; exact hul, (by repeat (first | exact g0 | exact nrm_get.trans hg1 | refine g1 om ?_)), ?_, fun r o hr h => (by repeat (first | exact g0 | exact nrm_get.trans (hke r o hr h) | refine g1 om ?_)), om⟩, by show t.out.length - (k + 1) < t.out.length - k; omega⟩
 rw [r1_set, hus, Tb.mltS_yes (t := t.tb) (k := k) ⟨h29, by show (t.out.getD k default) < (t.n : Int) + (t.eqs.length : Int); omega⟩, gI]; rfl
end Go.Proofs.Ytohfklpfeilcpaa
namespace Go.Proofs.Ytohfklpfeilcpaa
open Go.Ab Go.RowKit
theorem eqsQ_G (n0 : Nat) (H : Hp) (L : Lay) (kr : Nat) (rws : List RW) (t : TX) (hM : TM ⟨(83), (3), (41), (46)⟩ H n0 L (.sl kr (rws.map rwc)) t) (hev : t.eqs = rws.map (·.2.2)) (hOk : t.tb.Ok) (hm1 : 1 ≤ t.cells.length) (hno : ∀ r, r ∈ rws → r.2.2 = false) : WC Try.prog T E0 Try.f36.ntmps (codeOf Try.f36) (argsEnv 0 [.ptr L.q 0]) (nrm H) n0 (fun x e' h' n' => (x = .normal ∨ x = .ret) ∧ ∃ ls', resE e' T h' Try.f36.results.toList = some ls' ∧ (resultLV ls' = .tup [.sl 0 [], .v (.bool true)] ∧ n0 ≤ n' ∧ ∀ r o, r < n0 → getH H r = some o → getH h' r = some o)) := by
 change WC _ _ _ _ _ [(0, .ptr L.q 0)] _ _ _
 have hgt : getH H L.q = some { cells := tbC L (.sl kr (rws.map rwc)) t, sz := 6, elem := (83), st := 0 } := hM.tb
 have hbl : t.basic.length = t.cells.length := hOk.xb
 have hml := hOk.xm
 have hLq : L.q < n0 := hM.lt 0 om
 have hbne : t.basic ≠ [] := cG (show 0 < t.basic.length by omega)
 have hLb : L.b < n0 := hM.lt 1 om
 have hqb : L.q ≠ L.b := hM.ne (i := 0) (j := 1) om om om
 have hgb : getH H L.b = some { cells := (t.basic.map ic).flatten, sz := 1, elem := (3), st := 0 } := hM.bs hbne
 have hre : rws.length ≤ 100000 := by have := hOk.el; rw [show t.tb.eqs = t.eqs from rfl, hev, List.length_map] at this; exact this
 have hq2 : ∀ j, (rws.getD j default).2.2 = false := fun j => by
  by_cases hj : j < rws.length
  ·exact hno _ (bN hj)
  ·rw [List.getD_eq_getElem?_getD, List.getElem?_eq_none om]; rfl
 refine Ck [0] J <| Rg 3 J <| bK (gF J J) J <| Ua J J <| Ua J J <| Nk [1] J <| aB <| Rg 2 J <| bK (gE J) J <| bG (cV (cs' := [.v (.int .i64 0)]) J J J g0 J J J J) <| Nk [1,4] J <| aI <| bI (α := Nat × Nat × Hp) (fun ⟨i, p, hh⟩ => [(1, .ptr (n0 + 0) 0), (4, .ptr p 0)]) (fun ⟨i, p, hh⟩ => nrm hh) (fun ⟨i, p, hh⟩ n => i ≤ t.basic.length ∧ n0 + 1 ≤ p ∧ p < n ∧ getH hh (n0 + 0) = some { cells := [.ptr L.q 0], sz := 1, elem := (77), st := 0 } ∧ getH hh p = some { cells := [.v (.int .i64 (i : Int))], sz := 1, elem := (3), st := 0 } ∧ (∀ r o, r < n0 → getH H r = some o → getH hh r = some o) ∧ n0 + 4 ≤ n) (fun ⟨i, p, hh⟩ => t.basic.length - i) (0, n0 + 3, _) ⟨J, J, trivial⟩ (aR fun _ _ h => h) ⟨Nat.zero_le _, om, om, g1 om (g1 om g0), g0, fun r o hr h => (by repeat (first | exact g0 | exact nrm_get.trans h | refine g1 om ?_)), om⟩ ?_
 rintro ⟨i, p, hh⟩ n hF
 change WC _ _ _ _ _ [(1, .ptr (n0 + 0) 0), (4, .ptr p 0)] (nrm hh) n _
 obtain ⟨hi, hp1, hp2, hgx, hgp, hke, hnn⟩ := hF
 refine aB <| bS (z := 7) J kR <| aC (aH (l := .v (.int .i64 (i : Int))) J J (nrm_get.trans hgp) J J) J <| aC (aH (l := .ptr L.q 0) J J (nrm_get.trans hgx) J J) J <| aC (cO J) J <| aC (aV J J J J J) J <| aC (aH (l := .ref L.b 1 0 t.basic.length) J J (nrm_get.trans (hke _ _ hLq hgt)) J (congrArg some (fE hbne))) J <| aC (gR J J) J <| aC (bX J J) J <| kS (fun h16 => ?_) (fun h16 => ?_)
 rotate_left
 ·refine bJ (aT kR) J <| Ck [1,4,16] J <| bC J <| bB <| aW <| aQ J <| Ck [] J <| Rg 2 J <| Ua J J <| Ua J J <| Nk [2,3] J <| aP ?_
  exact ⟨.inr J, _, rfl, rfl, om, fun r o hr h => (by repeat (first | exact g0 | exact nrm_get.trans (hke r o hr h) | refine g1 om ?_))⟩
 refine bJ (aT kR) J <| Ck [1,4,16] J <| bF J <| aG <| aI <| aB <| jO (z := 10) J kR <| WX.U (aH (l := .ptr L.q 0) J J (nrm_get.trans hgx) J J) J <| WX.U (aH (l := .ptr L.q 0) J J (nrm_get.trans hgx) J J) J <| WX.U (cO J) J <| WX.U (aV J J J J J) J <| WX.U (aH (l := .ref L.b 1 0 t.basic.length) J J (nrm_get.trans (hke _ _ hLq hgt)) J (congrArg some (fE hbne))) J <| WX.U (aH (l := .v (.int .i64 (i : Int))) J J (nrm_get.trans hgp) J J) J <| WX.U (bV (j := i) J J J J om om J) J <| WX.U (aO (b := .v (.int .i64 (t.basic.getD i default))) (dP (f := ic) (us := t.basic) (j := i) J J (nrm_get.trans (hke _ _ hLb hgb)) (fun _ => rfl) J (by decide) om J) J) J <| WX.G (ls := [.ptr L.q 0, .v (.int .i64 (t.basic.getD i default))]) (Φ := fun r h' n' => r = .v (.bool false) ∧ n ≤ n' ∧ h' = nrm hh) [n0 + 0] J J Try.func60 J J (dK J) J ((eqn_G _ L.q hh t.n kr rws _ _ _ _ (t.basic.getD i default) (hke _ _ hLq hM.tb) hOk.nl hre (hOk.br _ (bN (us := t.basic) (i := i) om))).mono (by rintro x e h m ⟨hx, ls, hr, h1, h2, h3⟩; exact ⟨hx, ls, hr, h1.trans (congrArg (fun z => LV.v (.bool z)) (by rw [hq2, Bool.and_false])), om, h3⟩)) ?_
 rintro r_ h' n1 ⟨rfl, hn1, rfl⟩
 refine ⟨fun k hk => ?_, ?_⟩
 ·rw [List.mem_singleton] at hk; subst hk; exact ⟨_, nrm_get.trans hgx, nrm_get.trans hgx⟩
 refine WX.U (fA J) J <| WX.nil (kD (fun k => ([n0 + 0, L.q, L.b, p]).getD k 0) 4 [⟨0, [], [0], false⟩, ⟨1, [], [0], false⟩, ⟨2, [], [], false⟩, ⟨3, [], [], false⟩, ⟨4, [], [1], false⟩, ⟨5, [], [3], false⟩, ⟨6, [], [], false⟩, ⟨7, [], [2], false⟩, ⟨8, [], [0], true⟩, ⟨9, [], [], false⟩] (by decide) (by intro x y hx hy h; rcases x with _ | _ | _ | _ | x <;> rcases y with _ | _ | _ | _ | y <;> simp at h <;> omega) kR) <| Ck [1,4,28] J <| bF J <| bB <| aQ J <| Ck [1,4] J <| aB <| Rg 1 J <| aA (aH (l := .v (.int .i64 (i : Int))) J J (by repeat (first | exact g0 | exact nrm_get.trans hgp | refine g1 om ?_)) J J) J ?_
 refine Nk [1,125] J <| Rg 2 J <| bK (gE J) J <| bG (cV (cs' := [.v (.int .i64 (i : Int))]) J J J g0 J J J J) <| Nk [1,4] J <| aL (z := 3) J <| aA (aH (l := .v (.int .i64 (i : Int))) J J g0 J J) J <| aA (cI (((i + 1 : Nat) : Int)) (aU J J om) om) J <| bG (cV (cs' := [.v (.int .i64 (i + 1 : Int))]) J J J g0 J J J J) <| Wn <| aF <| ⟨⟨i + 1, n1 + 1, _⟩, ⟨J, J, trivial⟩, aR fun _ _ h => h, ⟨om, om, om, (by repeat (first | exact g0 | exact nrm_get.trans hgx | refine g1 om ?_)), g0, fun r o hr h => (by repeat (first | exact g0 | exact nrm_get.trans (hke r o hr h) | refine g1 om ?_)), om⟩, by show t.basic.length - (i + 1) < t.basic.length - i; omega⟩
end Go.Proofs.Ytohfklpfeilcpaa
namespace Go.Proofs.Ytohfklpfeilcpaa
open Go.Ab Go.RowKit
theorem min_run (nn kr : Nat) (rws : List RW) (gl : RW) (h0 : 1 ≤ nn) (hn : nn ≤ 100000) (hm : rws.length ≤ 100000) (hm1 : 1 ≤ rws.length) (hw : ∀ r, r ∈ rws → r.1.2.length = nn) (hg : gl.1.2.length = nn) (hno : ∀ r, r ∈ rws → r.2.2 = false) (β : Nat) (h1 : 1 ≤ β) (hβ : β ≤ 400000000) (hB : ∀ k, k ≤ nn → ((opn nn (rws.map fun r => (r1 r.1.2, r.2.1.1, r.2.2)) (r1 gl.1.2) gl.2.1.1).frs k).Bds β) (hF : ∀ i, i < rws.length → ((opn nn (rws.map fun r => (r1 r.1.2, r.2.1.1, r.2.2)) (r1 gl.1.2) gl.2.1.1).frs nn).sd (((opn nn (rws.map fun r => (r1 r.1.2, r.2.1.1, r.2.2)) (r1 gl.1.2) gl.2.1.1).frs nn).basic.getD i default) = true → 0 ≤ (((opn nn (rws.map fun r => (r1 r.1.2, r.2.1.1, r.2.2)) (r1 gl.1.2) gl.2.1.1).frs nn).cells.getD i default).getD 0 default) (hZ : ∀ k, k < nn → ((opn nn (rws.map fun r => (r1 r.1.2, r.2.1.1, r.2.2)) (r1 gl.1.2) gl.2.1.1).frs nn).out.getD k default < nn → ((opn nn (rws.map fun r => (r1 r.1.2, r.2.1.1, r.2.2)) (r1 gl.1.2) gl.2.1.1).frs nn).goal.getD (k + 1) default = 0) (hD : ∀ c, c < nn → ((opn nn (rws.map fun r => (r1 r.1.2, r.2.1.1, r.2.2)) (r1 gl.1.2) gl.2.1.1).frs nn).sd (((opn nn (rws.map fun r => (r1 r.1.2, r.2.1.1, r.2.2)) (r1 gl.1.2) gl.2.1.1).frs nn).out.getD c default) = true → 0 ≤ ((opn nn (rws.map fun r => (r1 r.1.2, r.2.1.1, r.2.2)) (r1 gl.1.2) gl.2.1.1).frs nn).goal.getD (c + 1) default) : ∃ r, Run Try.prog T E0 (.call 13 [.v (.int .i64 (nn : Int)), .sl kr (rws.map rwc), .agg (rwc gl)] r) ∧ (∃ (v : X) (l1 l2 : List X), r = .agg (.v (.int .i64 2) :: (xc v ++ [.sl 1 (l1.map xc), .sl 0 [], .sl 1 (l2.map xc)])) ∧ v.1 = ((opn nn (rws.map fun r => (r1 r.1.2, r.2.1.1, r.2.2)) (r1 gl.1.2) gl.2.1.1).frs nn).goal.getD 0 default ∧ r1 l1 = ((opn nn (rws.map fun r => (r1 r.1.2, r.2.1.1, r.2.2)) (r1 gl.1.2) gl.2.1.1).frs nn).pnt ∧ r1 l2 = ((opn nn (rws.map fun r => (r1 r.1.2, r.2.1.1, r.2.2)) (r1 gl.1.2) gl.2.1.1).frs nn).mlt ((opn nn (rws.map fun r => (r1 r.1.2, r.2.1.1, r.2.2)) (r1 gl.1.2) gl.2.1.1).frs nn).goal) := by
 refine lQ Try.func13 J J (dK J) <| Ck [0,1,2] J <| Rg 2 J <| bK (gF J J) J <| bK (gE J) J <| Nk [0,1,5,6] J <| dT (z := 5) J <| cX (dQ J) J <| cX (dQ J) J <| cX (aH (l := .agg (rwc gl)) J J (g1 om g0) J J) J <| fF _ (aR fun _ _ h => h) <| kT (ls := [.v (.int .i64 (nn : Int)), .sl kr (rws.map rwc), .agg (rwc gl)]) (Φ := fun r h' n' => (∃ L : Lay, r = .ptr L.q 0 ∧ TM ⟨(83), (3), (41), (46)⟩ h' n' L (.sl kr (rws.map rwc)) (opX nn rws gl.1.2 gl.2.1) ∧ (∀ j, j < 5 + rws.length → 6 ≤ L.id j) ∧ 6 ≤ n' ∧ getH h' 1 = some { cells := [.v (.int .i64 0), .v (.int .i64 0), .sl 0 [], .v (.int .i64 0), .sl 0 [], .sl 0 [], .sl 0 [], .sl 0 []], sz := 8, elem := (53), st := 0 })) J Try.func35 J J (dK J) J ((open_G _ nn kr _ rws gl h0 hn hm hw hg).mono (by rintro x e h m ⟨hx, ls, hr, hP⟩; exact ⟨hx, ls, hr, (by obtain ⟨L, a1, a2, a3, a4, a5⟩ := hP; exact ⟨L, a1, a2, fun j hj => Nat.le_trans om (a3 j hj), Nat.le_trans om a4, a5 _ _ om g0⟩)⟩)) ?_
 rintro r_ ha na ⟨L, rfl, hMa, hida, hna, hoa⟩
 have hOk0 : (opX nn rws gl.1.2 gl.2.1).tb.Ok := opX_ok hn hm hw hg
 have hev0 : (opX nn rws gl.1.2 gl.2.1).eqs = rws.map (·.2.2) := rfl
 have hml0 : (opX nn rws gl.1.2 gl.2.1).cells.length = rws.length := List.length_map ..
 have hol0 : (opX nn rws gl.1.2 gl.2.1).out.length = nn := aX _ _
 refine jM <| Ua J J <| Nk [6,7] J <| aB <| dT (z := 7) J <| cX (dQ J) J <| fF (nrm ha) (aR fun _ _ h => h) <| kT (ls := [.ptr L.q 0]) (Φ := fun r h' n' => (r = .tup [.sl 0 [], .v (.bool true)] ∧ na ≤ n' ∧ TM ⟨(83), (3), (41), (46)⟩ h' n' L (.sl kr (rws.map rwc)) (opX nn rws gl.1.2 gl.2.1) ∧ getH h' 1 = some { cells := [.v (.int .i64 0), .v (.int .i64 0), .sl 0 [], .v (.int .i64 0), .sl 0 [], .sl 0 [], .sl 0 [], .sl 0 []], sz := 8, elem := (53), st := 0 })) J Try.func36 J J (dK J) J ((eqsQ_G _ ha L kr rws (opX nn rws gl.1.2 gl.2.1) (hMa.mono om (fun _ _ _ h => h)) hev0 hOk0 (by rw [hml0]; exact hm1) hno).mono (by rintro x e h m ⟨hx, ls, hr, hP⟩; exact ⟨hx, ls, hr, (by obtain ⟨a1, a2, a3⟩ := hP; exact ⟨a1, om, hMa.mono om (fun j o hj h => a3 _ o (by have := hMa.lt j hj; omega) h), a3 _ _ om hoa⟩)⟩)) ?_
 rintro r_ hb nb ⟨rfl, hnb, hMb, hob⟩
 refine jM <| Um J J <| aA (fD J J) J <| aA (fD J J) J <| Ua J J <| Ua J J <| Nk [6,7,8,9] J <| aB <| Rg 2 J <| Um J J <| aA (fA J) J <| Nk [6,7,8,25] J <| bC J <| aG <| dT (z := 2) J <| cX (dQ J) J <| fF (nrm hb) (aR fun _ _ h => h) <| kT (ls := [.ptr L.q 0]) (Φ := fun r h' n' => (∃ (L' : Lay) (t : TX), TM ⟨(83), (3), (41), (46)⟩ h' n' L' (.sl kr (rws.map rwc)) t ∧ t.tb = ((opn nn (rws.map fun r => (r1 r.1.2, r.2.1.1, r.2.2)) (r1 gl.1.2) gl.2.1.1).frs nn) ∧ t.n = nn ∧ t.eqs = rws.map (·.2.2) ∧ t.cells.length = rws.length ∧ t.out.length = nn ∧ t.tb.Ok ∧ L'.q = L.q ∧ nb ≤ n' ∧ (∀ j, j < 5 + rws.length → 6 ≤ L'.id j) ∧ getH h' 1 = some { cells := [.v (.int .i64 0), .v (.int .i64 0), .sl 0 [], .v (.int .i64 0), .sl 0 [], .sl 0 [], .sl 0 [], .sl 0 []], sz := 8, elem := (53), st := 0 })) J Try.func37 J J (dK J) J ((fre_G _ hb L kr rws (opX nn rws gl.1.2 gl.2.1) β (hMb.mono om (fun _ _ _ h => h)) hev0 hOk0 (fun k hk => by rw [opX_tb]; exact hB k (by rw [hol0] at hk; exact hk)) (by rw [hml0]; exact hm1) (by rw [hol0]; exact h0) h1 hβ).mono (by rintro x e h m ⟨hx, ls, hr, hP⟩; exact ⟨hx, ls, hr, (by obtain ⟨L', t, a1, a2, a3, a4, a5, a6, a7, a8⟩ := hP; refine ⟨L', t, a1, by rw [a2, opX_tb, hol0], a3, a4, a5.trans hml0, a6.trans hol0, a7, a8.qe, by have := a8.le; omega, fun j hj => ?_, a8.keep _ _ om (fun k hk e => by have := hida k om; omega) hob⟩; rcases a8.ids j om with e | e <;> first | (rw [e]; exact hida j hj) | omega)⟩)) ?_
 rintro r_ hc nc ⟨L', t, hMc, htb, hnc', hev, hmc, hoc, hOk, hqe, hnc, hidc, hxc⟩
 have hm1' : 1 ≤ t.cells.length := by omega
 refine jM <| Nk [6,7] J <| aB <| dT (z := 7) J <| cX (dQ J) J <| fF (nrm hc) (aR fun _ _ h => h) ?_
 have hfea := feaQ_G (nc + 7) hc L' kr rws t (hMc.mono om (fun _ _ _ h => h)) hev hOk hm1' (fun i hi hs => jK (by rw [← cellX, htb]; exact hF i om (by rw [← htb]; exact hs)))
 rw [hqe] at hfea
 refine kT (ls := [.ptr L.q 0]) (Φ := fun r h' n' => (r = .tup [.sl 0 [], .v (.bool true)] ∧ nc ≤ n' ∧ TM ⟨(83), (3), (41), (46)⟩ h' n' L' (.sl kr (rws.map rwc)) t ∧ getH h' 1 = some { cells := [.v (.int .i64 0), .v (.int .i64 0), .sl 0 [], .v (.int .i64 0), .sl 0 [], .sl 0 [], .sl 0 [], .sl 0 []], sz := 8, elem := (53), st := 0 })) J Try.func38 J J (dK J) J (hfea.mono (by rintro x e h m ⟨hx, ls, hr, hP⟩; exact ⟨hx, ls, hr, (by obtain ⟨a1, a2, a3⟩ := hP; exact ⟨a1, om, hMc.mono om (fun j o hj h => a3 _ o (by have := hMc.lt j hj; omega) h), a3 _ _ om hxc⟩)⟩)) ?_
 rintro r_ hd nd ⟨rfl, hnd, hMd, hxd⟩
 refine jM <| Um J J <| aA (fD J J) J <| aA (fD J J) J <| Ua J J <| Ua J J <| Nk [6,7,10,11] J <| aB <| Rg 2 J <| Um J J <| aA (fA J) J <| Nk [6,7,10,36] J <| bC J <| aG <| aB ?_
 have hone : t.out ≠ [] := cG (show 0 < t.out.length by omega)
 have hgd : getH hd L.q = some { cells := tbC L' (.sl kr (rws.map rwc)) t, sz := 6, elem := (83), st := 0 } := by rw [← hqe]; exact hMd.tb
 have hgod : getH hd L'.o = some { cells := (t.out.map ic).flatten, sz := 1, elem := (3), st := 0 } := hMd.ou hone
 have hgw := hOk.xg
 refine Rg 6 J <| Um J J <| aA (cO J) J <| aA (aV J J J J J) J <| aA (aH (l := .ref L'.o 1 0 t.out.length) J J hgd J (congrArg some (fE hone))) J <| aA (gR J J) J <| Um J J <| Nk [6,7,42,43,44] J <| aI <| bI (α := Nat) (fun k => [(6, .ptr (0 + 1) 0), (7, .ptr L.q 0), (42, .ref L'.o 1 0 t.out.length), (43, .v (.int .i64 (t.out.length : Int))), (44, .v (.int .i64 (k : Int)))]) (fun k => nrm hd) (fun k n => k ≤ t.out.length ∧ nd ≤ n) (fun k => t.out.length - k) (0) ⟨J, J, J, J, J, trivial⟩ (aR fun _ _ h => h) ⟨Nat.zero_le _, om⟩ ?_
 rintro k n hF
 change WC _ _ _ _ _ [(6, .ptr (0 + 1) 0), (7, .ptr L.q 0), (42, .ref L'.o 1 0 t.out.length), (43, .v (.int .i64 (t.out.length : Int))), (44, .v (.int .i64 (k : Int)))] (nrm hd) n _
 obtain ⟨hk, hnn⟩ := hF
 refine Rg 1 J <| aA (bX J J) J <| bL (fun h45 => ?_) (fun h45 => ?_)
 ·refine Nk [6,7,42,43,44,45] J <| bF J <| aG <| aI <| Rg 5 J <| Um J J <| aA (bV (j := k) J J J J om om J) J <| aA (aO (b := .v (.int .i64 (t.out.getD k default))) (dP (f := ic) (us := t.out) (j := k) J J (nrm_get.trans hgod) (fun _ => rfl) J (by decide) om J) J) J <| Ua J J <| Ua J J <| Nk [6,7,12,13,42,43,44] J <| Rg 18 J <| Um J J <| Um J J <| aA (cO J) J <| aA (aV J J J J J) J <| aA (aH (l := .v (.int .i64 (t.n : Int))) J J (nrm_get.trans hgd) J J) J <| aA (bX J J) J <| bL (fun h54 => ?_) (fun h54 => ?_)
  rotate_left
  ·refine Um J J <| K1 J J <| K1 J J <| K1 J J <| K1 J J <| K1 J J <| K1 J J <| K1 J J <| K1 J J <| K1 J J <| K1 J J <| aA (bU J J) J <| Nk [6,7,12,42,43,44,56,57,58,59,60,61,62,63,64,65,66] J <| cD J <| cE <| aE <| Ck [6,7,42,43,44,56,57,58,59,60,61,62,63,64,65] J <| aL (z := 2) J <| aA (cI (((k + 1 : Nat) : Int)) (aU J J om) om) J <| Um J J <| Wn <| aF <| ⟨k + 1, ⟨J, J, J, J, J, trivial⟩, aR fun _ _ h => nrm_get.trans h, ⟨om, om⟩, by show t.out.length - (k + 1) < t.out.length - k; omega⟩
  refine Um J J <| aM J (dQ J) J <| aM J (cO J) J <| aM J (aV J J J J J) J <| aM J (aH (l := .ref L'.g 4 0 t.goal.length) J J (nrm_get.trans hgd) J J) J <| aM J (dQ J) J <| aM J (cI (((k + 1 : Nat) : Int)) (aU J J om) om) J <| aM J (bV (j := k + 1) J J J J om om J) J <| aM J (aO (b := lvX (t.goal.getD (k + 1) default)) (dP (f := xc) (us := t.goal) (j := k + 1) J J (nrm_get.trans hMd.gl) (fun _ => rfl) J (by decide) om J) J) J <| aM J (aJ J (eP (t.goal.getD (k + 1) default)) dD) J <| aM J (lD J J) J <| bL (fun h65 => ?_) (fun h65 => ?_)
  ·exact absurd (gQ.2 (by rw [← goalX, htb]; exact hZ k om (by rw [← htb]; show (t.out.getD k default) < (nn : Int); omega))) h65
  refine aA (bT J J) J <| Nk [6,7,12,42,43,44,56,57,58,59,60,61,62,63,64,65,66] J <| cD J <| cE <| aE <| Ck [6,7,42,43,44,56,57,58,59,60,61,62,63,64,65] J <| aL (z := 2) J <| aA (cI (((k + 1 : Nat) : Int)) (aU J J om) om) J <| Um J J <| Wn <| aF <| ⟨k + 1, ⟨J, J, J, J, J, trivial⟩, aR fun _ _ h => nrm_get.trans h, ⟨om, om⟩, by show t.out.length - (k + 1) < t.out.length - k; omega⟩
 refine Nk [6,7,42,43,44,45] J <| bC J <| bB <| aW <| aQ J <| Ck [6,7] J <| aB <| dT (z := 3) J <| cX (dQ J) J ?_
 have hdes := desQ_G (n + 1 + 3) hd L' kr rws t (hMd.mono om (fun _ _ _ h => h)) hev hOk om (fun c hc hs => jK (by rw [← goalX, htb]; exact hD c om (by rw [← htb]; exact hs)))
 rw [hqe] at hdes
 refine kT (ls := [.ptr L.q 0]) (Φ := fun r h' n' => (r = .v (.int .i64 (-1)) ∧ n ≤ n' ∧ h' = nrm hd)) J Try.func41 J J (dK J) J (hdes.mono (by rintro x e h m ⟨hx, ls, hr, hP⟩; exact ⟨hx, ls, hr, (by obtain ⟨a1, a2, a3⟩ := hP; exact ⟨a1, om, a3⟩)⟩)) ?_
 rintro r_ h' ne ⟨rfl, hne, rfl⟩
 refine jM <| Ua J J <| Nk [6,7,14] J <| aB <| Rg 2 J <| Um J J <| aA (iT J J) J <| bL (fun h88 => ?_) (fun h88 => ?_)
 ·exact absurd h88 (by decide)
 refine Nk [6,7,14,88] J <| bC J <| aG ?_
 have hqg : L.q ≠ L'.g := by rw [← hqe]; exact hMd.ne (i := 0) (j := 4) om om om
 have hq6 : 6 ≤ L.q := hida 0 om
 have hg6 : 6 ≤ L'.g := hidc 4 om
 refine jO (z := 16) J kR <| WX.U (dQ J) J <| WX.U (cO J) J <| WX.U (aV J J J J J) J <| WX.U (aH (l := .ref L'.g 4 0 t.goal.length) J J (nrm_get.trans hgd) J J) J <| WX.U (bV (j := 0) J J J J om om J) J <| WX.U (aO (b := lvX (t.goal.getD 0 default)) (dP (f := xc) (us := t.goal) (j := 0) J J (nrm_get.trans hMd.gl) (fun _ => rfl) J (by decide) om J) J) J <| WX.U (dQ J) J ?_
 have hpnt := pnt_G (ne + 2 + 16) hd L' kr rws t (hMd.mono om (fun _ _ _ h => h)) hev hOk hm1'
 rw [hqe] at hpnt
 refine WX.G (ls := [.ptr L.q 0]) (Φ := fun r h' n' => ∃ (q : Nat) (l : List X), r = .ref q 4 0 l.length ∧ r1 l = t.tb.pnt ∧ getH h' q = some (obX (46) l) ∧ 6 ≤ q ∧ q < n' ∧ ne ≤ n' ∧ TM ⟨(83), (3), (41), (46)⟩ h' n' L' (.sl kr (rws.map rwc)) t ∧ getH h' 1 = some { cells := [.v (.int .i64 0), .v (.int .i64 0), .sl 0 [], .v (.int .i64 0), .sl 0 [], .sl 0 [], .sl 0 [], .sl 0 []], sz := 8, elem := (53), st := 0 }) [L.q, L'.g] J J Try.func39 J J (dK J) J (hpnt.mono (by rintro x e h m ⟨hx, ls, hr, hP⟩; exact ⟨hx, ls, hr, (by obtain ⟨q, l, a1, a2, a3, a4, a5, a6, a7, a8⟩ := hP; exact ⟨q, l, a1, a2, a4, om, a6, om, hMd.mono om (fun j o hj h => a8 _ o (by have := hMd.lt j hj; omega) h), a8 _ _ om hxd⟩)⟩)) ?_
 rintro r_ hp np ⟨q1, l1, rfl, hl1, hq1, hq1a, hq1b, hnp, hMp, hxp⟩
 refine ⟨fun k hk => ?_, ?_⟩
 ·simp only [List.mem_cons, List.not_mem_nil, or_false] at hk
  rcases hk with rfl | rfl
  ·exact ⟨_, nrm_get.trans hgd, by rw [← hqe]; exact hMp.tb⟩
  ·exact ⟨_, nrm_get.trans hMd.gl, hMp.gl⟩
 have hgp : getH hp L.q = some { cells := tbC L' (.sl kr (rws.map rwc)) t, sz := 6, elem := (83), st := 0 } := by rw [← hqe]; exact hMp.tb
 refine WX.weakM (nrm hp) (aR fun _ _ h => h) <| WX.U (dQ J) J <| WX.U (dQ J) J <| WX.U (cO J) J <| WX.U (aV J J J J J) J <| WX.U (aH (l := .ref L'.g 4 0 t.goal.length) J J (nrm_get.trans hgp) J J) J ?_
 have hmlt := mlt_G np hp L' kr rws t hMp hev hOk L'.g t.goal (hMp.lt 4 om) hMp.gl hOk.xg om
 rw [hqe] at hmlt
 refine WX.G (ls := [.ptr L.q 0, .ref L'.g 4 0 t.goal.length]) (Φ := fun r h' n' => ∃ (q : Nat) (l : List X), r = .ref q 4 0 l.length ∧ r1 l = t.tb.mlt (r1 t.goal) ∧ getH h' q = some (obX (46) l) ∧ np ≤ q ∧ q < n' ∧ np ≤ n' ∧ TM ⟨(83), (3), (41), (46)⟩ h' n' L' (.sl kr (rws.map rwc)) t ∧ getH h' 1 = some { cells := [.v (.int .i64 0), .v (.int .i64 0), .sl 0 [], .v (.int .i64 0), .sl 0 [], .sl 0 [], .sl 0 [], .sl 0 []], sz := 8, elem := (53), st := 0 } ∧ getH h' q1 = some (obX (46) l1)) [L.q, L'.g] J J Try.func42 J J (dK J) J (hmlt.mono (by rintro x e h m ⟨hx, ls, hr, hP⟩; exact ⟨hx, ls, hr, (by obtain ⟨q, l, a1, a2, a3, a4, a5, a6, a7, a8⟩ := hP; exact ⟨q, l, a1, a2, a4, a5, a6, a7, hMp.mono om (fun j o hj h => a8 _ o (by have := hMp.lt j hj; omega) h), a8 _ _ om hxp, a8 _ _ om hq1⟩)⟩)) ?_
 rintro r_ hz nz ⟨q2, l2, rfl, hl2, hq2, hq2a, hq2b, hnz, hMz, hxz, hq1z⟩
 have hgz : getH hz L.q = some { cells := tbC L' (.sl kr (rws.map rwc)) t, sz := 6, elem := (83), st := 0 } := by rw [← hqe]; exact hMz.tb
 refine ⟨fun k hk => ?_, ?_⟩
 ·simp only [List.mem_cons, List.not_mem_nil, or_false] at hk
  rcases hk with rfl | rfl
  ·exact ⟨_, nrm_get.trans hgp, hgz⟩
  ·exact ⟨_, nrm_get.trans hMp.gl, hMz.gl⟩
 refine WX.U (iF (cs := [_, _, _, _, _, _, _, _]) J J J J J) J <| WX.S0 (cV (cs' := [_, _, _, _, _, _, _, _]) J J J hxz J J J J) <| WX.nil (kD (fun k => ([L.q, L'.g, 0 + 1]).getD k 0) 3 [⟨0, [], [], false⟩, ⟨1, [], [], false⟩, ⟨2, [], [], false⟩, ⟨3, [], [0], false⟩, ⟨4, [], [], false⟩, ⟨5, [], [1], false⟩, ⟨6, [], [], false⟩, ⟨7, [], [0, 1], true⟩, ⟨8, [], [], false⟩, ⟨9, [], [], false⟩, ⟨10, [], [], false⟩, ⟨11, [], [], false⟩, ⟨12, [], [0], false⟩, ⟨13, [], [0, 1], true⟩, ⟨14, [], [], false⟩, ⟨15, [2], [2], false⟩] (by decide) (by intro x y hx hy h; rcases x with _ | _ | _ | x <;> rcases y with _ | _ | _ | y <;> simp at h <;> omega) kR) <| Ck [6] J <| aP <| ⟨_, ⟨t.goal.getD 0 default, l1, l2, rfl, by rw [← goalX, htb], by rw [← htb]; exact hl1, by rw [← htb]; exact hl2⟩, qZ (S := [q1, q2]) (.inr J) J ?_ ?_⟩
 ·exact .data (.v _) (.datas (ls := xc (t.goal.getD 0 default)) (kF _) (.own (ob := obX (46) l1) (l1.map xc) (by rw [List.length_map]) (g1 om hq1z) (by show ¬ (0 : Nat) = 2; decide) J (by decide) (by simp) J (cQ (f := xc) fun _ => rfl) (bA kF) (.data (.sl _ _ (by simp)) (.own (ob := obX (46) l2) (l2.map xc) (by rw [List.length_map]) (g1 om hq2) (by show ¬ (0 : Nat) = 2; decide) J (by decide) (by simp) J (cQ (f := xc) fun _ => rfl) (bA kF) .nil))))
 ·intro q hq
  simp only [List.mem_cons, List.not_mem_nil, or_false] at hq
  rcases hq with rfl | rfl
  ·exact ⟨_, g1 om hq1z, by show ¬ (0 : Nat) = 2; decide⟩
  ·exact ⟨_, g1 om hq2, by show ¬ (0 : Nat) = 2; decide⟩
end Go.Proofs.Ytohfklpfeilcpaa
namespace Go.Proofs.Ytohfklpfeilcpaa
open Go.Ab Go.RowKit
theorem gmapDX {α β : Type} [Inhabited α] [Inhabited β] (f : α → β) {l : List α} {j : Nat} (hj : j < l.length) : (l.map f).getD j default = f (l.getD j default) := by
 rw [List.getD_eq_getElem?_getD, List.getElem?_map, List.getD_eq_getElem?_getD, List.getElem?_eq_getElem hj]; rfl
theorem times_run (r : RW) (k : X) (hl : r.1.2.length ≤ 100000) (β : Nat) (h1 : 1 ≤ β) (hβ : β ≤ 1000000000) (hb : ∀ x, x ∈ r.1.2 → Bd β x.1) (ha : Bd β r.2.1.1) (hk : Bd β k.1) : Run Try.prog T E0 (.call 11 [.agg (rwc r), lvX k] (.agg (rwc ((1, r.1.2.map fun x => xmul x k), xmul r.2.1 k, r.2.2)))) := by
 refine bM Try.func11 J J (dK J) <| Ck [0,1] J <| Rg 3 J <| bK (gF J J) J <| bK (gF J J) J <| bK (gE J) J <| Nk [2,3,4] J <| bS (z := 13) J kR <| aC (aV J J J J J) J <| aC (aH (l := .sl r.1.1 (r.1.2.map xc)) J J gG J J) J ?_
 refine aC (aO (b := .v (.int .i64 (r.1.2.length : Int))) (bO J J) J) J <| WD.S (oMk (a := r.1.2.length) (b := r.1.2.length) J J J J om om (by decide) om (by show 64 * r.1.2.length ≤ _; omega) om) J <| aC (aV J J J J J) J <| aC (aH (l := lvX r.2.1) J J gG J J) J ?_
 refine aC (aH (l := lvX k) J J gG J J) J ?_
 refine aC (aJ J (jW r.2.1 k (ha.mono om) (hk.mono om)) (aK (by intro c hc; simp only [List.mem_cons, List.not_mem_nil, or_false] at hc; rcases hc with rfl | rfl; exact jN; exact jN))) J <| aC (aV J J J J J) J <| aC (aH (l := .v (.bool r.2.2)) J J gG J J) J ?_
 refine aC (aO (b := .agg (.ref (3 + 3) 4 0 r.1.2.length :: (xc (xmul r.2.1 k) ++ [.v (.bool r.2.2)]))) (iF (cs := [_, _, _, _, _, _]) J J J J J) J) J <| WD.S (gE J) J <| cN (cV (cs' := (.ref (3 + 3) 4 0 r.1.2.length :: (xc (xmul r.2.1 k) ++ [.v (.bool r.2.2)]))) J J J g0 J J J J) <| bJ (aT kR) J <| Ck [2,3,4,5] J <| aB <| Rg 4 J <| aA (aV J J J J J) J <| aA (aH (l := .sl r.1.1 (r.1.2.map xc)) J J gG J J) J ?_
 refine aA (aO (b := .v (.int .i64 (r.1.2.length : Int))) (bO J J) J) J <| Um J J <| Nk [3,4,5,20,21,22] J <| aI <| bI (α := Nat × (List X) × Hp) (fun ⟨i, us, hh⟩ => [(3, .ptr (0 + 1) 0), (4, .ptr (0 + 2) 0), (5, .ptr (3 + 11) 0), (20, .sl r.1.1 (r.1.2.map xc)), (21, .v (.int .i64 (r.1.2.length : Int))), (22, .v (.int .i64 (i : Int)))]) (fun ⟨i, us, hh⟩ => nrm hh) (fun ⟨i, us, hh⟩ n => i ≤ r.1.2.length ∧ us.length = r.1.2.length ∧ (∀ j, j < i → us.getD j default = xmul (r.1.2.getD j default) k) ∧ getH hh (0 + 1) = some { cells := xc (k), sz := 4, elem := (46), st := 0 } ∧ getH hh (0 + 2) = some { cells := rwc ((0, []), x0, false), sz := 6, elem := (48), st := 0 } ∧ getH hh (3 + 11) = some { cells := (.ref (3 + 3) 4 0 r.1.2.length :: (xc (xmul r.2.1 k) ++ [.v (.bool r.2.2)])), sz := 6, elem := (48), st := 0 } ∧ getH hh (3 + 3) = some { cells := (us.map xc).flatten, sz := 4, elem := (46), st := 0 } ∧ 16 ≤ n) (fun ⟨i, us, hh⟩ => r.1.2.length - i) (0, List.replicate r.1.2.length x0, _) ⟨J, J, J, J, J, J, trivial⟩ (aR fun _ _ h => h) ⟨Nat.zero_le _, List.length_replicate, fun j hj => absurd hj om, (by repeat (first | exact g0 | exact nrm_get.trans J | refine g1 om ?_)), (by repeat (first | exact g0 | exact nrm_get.trans J | refine g1 om ?_)), g0, (by repeat (first | exact g0.trans (by rw [List.map_replicate]; rfl) | refine g1 om ?_)), om⟩ ?_
 rintro ⟨i, us, hh⟩ n hF
 change WC _ _ _ _ _ [(3, .ptr (0 + 1) 0), (4, .ptr (0 + 2) 0), (5, .ptr (3 + 11) 0), (20, .sl r.1.1 (r.1.2.map xc)), (21, .v (.int .i64 (r.1.2.length : Int))), (22, .v (.int .i64 (i : Int)))] (nrm hh) n _
 obtain ⟨hi, hul, hus, hg1, hg2, hg3, hg4, hnn⟩ := hF
 refine Rg 1 J <| aA (bX J J) J <| bL (fun h23 => ?_) (fun h23 => ?_)
 rotate_left
 ·refine Nk [3,4,5,20,21,22,23] J <| bC J <| bB <| aW <| aQ J <| Ck [4,5] J <| Rg 2 J <| aA (aH (l := .agg (.ref (3 + 3) 4 0 r.1.2.length :: (xc (xmul r.2.1 k) ++ [.v (.bool r.2.2)]))) J J (nrm_get.trans hg3) J J) J <| bG (cV (cs' := (.ref (3 + 3) 4 0 r.1.2.length :: (xc (xmul r.2.1 k) ++ [.v (.bool r.2.2)]))) J J J (nrm_get.trans hg2) J J J J) <| Nk [4] J <| aP ?_
  have hu : us = r.1.2.map fun x => xmul x k := by
   refine iO (by rw [hul, List.length_map]) fun j hj => ?_
   rw [hus j om, gmapDX _ om]
  subst hu
  refine qZ (S := [3 + 3]) (.inr J) J ?_ ?_
  ·exact .own (ob := obX (46) _) _ (by rw [List.length_map, List.length_map]) (g1 om (nrm_get.trans hg4)) (by show ¬ (0 : Nat) = 2; decide) J (by decide) (by simp) J (cQ (f := xc) fun _ => rfl) (bA kF) (.datas (ls := xc _) (kF _) (.data (.v _) .nil))
  ·intro q hq
   rw [List.mem_singleton] at hq
   subst hq
   exact ⟨_, g1 om (nrm_get.trans hg4), by show ¬ (0 : Nat) = 2; decide⟩
 refine Nk [3,4,5,20,21,22,23] J <| bF J <| aG <| aI <| Rg 6 J <| Um J J <| aA (cZ (j := i) J J J J om om J) J <| aA (gC (l := lvX (r.1.2.getD i default)) J J J) J <| bK (gE J) J <| Ua J J <| bG (cV (cs' := xc (r.1.2.getD i default)) J J J g0 J J J J) <| Nk [3,4,5,6,7,20,21,22] J ?_
 have hbi := hb _ (bN (us := r.1.2) (i := i) om)
 refine dC (z := 8) J kR <| aC (aV J J J J J) J <| aC (aH (l := .ref (3 + 3) 4 0 r.1.2.length) J J (by repeat (first | exact g0 | exact nrm_get.trans hg3 | refine g1 om ?_)) J J) J ?_
 refine Dm J J <| aC (aH (l := lvX (r.1.2.getD i default)) J J (by repeat (first | exact g0 | exact nrm_get.trans g0 | refine g1 om ?_)) J J) J ?_
 refine aC (aH (l := lvX k) J J (by repeat (first | exact g0 | exact nrm_get.trans hg1 | refine g1 om ?_)) J J) J ?_
 refine aC (aJ J (jW (r.1.2.getD i default) k (hbi.mono om) (hk.mono om)) (aK (by intro c hc; simp only [List.mem_cons, List.not_mem_nil, or_false] at hc; rcases hc with rfl | rfl; exact jN; exact jN))) J <| aC (bV (j := i) J J J J om om J) J <| cN (fB (f := xc) (us := us) (xmul (r.1.2.getD i default) k) J J J (by repeat (first | exact g0 | exact nrm_get.trans hg4 | refine g1 om ?_)) (fun _ => rfl) J J om J) ?_
 refine bJ (aT kR) J <| aE <| Ck [3,4,5,20,21,22] J <| aL (z := 2) J <| aA (cI (((i + 1 : Nat) : Int)) (aU J J om) om) J <| Um J J <| Wn <| aF <| ⟨⟨i + 1, us.set i (xmul (r.1.2.getD i default) k), _⟩, ⟨J, J, J, J, J, J, trivial⟩, aR fun _ _ h => h, ⟨om, by rw [List.length_set]; exact hul, fun j hj => ?_, (by repeat (first | exact g0 | exact nrm_get.trans hg1 | refine g1 om ?_)), (by repeat (first | exact g0 | exact nrm_get.trans hg2 | refine g1 om ?_)), (by repeat (first | exact g0 | exact nrm_get.trans hg3 | refine g1 om ?_)), (by repeat (first | exact g0 | exact nrm_get.trans hg4 | refine g1 om ?_)), om⟩, by show r.1.2.length - (i + 1) < r.1.2.length - i; omega⟩
 rw [dH om]
 by_cases e : i = j
 ·subst e; rw [if_pos rfl]
 ·rw [if_neg e]; exact hus j om
end Go.Proofs.Ytohfklpfeilcpaa
namespace Go.Proofs.Ytohfklpfeilcpaa
open Go.Ab Go.RowKit
theorem gset_getD' {α : Type} [Inhabited α] {l : List α} {i j : Nat} {a : α} (hi : i < l.length) : (l.set i a).getD j default = if i = j then a else l.getD j default := by
 by_cases e : i = j
 ·subst e; rw [if_pos rfl, List.getD_eq_getElem?_getD, List.getElem?_set_self hi]; rfl
 ·rw [if_neg e, List.getD_eq_getElem?_getD, List.getElem?_set_ne e, ← List.getD_eq_getElem?_getD]
theorem mG {α : Type} {f : α → List LV} {us : List α} {u : α} : ((us ++ [u]).map f).flatten = (us.map f).flatten ++ f u := by simp
theorem nratsO_run (k : Nat) (ns : List NM) (ln : ns.length < 1099511627776) (hI : IV ns) (h0 : ∀ a, a ∈ ns → a.2 ≠ 0) (hne : 0 < ns.length) : ∃ sz len ob, Run Try.prog T E0 (.callO 10 [.sl k (ns.map mc)] (.ref 0 sz 0 len) ob) ∧ sz = 4 ∧ len = ns.length ∧ ob = obX (46) (ns.map nx) := by
 refine mkcallO Try.func10 J J (dK J) <| Rg 1 J <| Ua J J <| Wn <| Rg 1 J <| Ua J J <| Wn <| aB <| Rg 3 J <| Um J J <| aA (bO J J) J <| Um J J <| Wn <| aI <| bI (α := Nat × Nat × (List X)) (fun ⟨i, q, ds⟩ => [(3, outV q 4 (ds.map xc)), (6, .sl k (ns.map mc)), (7, .v (.int .i64 (ns.length : Int))), (8, .v (.int .i64 (i : Int)))]) (fun ⟨i, q, ds⟩ => outH q 4 46 (ds.map xc) []) (fun ⟨i, q, ds⟩ n => i ≤ ns.length ∧ ds = (ns.take i).map nx ∧ ds.length = i ∧ q < n) (fun ⟨i, q, ds⟩ => ns.length - i) (0, 0, []) ⟨J, J, J, J, trivial⟩ trivial ⟨Nat.zero_le _, by simp, rfl, om⟩ ?_
 rintro ⟨i, q, ds⟩ n hF
 change WC _ _ _ _ _ (_ :: _) (outH _ _ _ _ _) n _
 obtain ⟨hi, hds, hdl, hq⟩ := hF
 refine Rg 1 J <| aA (bX J J) J <| bL (fun h9 => ?_) (fun h9 => ?_)
 rotate_left
 ·refine Wn <| bC J <| bB <| aW <| aQ J <| Rg 2 J <| Um J J <| Ua J J <| Wn <| aP ?_
  rw [List.take_of_length_le om] at hds
  subst hds
  have hdn : (ns.map nx).map xc ≠ [] := fun e => by
   have := congrArg List.length e
   rw [List.length_map, List.length_map] at this
   change ns.length = 0 at this
   omega
  rw [outH_ne hdn]
  refine ⟨4, ns.length, obX (46) (ns.map nx), ⟨rfl, rfl, rfl⟩, .inr J, q, ?_, g0, rfl, rfl, ?_⟩
  ·show some [outV q 4 ((ns.map nx).map xc)] = _
   rw [fT hdn, List.length_map, List.length_map]
  ·intro c hc; obtain ⟨row, hr, hc⟩ := List.mem_flatten.1 hc; exact bA kF row hr c hc
 refine Wn <| bF J <| aG <| aI <| Rg 4 J <| aA (cZ J J J J J om J) J <| aA (gC (l := .agg [_, _]) J J J) J <| bK (gE J) J <| bG (cV (cs' := [_, _]) J J J g0 J J J J) <| dR ?_
 have hm := bN (us := ns) (i := i) om
 refine aL (z := 6) J <| Um J J <| aA (aH (l := .agg [_, _]) J J g0 J J) J <| aA (aJ J (iE (ns.getD i default) (hI _ hm).1 (hI _ hm).2 (h0 _ hm)) dD) J <| aA (eV (cs := [_, _, _, _]) (rows := [[_, _, _, _]]) J J (by decide) J J J) J <| lG (outH q 4 46 ((ds).map xc) []) (Hp.le_skip (gA om J) (Hp.le_skip (gA om J) (Hp.le_refl _))) <| qI (te := ti46) (f := xc) (q := q) (us := ds) (u := (nx (ns.getD i default))) J J J J J (fun _ => rfl) (by decide) (by show (2 * (ds.length + 1) + 256) * 64 ≤ _; omega) om J J J <| Ua J J <| Wn <| aE <| aL (z := 2) J <| aA (cI (((i + 1 : Nat) : Int)) (aU J J om) om) J <| Um J J <| Wn <| aF <| ⟨⟨i + 1, _, ds ++ [nx (ns.getD i default)]⟩, ⟨J, J, J, J, trivial⟩, kJ, ⟨om, by rw [iK om, hds], by simp; omega, om⟩, by show ns.length - (i + 1) < ns.length - i; omega⟩
theorem lrows_run (p : PB) (nn : Nat) (hnn : p.2.2.2.length = nn) (h1n : 1 ≤ nn) (hn40 : nn ≤ 1000) (hm40 : p.1.2.length ≤ 1000) (hI : IP p) (hrl : p.2.1.2.length = p.1.2.length) (hw : ∀ r, r ∈ p.1.2 → r.2.length = nn) (hv : ∀ r, r ∈ p.1.2 → ∀ a, a ∈ r.2 → a.2 ≠ 0) (hvr : ∀ a, a ∈ p.2.1.2 → a.2 ≠ 0) : Run Try.prog T E0 (.call 14 [lvPb p] (.sl 1 ((rowsX p).map rwc))) := by
 refine bM Try.func14 J J (dK J) <| Ck [0] J <| Rg 2 J <| bK (gF J J) J <| Ua J J <| Nk [1] J <| Rg 4 J <| aA (aV J J J J J) J <| aA (aH (l := .sl p.2.2.1 (p.2.2.2.map mc)) J J gG J J) J ?_
 refine aA (bO J J) J <| Ua J J <| Nk [1,3] J <| Rg 1 J <| Ua J J <| Nk [1,3,4] J <| aB <| Rg 4 J <| aA (aV J J J J J) J <| aA (aH (l := .sl p.1.1 (p.1.2.map fM)) J J gG J J) J ?_
 refine aA (bO J J) J <| Um J J <| Nk [1,3,4,15,16,17] J <| aI <| bI (α := Nat × Nat × Hp) (fun ⟨i, qo, hh⟩ => [(1, .ptr (0 + 0) 0), (3, .v (.int .i64 (p.2.2.2.length : Int))), (4, outV qo 6 ((tab i (rowA p)).map rwc)), (15, .sl p.1.1 (p.1.2.map fM)), (16, .v (.int .i64 (p.1.2.length : Int))), (17, .v (.int .i64 (i : Int)))]) (fun ⟨i, qo, hh⟩ => nrm hh) (fun ⟨i, qo, hh⟩ n => i ≤ p.1.2.length ∧ 0 < qo ∧ qo < n ∧ getH hh 0 = some { cells := pbc p, sz := 3, elem := (27), st := 0 } ∧ ((tab i (rowA p)).map rwc ≠ [] → getH hh qo = some { cells := ((tab i (rowA p)).map rwc).flatten, sz := 6, elem := (48), st := 0 })) (fun ⟨i, qo, hh⟩ => p.1.2.length - i) (0, 2, _) ⟨J, J, J, J, J, J, trivial⟩ (aR fun _ _ h => h) ⟨Nat.zero_le _, om, om, gG, fun h => absurd J h⟩ ?_
 rintro ⟨i, qo, hh⟩ n hF
 change WC _ _ _ _ _ [(1, .ptr (0 + 0) 0), (3, .v (.int .i64 (p.2.2.2.length : Int))), (4, outV qo 6 ((tab i (rowA p)).map rwc)), (15, .sl p.1.1 (p.1.2.map fM)), (16, .v (.int .i64 (p.1.2.length : Int))), (17, .v (.int .i64 (i : Int)))] (nrm hh) n _
 obtain ⟨hi, hq0, hqn, hgp, hgo⟩ := hF
 refine Rg 1 J <| aA (bX J J) J <| bL (fun h18 => ?_) (fun h18 => ?_)
 rotate_left
 ·refine Nk [1,3,4,15,16,17,18] J <| bC J <| bB <| aW <| aQ J <| Ck [3,4] J <| aB <| Rg 2 J <| Um J J <| Um J J <| Nk [3,4,53,54] J <| aI ?_
  obtain rfl : i = p.1.2.length := by omega
  refine bI (α := Nat × Nat × Hp) (fun ⟨k, qo, hh⟩ => [(3, .v (.int .i64 (p.2.2.2.length : Int))), (4, outV qo 6 ((tab p.1.2.length (rowA p) ++ tab k (rowB p.2.2.2.length)).map rwc)), (53, .v (.int .i64 (p.2.2.2.length : Int))), (54, .v (.int .i64 (k : Int)))]) (fun ⟨k, qo, hh⟩ => nrm hh) (fun ⟨k, qo, hh⟩ n => k ≤ p.2.2.2.length ∧ 0 < qo ∧ qo < n ∧ getH hh 0 = some { cells := pbc p, sz := 3, elem := (27), st := 0 } ∧ ((tab p.1.2.length (rowA p) ++ tab k (rowB p.2.2.2.length)).map rwc ≠ [] → getH hh qo = some { cells := ((tab p.1.2.length (rowA p) ++ tab k (rowB p.2.2.2.length)).map rwc).flatten, sz := 6, elem := (48), st := 0 })) (fun ⟨k, qo, hh⟩ => p.2.2.2.length - k) (0, qo, _) ⟨rfl, congrArg some (by rw [show tab 0 (rowB p.2.2.2.length) = [] from J, List.append_nil]), rfl, rfl, trivial⟩ (aR fun _ _ h => h) ⟨Nat.zero_le _, hq0, om, nrm_get.trans hgp, fun h => by rw [show tab 0 (rowB p.2.2.2.length) = [] from J, List.append_nil] at h ⊢; exact nrm_get.trans (hgo h)⟩ ?_
  rintro ⟨k, qo, hh⟩ n hF
  change WC _ _ _ _ _ [(3, .v (.int .i64 (p.2.2.2.length : Int))), (4, outV qo 6 ((tab p.1.2.length (rowA p) ++ tab k (rowB p.2.2.2.length)).map rwc)), (53, .v (.int .i64 (p.2.2.2.length : Int))), (54, .v (.int .i64 (k : Int)))] (nrm hh) n _
  obtain ⟨hk, hq0, hqn, hgp, hgo⟩ := hF
  refine Rg 1 J <| aA (bX J J) J <| bL (fun h55 => ?_) (fun h55 => ?_)
  rotate_left
  ·refine Nk [3,4,53,54,55] J <| bC J <| bB <| aW <| aQ J <| Ck [4] J <| Rg 2 J <| Um J J <| Ua J J <| Nk [2] J <| aP ?_
   obtain rfl : k = p.2.2.2.length := by omega
   have hne : (rowsX p).map rwc ≠ [] := fun e => by
    have := congrArg List.length e
    unfold rowsX at this
    rw [List.length_map, List.length_append, aX, aX] at this
    change _ + _ = 0 at this
    omega
   have hgo' := hgo hne
   refine nZ (n := 0) (sz := 6) ((rowsX p).map rwc) (.inr J) ?_ J (nrm_get.trans hgo') (by show ¬ (0 : Nat) = 2; decide) J (by decide) J (cQ (f := rwc) fun _ => rfl) (bA drwc)
   show some [outV qo 6 ((rowsX p).map rwc)] = _
   rw [fT hne]
  refine Nk [3,4,53,54,55] J <| bF J <| aG <| aI <| Rg 2 J <| Um J J <| Ua J J <| Nk [3,4,9,53,54] J <| Rg 5 J <| Um J J <| bK (oMk (a := p.2.2.2.length) (b := p.2.2.2.length) J J J J om om (by decide) om (by show 64 * p.2.2.2.length ≤ _; omega) om) J <| aA (aO (b := .agg (.ref (n + 1 + 2 + 1) 4 0 p.2.2.2.length :: (xc x0 ++ [.v (.bool false)]))) (iF (cs := [_, _, _, _, _, _]) J J J J J) J) J <| bK (gE J) J <| bG (cV (cs' := .ref (n + 1 + 2 + 1) 4 0 p.2.2.2.length :: (xc x0 ++ [.v (.bool false)])) J J J g0 J J J J) <| Nk [3,4,9,10,53,54] J <| bS (z := 6) J kR <| aC (aV J J J J J) J <| aC (aH (l := .ref (n + 1 + 2 + 1) 4 0 p.2.2.2.length) J J g0 J J) J <| Dm J J <| aC (aO (b := lvX (xint 1)) (aJ J (mS 1 (by decide)) (aK (by intro c hc; rw [List.mem_singleton] at hc; subst hc; exact .v _))) J) J <| aC (bV (j := k) J J J J om om J) J ?_
  refine cN (fB (f := xc) (us := List.replicate p.2.2.2.length x0) (xint 1) J J J (g1 om (g1 om (g0.trans (by rw [List.map_replicate]; rfl)))) (fun _ => rfl) J J (by rw [List.length_replicate]; omega) J) <| bJ (aT kR) J <| Ck [3,4,10,53,54] J <| WC.reg1F (z := 5) J <| Um J J <| aA (aH (l := .agg (.ref (n + 1 + 2 + 1) 4 0 p.2.2.2.length :: (xc x0 ++ [.v (.bool false)]))) J J (g1 om g0) J J) J <| aA (aO (b := .sl 2 [.ref (n + 1 + 2 + 1) 4 0 p.2.2.2.length :: (xc x0 ++ [.v (.bool false)])]) (eV (cs := [_, _, _, _, _, _]) (rows := [[_, _, _, _, _, _]]) J J (by decide) J J J) J) J <| WO.apL (te := ti48) (q := qo) (us := (tab p.1.2.length (rowA p) ++ tab k (rowB p.2.2.2.length)).map rwc) (row := (.ref (n + 1 + 2 + 1) 4 0 p.2.2.2.length :: (xc x0 ++ [.v (.bool false)]))) J J J J J (cQ (f := rwc) fun _ => rfl) J (by decide) (by rw [List.length_map, List.length_append, aX, aX]; show (2 * (_ + k + 1) + 256) * 96 ≤ _; omega) (by rw [List.length_map, List.length_append, aX, aX]; omega) (fun h => (by repeat (first | exact g0 | exact nrm_get.trans (hgo h) | refine g1 om ?_))) J ?_
  intro hX hXo hXk
  refine Ua J J <| dR ?_
  have hu : (tab p.1.2.length (rowA p) ++ tab k (rowB p.2.2.2.length)) ++ [rowB p.2.2.2.length k] = tab p.1.2.length (rowA p) ++ tab (k + 1) (rowB p.2.2.2.length) := by rw [List.append_assoc, ← eQ]
  refine Fz.app (r := n + 1 + 2 + 5 + 6 + 3) (A := ((tab p.1.2.length (rowA p) ++ tab k (rowB p.2.2.2.length)).map rwc).flatten) (B := xc x0 ++ [.v (.bool false)]) (q := n + 1 + 2 + 1) (ys := ((List.replicate p.2.2.2.length x0).set k (xint 1)).map xc) (el2 := (46)) (L := [(0, { cells := pbc p, sz := 3, elem := (27), st := 0 })]) [(3, _), (4, _), (53, _), (54, _)] ⟨J, J, J, J, trivial⟩ om (hXk _ _ om (fun _ => by omega) g0) (by rw [List.length_map, List.length_set, List.length_replicate]; exact hXo) (fun t o ht => ?_) (by decide) (cQ (f := xc) fun _ => rfl) (bA kF) ?_
  ·by_cases e : 0 = t
   ·subst e; rw [g0] at ht; cases ht; exact ⟨om, hXk _ _ om (fun _ => by omega) (by repeat (first | exact g0 | exact nrm_get.trans hgp | refine g1 om ?_))⟩
   ·rw [show getH [(0, _)] t = none from g1 e rfl] at ht; cases ht
  refine aE <| Ck [3,4,53,54] J <| aL (z := 2) J <| aA (cI (((k + 1 : Nat) : Int)) (aU J J om) om) J <| Um J J <| Wn <| aF <| ⟨⟨k + 1, n + 1 + 2 + 5 + 6 + 3, _⟩, ⟨rfl, congrArg some (by rw [← hu, fK, List.length_append, List.length_map]; rfl), rfl, rfl, trivial⟩, aR fun _ _ h => h, ⟨om, om, om, g1 om g0, fun _ => ?_⟩, by show p.2.2.2.length - (k + 1) < p.2.2.2.length - k; omega⟩
  rw [← hu, mG]
  exact g0
 refine Nk [1,3,4,15,16,17,18] J <| bF J <| aG <| aI ?_
 have hil : i < p.1.2.length := by omega
 have hm := bN (us := p.1.2) (i := i) hil
 have hwi := hw _ hm
 have hmr := bN (us := p.2.1.2) (i := i) om
 obtain ⟨szO, lenO, obO, hrO, rfl, rfl, rfl⟩ := nratsO_run (p.1.2.getD i default).1 (p.1.2.getD i default).2 om (hI.m _ hm) (hv _ hm) om
 refine Rg 5 J <| Um J J <| aA (cZ (j := i) J J J J om om J) J <| aA (gC (l := .sl (p.1.2.getD i default).1 ((p.1.2.getD i default).2.map mc)) J J J) J <| Ua J J <| Ua J J <| Nk [1,3,4,5,6,15,16,17] J <| bS (z := 11) J kR <| Dm J J <| WD.S (oCallO J hrO (aK (by intro c hc; simp only [List.mem_cons, List.not_mem_nil, or_false] at hc; rcases hc with rfl; exact (.sl _ _ (bA gK))))) J <| aC (aV J J J J J) J <| aC (aH (l := .sl p.2.1.1 (p.2.1.2.map mc)) J J (by repeat (first | exact g0 | exact nrm_get.trans hgp | refine g1 om ?_)) J J) J ?_
 refine Dm J J <| aC (cZ (j := i) J J J J om om J) J <| aC (gC (l := lvM (p.2.1.2.getD i default)) J J J) J <| aC (aO (b := lvX (nx (p.2.1.2.getD i default))) (aJ J (iE (p.2.1.2.getD i default) (hI.r _ hmr).1 (hI.r _ hmr).2 (hvr _ hmr)) (aK (by intro c hc; simp only [List.mem_cons, List.not_mem_nil, or_false] at hc; rcases hc with rfl; exact jN))) J) J <| aC (aO (b := .agg (.ref (n + 1 + 5 + 1) 4 0 (p.1.2.getD i default).2.length :: (xc (nx (p.2.1.2.getD i default)) ++ [.v (.bool false)]))) (iF (cs := [_, _, _, _, _, _]) J J J J J) J) J <| WD.S (gE J) J <| cN (cV (cs' := .ref (n + 1 + 5 + 1) 4 0 (p.1.2.getD i default).2.length :: (xc (nx (p.2.1.2.getD i default)) ++ [.v (.bool false)])) J J J g0 J J J J) <| bJ (dU (rn n) (by simp only [List.reverse_cons, List.reverse_nil, List.nil_append, List.cons_append, List.map_cons, List.map_nil, ren, keys, Nat.add_assoc, jF, kX (show 0 < n by omega)]; kernel_rfl)) J <| Ck [1,3,4,7,15,16,17] J <| aB <| Rg 4 J <| aA (aV J J J J J) J <| aA (aH (l := .ref (n + 1 + 5 + 1) 4 0 (p.1.2.getD i default).2.length) J J g0 J J) J <| aA (aO (b := .v (.int .i64 (p.2.2.2.length : Int))) (gR J J) (by rw [hnn, ← hwi])) J <| Um J J <| Nk [1,3,4,7,15,16,17,33,34] J <| aI ?_
 obtain ⟨na, hna⟩ : ∃ z, z = n + 1 + 5 := ⟨_, rfl⟩
 refine bI (α := Nat × (List X) × Hp) (fun ⟨k, cur, h1⟩ => [(1, .ptr (0 + 0) 0), (3, .v (.int .i64 (p.2.2.2.length : Int))), (4, outV qo 6 ((tab i (rowA p)).map rwc)), (7, .ptr (na + 9) 0), (15, .sl p.1.1 (p.1.2.map fM)), (16, .v (.int .i64 (p.1.2.length : Int))), (17, .v (.int .i64 (i : Int))), (33, .v (.int .i64 (p.2.2.2.length : Int))), (34, .v (.int .i64 (k : Int)))]) (fun ⟨k, cur, h1⟩ => nrm h1) (fun ⟨k, cur, h1⟩ n => k ≤ p.2.2.2.length ∧ cur.length = p.2.2.2.length ∧ (∀ j, cur.getD j default = if j < k then xneg (((p.1.2.getD i default).2.map nx).getD j default) else ((p.1.2.getD i default).2.map nx).getD j default) ∧ getH h1 (na + 1) = some { cells := (cur.map xc).flatten, sz := 4, elem := (46), st := 0 } ∧ getH h1 (na + 9) = some { cells := (.ref (na + 1) 4 0 p.2.2.2.length :: (xc (nx (p.2.1.2.getD i default)) ++ [.v (.bool false)])), sz := 6, elem := (48), st := 0 } ∧ (∀ r o, r < na → getH hh r = some o → getH h1 r = some o) ∧ na + 12 ≤ n) (fun ⟨k, cur, h1⟩ => p.2.2.2.length - k) (0, (p.1.2.getD i default).2.map nx, _) ⟨rfl, rfl, rfl, by rw [hna]; rfl, rfl, rfl, rfl, rfl, rfl, trivial⟩ (aR fun _ _ h => h) ⟨Nat.zero_le _, by rw [List.length_map, hwi, hnn], fun j => by rw [if_neg om], by rw [hna]; exact (by repeat (first | exact g0 | exact nrm_get.trans J | refine g1 om ?_)), by rw [hna, hnn, ← hwi]; exact g0, fun r o hr h => (by repeat (first | exact g0 | exact nrm_get.trans h | refine g1 om ?_)), om⟩ ?_
 rintro ⟨k, cur, h1⟩ n hF
 change WC _ _ _ _ _ [(1, .ptr (0 + 0) 0), (3, .v (.int .i64 (p.2.2.2.length : Int))), (4, outV qo 6 ((tab i (rowA p)).map rwc)), (7, .ptr (na + 9) 0), (15, .sl p.1.1 (p.1.2.map fM)), (16, .v (.int .i64 (p.1.2.length : Int))), (17, .v (.int .i64 (i : Int))), (33, .v (.int .i64 (p.2.2.2.length : Int))), (34, .v (.int .i64 (k : Int)))] (nrm h1) n _
 obtain ⟨hk, hcl, hcd, hgc, hg7, hk1, hn12⟩ := hF
 refine Rg 1 J <| aA (bX J J) J <| bL (fun h35 => ?_) (fun h35 => ?_)
 rotate_left
 ·refine Nk [1,3,4,7,15,16,17,33,34,35] J <| bC J <| bB <| aW <| aQ J <| Ck [1,3,4,7,15,16,17] J ?_
  obtain ⟨n1, hn1⟩ : ∃ z, z = n := ⟨_, rfl⟩
  have hcu : cur = ((p.1.2.getD i default).2.map nx).map xneg := by
   refine iO (by rw [hcl, List.length_map, List.length_map, hwi, hnn]) fun j hj => ?_
   rw [hcd j, if_pos om, gmapDX xneg (by rw [List.length_map]; omega)]
  refine WC.reg1F (z := 5) J <| Um J J <| aA (aH (l := .agg (.ref (na + 1) 4 0 p.2.2.2.length :: (xc (nx (p.2.1.2.getD i default)) ++ [.v (.bool false)]))) J J (nrm_get.trans hg7) J J) J <| aA (aO (b := .sl 2 [(.ref (na + 1) 4 0 p.2.2.2.length :: (xc (nx (p.2.1.2.getD i default)) ++ [.v (.bool false)]))]) (eV (cs := [_, _, _, _, _, _]) (rows := [[_, _, _, _, _, _]]) J J (by decide) J J J) J) J <| WO.apL (te := ti48) (q := qo) (us := (tab i (rowA p)).map rwc) (row := (.ref (na + 1) 4 0 p.2.2.2.length :: (xc (nx (p.2.1.2.getD i default)) ++ [.v (.bool false)]))) J J J J J (cQ (f := rwc) fun _ => rfl) J (by decide) (by rw [List.length_map, aX]; show (2 * (i + 1) + 256) * 96 ≤ _; omega) (by rw [List.length_map, aX]; omega) (fun h => nrm_get.trans (hk1 _ _ om (hgo h))) J ?_
  intro hX hXo hXk
  refine Ua J J <| dR ?_
  have hu : (tab i (rowA p)) ++ [rowA p i] = tab (i + 1) (rowA p) := (eQ _).symm
  refine Fz.app (r := n + 1 + 3) (A := ((tab i (rowA p)).map rwc).flatten) (B := xc (nx (p.2.1.2.getD i default)) ++ [.v (.bool false)]) (q := na + 1) (ys := cur.map xc) (el2 := (46)) (L := [(0, { cells := pbc p, sz := 3, elem := (27), st := 0 })]) [(1, _), (3, _), (4, _), (15, _), (16, _), (17, _)] ⟨J, J, J, J, J, J, trivial⟩ om (hXk _ _ om (fun _ => by omega) (nrm_get.trans hgc)) (by rw [List.length_map, hcl]; exact hXo) (fun t o ht => ?_) (by decide) (cQ (f := xc) fun _ => rfl) (bA kF) ?_
  ·by_cases e : 0 = t
   ·subst e; rw [g0] at ht; cases ht; exact ⟨om, hXk _ _ om (fun _ => by omega) (nrm_get.trans (hk1 _ _ om hgp))⟩
   ·rw [show getH [(0, _)] t = none from g1 e rfl] at ht; cases ht
  refine aE <| Ck [1,3,4,15,16,17] J <| aL (z := 2) J <| aA (cI (((i + 1 : Nat) : Int)) (aU J J om) om) J <| Um J J <| Wn <| aF <| ⟨⟨i + 1, n + 1 + 3, _⟩, ⟨rfl, rfl, congrArg some (by rw [← hu, fK, List.length_append, aX, List.length_map, aX]; rfl), rfl, rfl, rfl, trivial⟩, aR fun _ _ h => h, ⟨om, om, om, g1 om g0, fun _ => ?_⟩, by show p.1.2.length - (i + 1) < p.1.2.length - i; omega⟩
  rw [← hu, List.map_append, List.flatten_append]
  exact g0.trans (by rw [hcu]; rfl)
 refine Nk [1,3,4,7,15,16,17,33,34,35] J <| bF J <| aG <| aI <| Rg 2 J <| Um J J <| Ua J J <| Nk [1,3,4,7,8,15,16,17,33,34] J <| dC (z := 11) J kR <| aC (aV J J J J J) J <| aC (aH (l := .ref (na + 1) 4 0 p.2.2.2.length) J J (nrm_get.trans hg7) J J) J <| Dm J J <| aC (aV J J J J J) J <| aC (aH (l := .ref (na + 1) 4 0 p.2.2.2.length) J J (nrm_get.trans hg7) J J) J <| Dm J J <| aC (bV (j := k) J J J J om om J) J <| aC (aO (b := lvX (cur.getD k default)) (dP (f := xc) (us := cur) (j := k) J J (nrm_get.trans hgc) (fun _ => rfl) J (by decide) om J) J) J <| aC (aJ J (lZ (cur.getD k default)) (aK (by intro c hc; simp only [List.mem_cons, List.not_mem_nil, or_false] at hc; rcases hc with rfl; exact jN))) J <| aC (bV (j := k) J J J J om om J) J <| cN (fB (f := xc) (us := cur) (xneg (cur.getD k default)) J J J (nrm_get.trans hgc) (fun _ => rfl) J J om J) <| bJ (aT kR) J <| aE ?_
 refine Ck [1,3,4,7,15,16,17,33,34] J <| aL (z := 2) J <| aA (cI (((k + 1 : Nat) : Int)) (aU J J om) om) J <| Um J J <| Wn <| aF <| ⟨⟨k + 1, cur.set k (xneg (cur.getD k default)), _⟩, ⟨J, J, J, J, J, J, J, J, J, trivial⟩, aR fun _ _ h => h, ⟨om, by rw [List.length_set]; exact hcl, fun j => ?_, g0, (by repeat (first | exact g0 | exact nrm_get.trans hg7 | refine g1 om ?_)), fun r o hr h => (by repeat (first | exact g0 | exact nrm_get.trans (hk1 r o hr h) | refine g1 om ?_)), om⟩, by show p.2.2.2.length - (k + 1) < p.2.2.2.length - k; omega⟩
 rw [gset_getD' om]
 by_cases e : k = j
 ·subst e; rw [if_pos rfl, if_pos om, hcd, if_neg om]
 ·rw [if_neg e, hcd j]; by_cases e2 : j < k
  ·rw [if_pos e2, if_pos om]
  ·rw [if_neg e2, if_neg om]
end Go.Proofs.Ytohfklpfeilcpaa
namespace Go.Proofs.Ytohfklpfeilcpaa
open Go.Ab Go.RowKit
theorem nums_G (n0 q : Nat) (H : Hp) (e : Int) (k : Nat) (l : List X) (hq : getH H q = some { cells := [.v (.int .i64 (e))], sz := 1, elem := (58), st := 0 }) (hqn : q < n0) (ll : l.length ≤ 1000000) : WC Try.prog T E0 Try.f16.ntmps (codeOf Try.f16) (argsEnv 0 [.ptr q 0, .sl k (l.map xc)]) (nrm H) n0 (fun x e' h' n' => (x = .normal ∨ x = .ret) ∧ ∃ ls', resE e' T h' Try.f16.results.toList = some ls' ∧ (resultLV ls' = outsV l ∧ n0 ≤ n' ∧ getH h' q = some { cells := [.v (.int .i64 (tel e l))], sz := 1, elem := (58), st := 0 } ∧ ∀ r o, r < n0 → r ≠ q → getH H r = some o → getH h' r = some o)) := by
 change WC _ _ _ _ _ [(0, .ptr q 0), (1, .sl k (l.map xc))] _ _ _
 have hgq : getH (nrm H) q = some { cells := [.v (.int .i64 (e))], sz := 1, elem := (58), st := 0 } := nrm_get.trans hq
 refine Ck [0,1] J <| Rg 1 J <| Ua J J <| Nk [0,1] J <| Rg 7 J <| Um J J <| aA (aO (b := .tup [outsV l, .v (.int .i64 (if (outs l).isSome = true then 0 else 3))]) (aJ J (nouts_run k l om) (aK (by intro c hc; simp only [List.mem_cons, List.not_mem_nil, or_false] at hc; rcases hc with rfl; exact (.sl _ _ (bA kF))))) J) J <| Um J J <| aA (fD J J) J <| aA (fD J J) J <| Ua J J <| Ua J J <| Nk [0,5,6] J <| aB <| Rg 5 J <| Um J J <| aA (cO J) J <| aA (aV J J J J J) J <| aA (aH (l := .v (.int .i64 e)) J J hgq J J) J <| aA (fS J J) J <| bL (fun h16 => ?_) (fun h16 => ?_)
 rotate_left
 ·refine Nk [0,5,6,16] J <| bC J <| aG <| Rg 2 J <| Um J J <| Ua J J <| Nk [4] J <| aP ?_
  exact ⟨.inr J, _, rfl, rfl, om, by rw [show tel e l = e from if_neg h16]; exact hgq, fun r o hr hne h => nrm_get.trans h⟩
 refine Nk [0,5,6,16] J <| bF J <| Rg 5 J <| Um J J <| Um J J <| aA (cO J) J <| aA (aV J J J J J) J <| bG (cV (cs' := [.v (.int .i64 (if (outs l).isSome = true then 0 else 3))]) J J J hgq J J J J) <| Nk [5] J <| Rg 2 J <| Um J J <| Ua J J <| Nk [4] J <| aP ?_
 exact ⟨.inr J, _, rfl, rfl, om, by rw [show tel e l = _ from if_pos h16]; exact g0, fun r o hr hne h => g1 (fun e => hne e.symm) (nrm_get.trans h)⟩
theorem max3_G (n0 qt qo qp : Nat) (H : Hp) (v : X) (l1 l2 : List X) (p : PB) (hqt : getH H qt = some { cells := [.v (.int .i64 (0))], sz := 1, elem := (58), st := 0 }) (hqo : getH H qo = some { cells := .v (.int .i64 2) :: (xc v ++ [.sl 1 (l1.map xc), .sl 0 [], .sl 1 (l2.map xc)]), sz := 8, elem := (53), st := 0 }) (hqp : getH H qp = some { cells := pbc p, sz := 3, elem := (27), st := 0 }) (t0 : qt < n0) (o0 : qo < n0) (p0 : qp < n0) (hto : qt ≠ qo) (htp : qt ≠ qp) (hop : qo ≠ qp) (hl1 : l1.length ≤ 1000000) (hl2 : l2.length ≤ 1000000) (hm : p.1.2.length ≤ l2.length) : WC Try.prog T E0 Try.f18.ntmps (codeOf Try.f18) (argsEnv 0 [.ptr qt 0, .ptr qo 0, .ptr qp 0]) (nrm H) n0 (fun x e' h' n' => (x = .normal ∨ x = .ret) ∧ ∃ ls', resE e' T h' Try.f18.results.toList = some ls' ∧ (∃ cs, resultLV ls' = .agg cs ∧ (∀ c, c ∈ cs → Go.Ab.Data c) ∧ ((outs [xneg v]).isSome = true → cs = .v (.int .i64 2) :: (mc ((outsL [xneg v]).getD 0 default) ++ [outsV l1, outsV (l2.take p.1.2.length), .sl 0 []])) ∧ cs.length = 6 ∧ n0 ≤ n' ∧ getH h' qt = some { cells := [.v (.int .i64 (if (outs l1).isSome = true ∧ (outs (l2.take p.1.2.length)).isSome = true ∧ (outs [xneg v]).isSome = true then 0 else 3))], sz := 1, elem := (58), st := 0 } ∧ ∀ r o, r < n0 → r ≠ qt → getH H r = some o → getH h' r = some o)) := by
 change WC _ _ _ _ _ [(0, .ptr qt 0), (1, .ptr qo 0), (2, .ptr qp 0)] _ _ _
 refine Ck [0,1,2] J <| Rg 1 J <| bK (gE J) J <| Nk [0,1,2,3] J <| jO (z := 12) J kR <| WX.U (aV J J J J J) J <| WX.U (aH (l := .sl 1 (l1.map xc)) J J (show getH _ _ = some { cells := .v (.int .i64 2) :: (xc v ++ [.sl 1 (l1.map xc), .sl 0 [], .sl 1 (l2.map xc)]), sz := 8, elem := (53), st := 0 } from (by repeat (first | exact g0 | exact nrm_get.trans hqo | refine g1 om ?_))) J J) J ?_
 refine WX.weakM _ (aR fun _ _ h => h) <| WX.G (ls := [.ptr qt 0, .sl 1 (l1.map xc)]) (Φ := fun r h' n' => r = outsV l1 ∧ n0 + 1 ≤ n' ∧ getH h' qt = some { cells := [.v (.int .i64 (tel 0 l1))], sz := 1, elem := (58), st := 0 } ∧ getH h' qo = some { cells := .v (.int .i64 2) :: (xc v ++ [.sl 1 (l1.map xc), .sl 0 [], .sl 1 (l2.map xc)]), sz := 8, elem := (53), st := 0 } ∧ getH h' qp = some { cells := pbc p, sz := 3, elem := (27), st := 0 } ∧ getH h' (n0 + 0) = some { cells := [.v (.int .i64 0), .v (.int .i64 0), .v (.int .i64 0), .sl 0 [], .sl 0 [], .sl 0 []], sz := 6, elem := (31), st := 0 } ∧ ∀ r o, r < n0 → r ≠ qt → getH H r = some o → getH h' r = some o) [qo, qp] J J Try.func16 J J (dK J) J ((nums_G _ qt _ (0) 1 l1 (by repeat (first | exact g0 | exact nrm_get.trans hqt | refine g1 om ?_)) om (by first | omega | (rw [List.length_take]; omega) | (show 1 ≤ 1000000; omega))).mono (by rintro x e h m ⟨hx, ls, hr, a1, a2, a3, a4⟩; exact ⟨hx, ls, hr, a1, om, a3, a4 _ _ om om (by repeat (first | exact g0 | exact nrm_get.trans hqo | refine g1 om ?_)), a4 _ _ om om (by repeat (first | exact g0 | exact nrm_get.trans hqp | refine g1 om ?_)), a4 _ _ om om g0, fun r o hr hne h => a4 _ _ om hne (by repeat (first | exact g0 | exact nrm_get.trans h | refine g1 om ?_))⟩)) ?_
 rintro r_ ha na ⟨rfl, hna, hta, hoa, hpa, hza, hka⟩
 refine ⟨fun k hk => ?_, ?_⟩
 ·simp only [List.mem_cons, List.not_mem_nil, or_false] at hk
  rcases hk with rfl | rfl
  ·exact ⟨_, nrm_get.trans (by repeat (first | exact g0 | exact nrm_get.trans hqo | refine g1 om ?_)), hoa⟩
  ·exact ⟨_, nrm_get.trans (by repeat (first | exact g0 | exact nrm_get.trans hqp | refine g1 om ?_)), hpa⟩
 refine WX.U (aV J J J J J) J <| WX.U (aH (l := .sl 1 (l2.map xc)) J J hoa J J) J <| WX.U (aV J J J J J) J <| WX.U (aH (l := .sl p.1.1 (p.1.2.map fM)) J J hpa J J) J <| WX.U (aO (b := .v (.int .i64 (p.1.2.length : Int))) (bO J J) J) J <| WX.U (aO (b := .sl 1 ((l2.take p.1.2.length).map xc)) (oSlH (j := p.1.2.length) J J J (cQ (f := xc) fun _ => rfl) J om (by rw [List.length_map]; omega)) (by rw [List.map_take, ite_self])) J <| WX.weakM (nrm ha) (aR fun _ _ h => h) <| WX.G (ls := [.ptr qt 0, .sl 1 ((l2.take p.1.2.length).map xc)]) (Φ := fun r h' n' => r = outsV (l2.take p.1.2.length) ∧ na ≤ n' ∧ getH h' qt = some { cells := [.v (.int .i64 (tel (tel 0 l1) (l2.take p.1.2.length)))], sz := 1, elem := (58), st := 0 } ∧ getH h' qo = some { cells := .v (.int .i64 2) :: (xc v ++ [.sl 1 (l1.map xc), .sl 0 [], .sl 1 (l2.map xc)]), sz := 8, elem := (53), st := 0 } ∧ getH h' qp = some { cells := pbc p, sz := 3, elem := (27), st := 0 } ∧ getH h' (n0 + 0) = some { cells := [.v (.int .i64 0), .v (.int .i64 0), .v (.int .i64 0), .sl 0 [], .sl 0 [], .sl 0 []], sz := 6, elem := (31), st := 0 } ∧ ∀ r o, r < n0 → r ≠ qt → getH H r = some o → getH h' r = some o) [] J J Try.func16 J J (dK J) J ((nums_G _ qt ha (tel 0 l1) 1 (l2.take p.1.2.length) hta om (by first | omega | (rw [List.length_take]; omega) | (show 1 ≤ 1000000; omega))).mono (by rintro x e h m ⟨hx, ls, hr, a1, a2, a3, a4⟩; exact ⟨hx, ls, hr, a1, om, a3, a4 _ _ om om hoa, a4 _ _ om om hpa, a4 _ _ om om hza, fun r o hr hne h => a4 _ _ om hne (hka r o hr hne h)⟩)) ?_
 rintro r_ hb nb ⟨rfl, hnb, htb, hob, hpb, hzb, hkb⟩
 refine ⟨fun _ h => (by cases h), ?_⟩
 refine WX.U (iS J) J <| WX.U (iS J) J <| WX.nil (kD (fun k => ([qo, qp]).getD k 0) 2 [⟨0, [], [], false⟩, ⟨1, [], [0], false⟩, ⟨2, [], [0, 1], true⟩, ⟨3, [], [], false⟩, ⟨4, [], [0], false⟩, ⟨5, [], [], false⟩, ⟨6, [], [1], false⟩, ⟨7, [], [], false⟩, ⟨8, [], [], false⟩, ⟨9, [], [], true⟩, ⟨10, [], [], false⟩, ⟨11, [], [], false⟩] (by decide) (by intro x y hx hy h; rcases x with _ | _ | x <;> rcases y with _ | _ | y <;> simp at h <;> omega) kR) <| Ck [0,1,3,4,5] J <| aB <| dT (z := 6) J <| cX (aV J J J J J) J <| cX (aH (l := lvX v) J J hob J J) J <| cX (aJ J (lZ v) (aK (by intro c hc; simp only [List.mem_cons, List.not_mem_nil, or_false] at hc; rcases hc with rfl; exact jN))) J <| cX (aO (b := .sl 2 ([xneg v].map xc)) (eV (cs := [_, _, _, _]) (rows := [[_, _, _, _]]) J J (by decide) J J J) J) J <| fF (nrm hb) (aR fun _ _ h => h) <| kT (ls := [.ptr qt 0, .sl 2 ([xneg v].map xc)]) (Φ := fun r h' n' => r = outsV [xneg v] ∧ nb ≤ n' ∧ getH h' qt = some { cells := [.v (.int .i64 (tel (tel (tel 0 l1) (l2.take p.1.2.length)) [xneg v]))], sz := 1, elem := (58), st := 0 } ∧ getH h' qo = some { cells := .v (.int .i64 2) :: (xc v ++ [.sl 1 (l1.map xc), .sl 0 [], .sl 1 (l2.map xc)]), sz := 8, elem := (53), st := 0 } ∧ getH h' qp = some { cells := pbc p, sz := 3, elem := (27), st := 0 } ∧ getH h' (n0 + 0) = some { cells := [.v (.int .i64 0), .v (.int .i64 0), .v (.int .i64 0), .sl 0 [], .sl 0 [], .sl 0 []], sz := 6, elem := (31), st := 0 } ∧ ∀ r o, r < n0 → r ≠ qt → getH H r = some o → getH h' r = some o) J Try.func16 J J (dK J) J ((nums_G _ qt hb (tel (tel 0 l1) (l2.take p.1.2.length)) 2 [xneg v] htb om (by first | omega | (rw [List.length_take]; omega) | (show 1 ≤ 1000000; omega))).mono (by rintro x e h m ⟨hx, ls, hr, a1, a2, a3, a4⟩; exact ⟨hx, ls, hr, a1, om, a3, a4 _ _ om om hob, a4 _ _ om om hpb, a4 _ _ om om hzb, fun r o hr hne h => a4 _ _ om hne (hkb r o hr hne h)⟩)) ?_
 rintro r_ hc nc ⟨rfl, hnc, htc, hoc, hpc, hzc, hkc⟩
 refine jM <| Ua J J <| Nk [3,4,5,6] J <| aB <| Rg 3 J <| Um J J <| aA (aO (b := .v (.int .i64 ((outsL [xneg v]).length : Int))) (bO J J) J) J <| aA (fS J J) J <| bL (fun h24 => ?_) (fun h24 => ?_)
 rotate_left
 ·refine Nk [3,4,5,6,24] J <| bC J <| aG <| Rg 2 J <| aA (iF (cs := [_, _, _, _, _, _]) J J J J J) J <| bG (cV (cs' := [.v (.int .i64 0), .v (.int .i64 0), .v (.int .i64 0), .sl 0 [], .sl 0 [], .sl 0 []]) J J J hzc J J J J) <| Nk [3] J <| aP <| ⟨.inr J, [.agg [.v (.int .i64 0), .v (.int .i64 0), .v (.int .i64 0), .sl 0 [], .sl 0 [], .sl 0 []]], pU J J g0 J J, [.v (.int .i64 0), .v (.int .i64 0), .v (.int .i64 0), .sl 0 [], .sl 0 [], .sl 0 []], rfl, ?_, fun h => absurd (outs1.2 h) om, rfl, om, g1 om (htc.trans (by rw [tel3])), fun r o hr hne h => g1 om (hkc r o hr hne h)⟩
  intro c hc
  simp only [List.mem_cons, List.not_mem_nil, or_false] at hc
  rcases hc with rfl | rfl | rfl | rfl | rfl | rfl
  all_goals first | exact .v _ | exact .sl _ _ (by simp)
 refine Nk [3,4,5,6,24] J <| bF J <| aB <| Rg 7 J <| Um J J <| aA (cZ (j := 0) J J J J om om J) J <| aA (gC (l := lvM ((outsL [xneg v]).getD 0 default)) J J J) J <| Um J J <| Um J J <| aA (iF (cs := [_, _, _, _, _, _]) J J J J J) J <| bG (cV (cs' := .v (.int .i64 2) :: (mc ((outsL [xneg v]).getD 0 default) ++ [outsV l1, outsV (l2.take p.1.2.length), .sl 0 []])) J J J hzc J J J J) <| Nk [3] J <| bQ <| ⟨.inr J, [.agg (.v (.int .i64 2) :: (mc ((outsL [xneg v]).getD 0 default) ++ [outsV l1, outsV (l2.take p.1.2.length), .sl 0 []]))], pU J J g0 J J, _, rfl, ?_, fun _ => rfl, rfl, om, g1 om (htc.trans (by rw [tel3])), fun r o hr hne h => g1 om (hkc r o hr hne h)⟩
 intro c hc
 simp only [List.mem_cons, List.mem_append, List.not_mem_nil, or_false] at hc
 rcases hc with rfl | hc | rfl | rfl | rfl
 ·exact .v _
 ·exact gK _ c hc
 ·exact douts _
 ·exact douts _
 ·exact .sl _ _ (by simp)
end Go.Proofs.Ytohfklpfeilcpaa
namespace Go.Proofs.Ytohfklpfeilcpaa
open Go.Ab Go.RowKit
theorem lvalid1_run (p : PB) (r : M1) : Run Try.prog T E0 (.call 32 [.sl r.1 (r.2.map mc), .ro (pbc p)] (.v (.bool (!wid p.2.2.2.length r)))) := by
 refine bM Try.func32 J J (dK J) <| Rg 1 J <| Ua J J <| Wn <| Rg 7 J <| Um J J <| aA (bO J J) J <| aA (oFa J J J J J) J <| aA (gC (l := .sl p.2.2.1 (p.2.2.2.map mc)) J J J) J <| aA (bO J J) J <| aA (lD J J) J <| Ua J J <| Wn <| aP <| post (n := 0) (.inr J) J ?_ dD
 exact congrArg (fun z => LV.v (.bool z)) (by unfold wid; rw [← decide_not]; exact decide_eq_decide.2 om)
theorem oQ (p : PB) (hI : IP p) : Run Try.prog T E0 (.call 9 [lvPb p] (.v (.bool (vP p)))) := by
 refine bM Try.func9 J J (dK J) <| Rg 2 J <| bK (gF J J) J <| Ua J J <| Wn <| Rg 42 J <| aA (aV J J J J J) J <| aA (aH (l := .sl p.1.1 (p.1.2.map fM)) J J gG J J) J ?_
 refine aA (aJ J (mvalid_run p.1.1 p.1.2 hI.m (by have := hI.lm; omega) (fun r hr => by have := hI.lw r hr; omega)) (aK (by intro c hc; simp only [List.mem_cons, List.not_mem_nil, or_false] at hc; rcases hc with rfl; exact (.sl _ _ (bA dfM))))) J <| fN (fun h5 => ?_) (fun h5 => ?_)
 rotate_left
 ·refine Um J J <| K1 J J <| K1 J J <| K1 J J <| K1 J J <| aA (bU J J) J <| Um J J <| K1 J J <| K1 J J <| K1 J J <| aA (bU J J) J <| Um J J <| K1 J J <| K1 J J <| K1 J J <| K1 J J <| K1 J J <| K1 J J <| K1 J J <| aA (bU J J) J <| Um J J <| K1 J J <| K1 J J <| K1 J J ?_
  refine aA (bU J J) J <| Um J J <| K1 J J <| K1 J J <| K1 J J <| K1 J J <| aA (bU J J) J <| Um J J <| K1 J J <| K1 J J <| K1 J J <| K1 J J <| K1 J J <| aA (bU J J) J <| Ua J J <| Nk [2] J <| aP <| post (n := 0) (.inr J) J ?_ dD
  refine congrArg (fun z => LV.v (.bool z)) ?_
  first | exact vP_1 h5 | exact vP_2 h10 | exact vP_3 h15 | exact vP_4 h24 | exact vP_5 h29 | exact vP_6 h35 | exact vP_9 h5 h10 h15 h24 h29 h35
 refine Um J J <| aM J (aV J J J J J) J <| aM J (aH (l := .sl p.1.1 (p.1.2.map fM)) J J gG J J) J ?_
 refine aM J (bO J J) J <| aM J (oLeq J J) J <| bL (fun h10 => ?_) (fun h10 => ?_)
 rotate_left
 ·refine aA (bT J J) J <| Um J J <| K1 J J <| K1 J J <| K1 J J <| aA (bU J J) J <| Um J J <| K1 J J <| K1 J J <| K1 J J <| K1 J J <| K1 J J <| K1 J J <| K1 J J <| aA (bU J J) J <| Um J J <| K1 J J <| K1 J J <| K1 J J <| aA (bU J J) J <| Um J J <| K1 J J <| K1 J J <| K1 J J ?_
  refine K1 J J <| aA (bU J J) J <| Um J J <| K1 J J <| K1 J J <| K1 J J <| K1 J J <| K1 J J <| aA (bU J J) J <| Ua J J <| Nk [2] J <| aP <| post (n := 0) (.inr J) J ?_ dD
  refine congrArg (fun z => LV.v (.bool z)) ?_
  first | exact vP_1 h5 | exact vP_2 h10 | exact vP_3 h15 | exact vP_4 h24 | exact vP_5 h29 | exact vP_6 h35 | exact vP_9 h5 h10 h15 h24 h29 h35
 refine aA (bT J J) J <| Um J J <| aM J (aV J J J J J) J <| aM J (aH (l := .sl p.2.1.1 (p.2.1.2.map mc)) J J gG J J) J ?_
 refine aM J (aJ J (vv_run p.2.1.1 p.2.1.2 hI.r (by have := hI.lr; omega)) (aK (by intro c hc; simp only [List.mem_cons, List.not_mem_nil, or_false] at hc; rcases hc with rfl; exact (.sl _ _ (bA gK))))) J <| fN (fun h15 => ?_) (fun h15 => ?_)
 rotate_left
 ·refine aA (bT J J) J <| Um J J <| K1 J J <| K1 J J <| K1 J J <| K1 J J <| K1 J J <| K1 J J <| K1 J J <| aA (bU J J) J <| Um J J <| K1 J J <| K1 J J <| K1 J J <| aA (bU J J) J <| Um J J <| K1 J J <| K1 J J <| K1 J J <| K1 J J <| aA (bU J J) J <| Um J J <| K1 J J <| K1 J J ?_
  refine K1 J J <| K1 J J <| K1 J J <| aA (bU J J) J <| Ua J J <| Nk [2] J <| aP <| post (n := 0) (.inr J) J ?_ dD
  refine congrArg (fun z => LV.v (.bool z)) ?_
  first | exact vP_1 h5 | exact vP_2 h10 | exact vP_3 h15 | exact vP_4 h24 | exact vP_5 h29 | exact vP_6 h35 | exact vP_9 h5 h10 h15 h24 h29 h35
 refine aA (bT J J) J <| Um J J <| aM J (aV J J J J J) J <| aM J (aH (l := .sl p.2.1.1 (p.2.1.2.map mc)) J J gG J J) J ?_
 refine aM J (bO J J) J <| aM J (aV J J J J J) J <| aM J (aH (l := .sl p.1.1 (p.1.2.map fM)) J J gG J J) J ?_
 refine aM J (bO J J) J <| aM J (fS J J) J <| bL (fun h24 => ?_) (fun h24 => ?_)
 rotate_left
 ·refine aA (bT J J) J <| Um J J <| K1 J J <| K1 J J <| K1 J J <| aA (bU J J) J <| Um J J <| K1 J J <| K1 J J <| K1 J J <| K1 J J <| aA (bU J J) J <| Um J J <| K1 J J <| K1 J J <| K1 J J <| K1 J J <| K1 J J <| aA (bU J J) J <| Ua J J <| Nk [2] J <| aP <| post (n := 0) (.inr J) J ?_ dD
  refine congrArg (fun z => LV.v (.bool z)) ?_
  first | exact vP_1 h5 | exact vP_2 h10 | exact vP_3 h15 | exact vP_4 h24 | exact vP_5 h29 | exact vP_6 h35 | exact vP_9 h5 h10 h15 h24 h29 h35
 refine aA (bT J J) J <| Um J J <| aM J (aV J J J J J) J <| aM J (aH (l := .sl p.2.2.1 (p.2.2.2.map mc)) J J gG J J) J ?_
 refine aM J (aJ J (vv_run p.2.2.1 p.2.2.2 hI.g (by have := hI.lg; omega)) (aK (by intro c hc; simp only [List.mem_cons, List.not_mem_nil, or_false] at hc; rcases hc with rfl; exact (.sl _ _ (bA gK))))) J <| fN (fun h29 => ?_) (fun h29 => ?_)
 rotate_left
 ·refine aA (bT J J) J <| Um J J <| K1 J J <| K1 J J <| K1 J J <| K1 J J <| aA (bU J J) J <| Um J J <| K1 J J <| K1 J J <| K1 J J <| K1 J J <| K1 J J <| aA (bU J J) J <| Ua J J <| Nk [2] J <| aP <| post (n := 0) (.inr J) J ?_ dD
  refine congrArg (fun z => LV.v (.bool z)) ?_
  first | exact vP_1 h5 | exact vP_2 h10 | exact vP_3 h15 | exact vP_4 h24 | exact vP_5 h29 | exact vP_6 h35 | exact vP_9 h5 h10 h15 h24 h29 h35
 refine aA (bT J J) J <| Um J J <| aM J (aV J J J J J) J <| aM J (aH (l := .sl p.2.2.1 (p.2.2.2.map mc)) J J gG J J) J ?_
 refine aM J (bO J J) J <| aM J (oLeq J J) J <| bL (fun h35 => ?_) (fun h35 => ?_)
 ·refine aA (bT J J) J <| Um J J <| aM J (aV J J J J J) J <| aM J (aH (l := .sl p.1.1 (p.1.2.map fM)) J J gG J J) J ?_
  refine aM J (oMf J) J <| aM J (qU [0] [.sl p.1.1 (p.1.2.map fM), .fn (.func 32) [] [.ro (pbc p)]] J (oG p.1.1 p.1.2 32 [.ro (pbc p)] (fun r => !wid p.2.2.2.length r) (by intro c hc; rw [List.mem_singleton] at hc; subst hc; exact .ro _ (lT p)) (by have := hI.lm; omega) (fun r hr => lvalid1_run p r)) (.data (.sl _ _ (bA dfM)) (.fn .nil (.box (ob := { cells := pbc p, sz := 3, elem := (27), st := 0 }) gG (by simp) (by show (0 : Nat) ≠ 2; decide) (lT p) .nil) .nil)) (.cons gG (by show (0 : Nat) ≠ 2; decide) lent0)) J ?_
  refine aM J (fA J) J <| aA (bT J J) J <| Ua J J <| Nk [2] J <| aP <| post (n := 0) (.inr J) J ?_ dD
  refine congrArg (fun z => LV.v (.bool z)) ?_
  first | exact vP_1 h5 | exact vP_2 h10 | exact vP_3 h15 | exact vP_4 h24 | exact vP_5 h29 | exact vP_6 h35 | exact vP_9 h5 h10 h15 h24 h29 h35
 refine aA (bT J J) J <| Um J J <| K1 J J <| K1 J J <| K1 J J <| K1 J J <| K1 J J <| aA (bU J J) J <| Ua J J <| Nk [2] J <| aP <| post (n := 0) (.inr J) J ?_ dD
 refine congrArg (fun z => LV.v (.bool z)) ?_
 first | exact vP_1 h5 | exact vP_2 h10 | exact vP_3 h15 | exact vP_4 h24 | exact vP_5 h29 | exact vP_6 h35 | exact vP_9 h5 h10 h15 h24 h29 h35
theorem iP (ka kb : Nat) (a b : List X) (hab : a.length ≤ b.length) (hl : a.length ≤ 1000) (β : Nat) (h2 : 2 ≤ β) (hβ : β ≤ 1000000) (ha : ∀ x, x ∈ a → Bd β x.1) (hb : ∀ x, x ∈ b → Bd β x.1) : Run Try.prog T E0 (.call 22 [.sl ka (a.map xc), .sl kb (b.map xc)] (lvX (dtX a b a.length))) := by
 refine bM Try.func22 J J (dK J) <| Rg 1 J <| bK (gE J) J <| Wn <| Rg 1 J <| bK (gE J) J <| Wn <| aB <| Rg 3 J <| Um J J <| aA (bO J J) J <| Um J J <| Wn <| aI <| bI (α := Nat) (fun i => [(0, .sl ka (a.map xc)), (1, .sl kb (b.map xc)), (4, .ptr 0 0), (5, .ptr 1 0), (8, .v (.int .i64 (a.length : Int))), (9, .v (.int .i64 (i : Int)))]) (fun i => [(1, { cells := xc (dtX a b i), sz := 4, elem := (46), st := 0 }), (0, { cells := xc x0, sz := 4, elem := (46), st := 0 })]) (fun i n => i ≤ a.length ∧ 1 < n) (fun i => a.length - i) (0) ⟨J, J, J, J, J, J, trivial⟩ ⟨gG, gG, trivial⟩ ⟨Nat.zero_le _, om⟩ ?_
 rintro i n hF
 change WC _ _ _ _ _ (_ :: _) (_ :: _) n _
 obtain ⟨hi, hn⟩ := hF
 refine Rg 1 J <| aA (bX J J) J <| bL (fun h10 => ?_) (fun h10 => ?_)
 rotate_left
 ·refine Wn <| bC J <| bB <| aW <| aQ J <| Rg 2 J <| aA (aH (l := lvX (dtX a b i)) J J gG J J) J ?_
  refine bG (cV (cs' := xc (dtX a b i)) J J J gG J J J J) ?_
  refine Wn <| aP ?_
  have hia : i = a.length := by omega
  subst hia
  exact post (n := 0) (.inr J) J J jN
 refine Wn <| bF J <| aG <| aI <| Rg 2 J <| Um J J <| Ua J J <| dR ?_
 have hda := ha _ (bN (us := a) (i := i) om)
 have hdb := hb _ (bN (us := b) (i := i) om)
 have hdt := dtX_bd ha hb h2 i om om
 have hnl : i * (2 * β + 1) ≤ 1000 * (2 * β + 1) := Nat.mul_le_mul_right _ om
 refine dC (z := 12) J kR <| aC (aH (l := lvX (dtX a b i)) J J gG J J) J ?_
 refine Dm J J <| Dm J J <| aC (cZ (j := i) J J J J om om J) J <| aC (gC (l := lvX (a.getD i default)) J J J) J <| Dm J J <| Dm J J <| aC (cZ (j := i) J J J J om om J) J <| aC (gC (l := lvX (b.getD i default)) J J J) J <| aC (aJ J (jW (a.getD i default) (b.getD i default) (hda.mono om) (hdb.mono om)) (aK (by intro c hc; simp only [List.mem_cons, List.not_mem_nil, or_false] at hc; rcases hc with rfl | rfl; exact jN; exact jN))) J <| aC (aO (b := lvX (dtX a b (i + 1))) (aJ J (lW (dtX a b i) (xmul (a.getD i default) (b.getD i default)) (hdt.mono om) ((hda.mul hdb).mono om)) (aK (by intro c hc; simp only [List.mem_cons, List.not_mem_nil, or_false] at hc; rcases hc with rfl | rfl; exact jN; exact jN))) J) J <| cN (cV (cs' := xc (dtX a b (i + 1))) J J J gG J J J J) ?_
 refine bJ (dU (rn n) (by simp only [List.reverse_cons, List.reverse_nil, List.nil_append, List.cons_append, List.map_cons, List.map_nil, ren, keys, Nat.add_assoc, jF, show rn n 1 = 0 from kX om]; kernel_rfl)) J <| aE <| Ck [0,1,4,5,8,9] J <| aL (z := 2) J <| aA (cI (((i + 1 : Nat) : Int)) (aU J J om) om) J <| Um J J <| Wn <| aF <| ⟨i + 1, ⟨J, J, J, J, J, J, trivial⟩, ⟨gG, gG, trivial⟩, ⟨om, om⟩, by show a.length - (i + 1) < a.length - i; omega⟩
theorem lpos1_run (a : NM) (h1 : I64 a.1) (h2 : I64 a.2) : Run Try.prog T E0 (.call 46 [lvM a] (.v (.bool (!posN a)))) := by
 refine bM Try.func46 J J (dK J) <| Rg 2 J <| bK (gF J J) J <| Ua J J <| Wn <| Rg 9 J <| aA (aH (l := lvM a) J J g0 J J) J <| aA (aO (b := .v (.bool (vn a))) (aJ J (kZ a h1 h2) dD) J) J <| fN (fun h4 => ?_) (fun h4 => ?_)
 ·refine aA (fA J) J <| Um J J <| aM J (aV J J J J J) J <| aM J (aH J J g0 J J) J <| aM J (bX J J) J <| aA (bU J J) J <| Ua J J <| Wn <| aP <| post (n := 0) (.inr J) J ?_ dD
  exact congrArg (fun z => LV.v (.bool z)) (by unfold posN; first | (rw [h4]; rfl) | (rw [h4, decide_eq_false (show ¬ 0 ≤ a.1 by omega)]; rfl) | (rw [h4, decide_eq_true (show 0 ≤ a.1 by omega)]; rfl) | (rw [h4, Bool.true_and, ← decide_not]; exact decide_eq_decide.2 om))
 refine aA (fA J) J <| Um J J <| K1 J J <| K1 J J <| K1 J J <| aA (bT J J) J <| Ua J J <| Wn <| aP <| post (n := 0) (.inr J) J ?_ dD
 exact congrArg (fun z => LV.v (.bool z)) (by unfold posN; first | (rw [h4]; rfl) | (rw [h4, decide_eq_false (show ¬ 0 ≤ a.1 by omega)]; rfl) | (rw [h4, decide_eq_true (show 0 ≤ a.1 by omega)]; rfl) | (rw [h4, Bool.true_and, ← decide_not]; exact decide_eq_decide.2 om))
theorem lP (k : Nat) (l : List NM) (m : Nat) (hI : IV l) (ll : l.length < 1000000) : Run Try.prog T E0 (.call 20 [.sl k (l.map mc), .v (.int .i64 (m : Int))] (.v (.bool (posS l m)))) := by
 refine bM Try.func20 J J (dK J) <| Rg 1 J <| Ua J J <| Wn <| Rg 10 J <| Um J J <| aA (bO J J) J <| Um J J <| aA (fS J J) J <| bL (fun h8 => ?_) (fun h8 => ?_)
 ·refine Um J J <| aM J (dQ J) J <| aM J (qU [] [.sl k (l.map mc), .fn (.func 46) [] []] J (con1_run k l 46 [] (fun a => !posN a) (by simp) om (fun a ha => lpos1_run a (hI a ha).1 (hI a ha).2)) (SnapB.datas (by intro c hc; simp only [List.mem_cons, List.not_mem_nil, or_false] at hc; rcases hc with rfl | rfl; exact .sl _ _ (bA gK); exact dfn d0 d0)) lent0) J <| aM J (fA J) J <| aA (bT J J) J <| Ua J J <| Wn <| aP <| post (n := 0) (.inr J) J ?_ dD
  exact congrArg (fun z => LV.v (.bool z)) (by unfold posS; first | (rw [decide_eq_false (show ¬ l.length = m by omega)]; rfl) | (rw [decide_eq_true (show l.length = m by omega), Bool.true_and]; exact nQ posN l))
 refine Um J J <| K1 J J <| K1 J J <| K1 J J <| aA (bU J J) J <| Ua J J <| Wn <| aP <| post (n := 0) (.inr J) J ?_ dD
 exact congrArg (fun z => LV.v (.bool z)) (by unfold posS; first | (rw [decide_eq_false (show ¬ l.length = m by omega)]; rfl) | (rw [decide_eq_true (show l.length = m by omega), Bool.true_and]; exact nQ posN l))
end Go.Proofs.Ytohfklpfeilcpaa
namespace Go.Proofs.Ytohfklpfeilcpaa
open Go.Ab Go.RowKit
theorem data_res0 : Go.Ab.Data (.tup [.agg mxZ, .v (.int .i64 3)]) := by
 refine .tup _ (fun c hc => ?_)
 simp only [List.mem_cons, List.not_mem_nil, or_false] at hc
 rcases hc with rfl | rfl
 ·refine .agg _ (fun c hc => ?_)
  simp only [mxZ, List.mem_cons, List.not_mem_nil, or_false] at hc
  rcases hc with rfl | rfl | rfl | rfl | rfl | rfl
  all_goals first | exact .v _ | exact .sl _ _ (by simp)
 ·exact .v _
theorem data_res1 (a : NM) (l1 l2 : List X) : Go.Ab.Data (.tup [.agg (.v (.int .i64 2) :: (mc a ++ [outsV l1, outsV l2, .sl 0 []])), .v (.int .i64 0)]) := by
 refine .tup _ (fun c hc => ?_)
 simp only [List.mem_cons, List.not_mem_nil, or_false] at hc
 rcases hc with rfl | rfl
 ·refine .agg _ (fun c hc => ?_)
  simp only [List.mem_cons, List.mem_append, List.not_mem_nil, or_false] at hc
  rcases hc with rfl | hc | rfl | rfl | rfl
  ·exact .v _
  ·exact gK _ c hc
  ·exact douts _
  ·exact douts _
  ·exact .sl _ _ (by simp)
 ·exact .v _
theorem max_gen (p : PB) (hI : IP p) (hV : vP p = true) (kr : Nat) (rws : List RW) (v : X) (l1 l2 : List X) (hmrun : Run Try.prog T E0 (.call 14 [lvPb p] (.sl kr (rws.map rwc)))) (hmin : Run Try.prog T E0 (.call 13 [.v (.int .i64 (p.2.2.2.length : Int)), .sl kr (rws.map rwc), .agg (rwc (glX p))] (.agg (.v (.int .i64 2) :: (xc v ++ [.sl 1 (l1.map xc), .sl 0 [], .sl 1 (l2.map xc)]))))) (hl1l : l1.length ≤ 1000000) (hl2l : l2.length ≤ 1000000) (hl2m : p.1.2.length ≤ l2.length) : Run Try.prog T E0 (.call 5 [lvPb p] ((if (outs l1).isSome = true ∧ (outs (l2.take p.1.2.length)).isSome = true ∧ (outs [xneg v]).isSome = true then .tup [.agg (.v (.int .i64 2) :: (mc ((outsL [xneg v]).getD 0 default) ++ [outsV l1, outsV (l2.take p.1.2.length), .sl 0 []])), .v (.int .i64 0)] else .tup [.agg mxZ, .v (.int .i64 3)]))) := by
 have hP := mQ.1 hV
 have hrows := hP.rows
 have hcols := hP.cols
 have hgv := (pI hP.g).2
 refine bM Try.func5 J J (dK J) <| Ck [0] J <| Rg 3 J <| bK (gF J J) J <| bK (gE J) J <| Ua J J <| Nk [1,2] J <| aB <| Rg 3 J <| aA (aH (l := lvPb p) J J gG J J) J ?_
 refine aA (aO (b := .v (.bool true)) (aJ J (oQ p hI) (aK (by intro c hc; simp only [List.mem_cons, List.not_mem_nil, or_false] at hc; rcases hc with rfl; exact jN))) (by rw [hV])) J <| aA (fA J) J <| Nk [1,2,11] J <| bC J <| aG <| Rg 8 J <| aA (aV J J J J J) J <| aA (aH (l := .sl p.2.2.1 (p.2.2.2.map mc)) J J gG J J) J ?_
 refine aA (aJ J (dO p.2.2.1 p.2.2.2 om hI.g (fun a ha => (hgv a ha).all3.2.2)) (aK (by intro c hc; simp only [List.mem_cons, List.not_mem_nil, or_false] at hc; rcases hc with rfl; exact (.sl _ _ (bA gK))))) J <| aA (aO (b := .agg (rwc ((kd (p.2.2.2.map nx).length, p.2.2.2.map nx), x0, false))) (iF (cs := [_, _, _, _, _, _]) J J J J J) J) J <| aA (aJ J (mS (-1) (by decide)) (aK (by intro c hc; rw [List.mem_singleton] at hc; subst hc; exact .v _))) J <| aA (aO (b := .agg (rwc (glX p))) (aJ J (times_run ((kd (p.2.2.2.map nx).length, p.2.2.2.map nx), x0, false) (xint (-1)) (by show (p.2.2.2.map nx).length ≤ _; rw [List.length_map]; omega) 2 (by decide) (by decide) (by intro x hx; obtain ⟨a, ha, rfl⟩ := List.mem_map.1 hx; exact (hgv a ha).bd) (Bd0 (by decide)) (qG (z := -1) (by decide))) (aK (by intro c hc; simp only [List.mem_cons, List.not_mem_nil, or_false] at hc; rcases hc with rfl | rfl; exact (.agg _ (drwc _)); exact jN))) J) J <| bK (gE J) J <| bG (cV (cs' := rwc (glX p)) J J J g0 J J J J) <| Nk [1,2,4] J <| aB <| Rg 3 J <| aA (aV J J J J J) J <| aA (aH (l := .sl 1 ((glX p).1.2.map xc)) J J gG J J) J ?_
 refine aA (aO (b := .v (.bool false)) (nE J J) J) J <| Nk [1,2,4,21] J <| bC J <| aG <| bS (z := 9) J kR <| aC (aV J J J J J) J <| aC (aH (l := .sl p.2.2.1 (p.2.2.2.map mc)) J J gG J J) J ?_
 refine aC (aO (b := .v (.int .i64 (p.2.2.2.length : Int))) (bO J J) J) J <| aC (aH (l := lvPb p) J J gG J J) J ?_
 refine aC (aJ J (hmrun) (aK (by intro c hc; simp only [List.mem_cons, List.not_mem_nil, or_false] at hc; rcases hc with rfl; exact jN))) J <| aC (aH (l := .agg (rwc (glX p))) J J gG J J) J ?_
 refine aC (aJ J (hmin) (aK (by intro c hc; simp only [List.mem_cons, List.not_mem_nil, or_false] at hc; rcases hc with rfl | rfl | rfl; exact (.v _); exact (.sl _ _ (bA drwc)); exact (.agg _ (drwc _))))) J <| WD.S (gE J) J <| cN (cV (cs' := .v (.int .i64 2) :: (xc v ++ [.sl 1 (l1.map xc), .sl 0 [], .sl 1 (l2.map xc)])) J J J g0 J J J J) <| bJ (aT kR) J <| Ck [1,2,5] J <| Rg 1 J <| bK (gE J) J <| Nk [1,2,5,6] J <| Rg 6 J <| aA (oMf J) J <| aA (oMf J) J <| aA (oMf J) J <| aA (oBdA (cs := [_, _, _]) J J J J J) J <| bK (gE J) J <| bG (cV (cs' := [_, _, _]) J J J g0 J J J J) <| Nk [2,5,6,7] J <| dT (z := 7) J <| cX (aV J J J J J) J <| cX (aH (l := .v (.int .i64 2)) J J gG J J) J ?_
 refine cX (oIxA (j := 2) J J J J om om) J <| cX (aH (l := .fn (.func 18) [] [.ptr 26 0, .ptr 24 0, .ptr 0 0]) J J gG J J) J ?_
 refine fF _ (aR fun _ _ h => h) <| WN.Gv (first := []) (cap := [.ptr 26 0, .ptr 24 0, .ptr 0 0]) (ls := []) (Φ := fun r h' n' => ∃ cs, r = .agg cs ∧ ((outs [xneg v]).isSome = true → cs = .v (.int .i64 2) :: (mc ((outsL [xneg v]).getD 0 default) ++ [outsV l1, outsV (l2.take p.1.2.length), .sl 0 []])) ∧ cs.length = 6 ∧ getH h' 26 = some { cells := [.v (.int .i64 (if (outs l1).isSome = true ∧ (outs (l2.take p.1.2.length)).isSome = true ∧ (outs [xneg v]).isSome = true then 0 else 3))], sz := 1, elem := (58), st := 0 } ∧ getH h' 1 = some { cells := mxZ, sz := 6, elem := (31), st := 0 }) J J Try.func18 J J (dK J) J ((max3_G 40 26 24 0 _ v l1 l2 p gG gG gG om om om om om om om om om).mono (by rintro x e h m ⟨hx, ls, hr, cs, a1, a2, a3, a4, a5, a6, a7⟩; exact ⟨hx, ls, hr, cs, a1, a3, a4, a6, a7 1 _ om om gG⟩)) ?_
 rintro r_ hx nx_ ⟨cs, rfl, hcsE, hcs6, hxt, hx1⟩
 refine jM <| bK (gE J) J <| bG (cV (cs' := cs) J J J g0 J J hcs6 (rA hcs6)) <| Nk [2,6,8] J <| aB <| Rg 3 J <| aA (aV J J J J J) J <| aA (aH (l := .v (.int .i64 (if (outs l1).isSome = true ∧ (outs (l2.take p.1.2.length)).isSome = true ∧ (outs [xneg v]).isSome = true then 0 else 3))) J J (show getH _ _ = some { cells := [.v (.int .i64 (if (outs l1).isSome = true ∧ (outs (l2.take p.1.2.length)).isSome = true ∧ (outs [xneg v]).isSome = true then 0 else 3))], sz := 1, elem := (58), st := 0 } from g1 om (g1 om hxt)) J J) J <| aA (lD J J) J <| bL (fun h42 => ?_) (fun h42 => ?_)
 rotate_left
 ·refine Nk [2,6,8,42] J <| bC J <| aG ?_
  have hC : (outs l1).isSome = true ∧ (outs (l2.take p.1.2.length)).isSome = true ∧ (outs [xneg v]).isSome = true := Decidable.byContradiction fun h => h42 (by rw [if_neg h]; decide)
  obtain rfl := hcsE hC.2.2
  refine Rg 3 J <| aA (aH (l := .agg (.v (.int .i64 2) :: (mc ((outsL [xneg v]).getD 0 default) ++ [outsV l1, outsV (l2.take p.1.2.length), .sl 0 []]))) J J g0 J J) J <| bG (cV (cs' := .v (.int .i64 2) :: (mc ((outsL [xneg v]).getD 0 default) ++ [outsV l1, outsV (l2.take p.1.2.length), .sl 0 []])) J J J (g1 om (g1 om hx1)) J J J J) <| Ua J J <| Nk [2,3] J <| aP ?_
  exact post (n := 0) (.inr J) J (by rw [if_pos hC]; rfl) (by rw [if_pos hC]; exact data_res1 _ _ _)
 have hC : ¬ ((outs l1).isSome = true ∧ (outs (l2.take p.1.2.length)).isSome = true ∧ (outs [xneg v]).isSome = true) := fun h => h42 (if_pos h)
 refine Nk [2,6,8,42] J <| bF J <| aB <| bS (z := 5) J kR <| aC (iF (cs := [_, _, _, _, _, _]) J J J J J) J <| aC (aV J J J J J) J <| aC (aH (l := .v (.int .i64 (if (outs l1).isSome = true ∧ (outs (l2.take p.1.2.length)).isSome = true ∧ (outs [xneg v]).isSome = true then 0 else 3))) J J (show getH _ _ = some { cells := [.v (.int .i64 (if (outs l1).isSome = true ∧ (outs (l2.take p.1.2.length)).isSome = true ∧ (outs [xneg v]).isSome = true then 0 else 3))], sz := 1, elem := (58), st := 0 } from g1 om (g1 om hxt)) J J) J <| cN (cV (cs' := mxZ) J J J (g1 om (g1 om hx1)) J J J J) <| aC (iS J) J <| bJ (aT kR) J <| Ck [2,3] J <| bQ ?_
 exact post (n := 0) (.inr J) J (by rw [if_neg hC, if_neg hC]; rfl) (by rw [if_neg hC]; exact data_res0)
theorem max_run (p : PB) (hI : IP p) (hV : vP p = true) (h1n : 1 ≤ p.2.2.2.length) (β : Nat) (hb1 : 1 ≤ β) (hβ : β ≤ 400000000) (hB : ∀ k, k ≤ p.2.2.2.length → ((lpT p).frs k).Bds β) (hF : ∀ i, i < p.1.2.length + p.2.2.2.length → ((lpT p).frs p.2.2.2.length).sd (((lpT p).frs p.2.2.2.length).basic.getD i default) = true → 0 ≤ (((lpT p).frs p.2.2.2.length).cells.getD i default).getD 0 default) (hZ : ∀ k, k < p.2.2.2.length → ((lpT p).frs p.2.2.2.length).out.getD k default < (p.2.2.2.length : Int) → ((lpT p).frs p.2.2.2.length).goal.getD (k + 1) default = 0) (hD : ∀ c, c < p.2.2.2.length → ((lpT p).frs p.2.2.2.length).sd (((lpT p).frs p.2.2.2.length).out.getD c default) = true → 0 ≤ ((lpT p).frs p.2.2.2.length).goal.getD (c + 1) default) :
  Run Try.prog T E0 (.call 5 [lvPb p] (mxR ((lpT p).frs p.2.2.2.length) p.1.2.length)) := by
 have hP := mQ.1 hV
 have hrows := hP.rows
 have hcols := hP.cols
 have hrv := (pI hP.r).2
 have hmrun := lrows_run p p.2.2.2.length rfl h1n om om hI hP.rl hP.w (fun r hr a ha => (hP.row hr a ha).all3.2.2) (fun a ha => (hrv a ha).all3.2.2)
 have hlen := rowsX_len p
 obtain ⟨_, hmin, v, l1, l2, rfl, hv, hl1, hl2⟩ := min_run p.2.2.2.length 1 (rowsX p) (glX p) h1n om om om (rowsX_w hP.w) (by show ((p.2.2.2.map nx).map _).length = _; rw [List.length_map, List.length_map]) (rowsX_no p) β hb1 hβ (by rw [mK]; exact hB) (by rw [mK, hlen]; exact hF) (by rw [mK]; exact hZ) (by rw [mK]; exact hD)
 rw [mK] at hv hl1 hl2
 have hl1l : l1.length = p.2.2.2.length := by
  have := congrArg List.length hl1
  rw [fC, pnt_len, (frs_n _ _).1] at this
  exact this
 have hl2l : l2.length = (rowsX p).length := by
  have := congrArg List.length hl2
  rw [fC, mlt_len, (frs_n _ _).2] at this
  rw [this, ← mK]
  show (((rowsX p).map _).map _).length = _
  rw [List.length_map, List.length_map]
 rw [mxR_of (m := p.1.2.length) hv hl1 hl2]
 exact max_gen p hI hV 1 (rowsX p) v l1 l2 hmrun hmin om om om
end Go.Proofs.Ytohfklpfeilcpaa
set_option maxHeartbeats 8000000
namespace Go.Proofs.Ytohfklpfeilcpaa
open Go.Ab Go.RowKit
theorem pP (k1 k2 : Nat) (ns : List NM) (ln : ns.length < 1099511627776) : Run Try.prog T E0 (.call 8 [.sl k1 (ns.map mc), .sl k2 (ns.map mc)] (.v (.bool true))) := by
 refine bM Try.func8 J J (dK J) <| Rg 1 J <| Ua J J <| Wn <| aB <| Rg 5 J <| Um J J <| aA (bO J J) J <| Um J J <| aA (bO J J) J <| aA (lD J J) J <| bL (fun h10 => ?_) (fun h10 => ?_)
 ·exact absurd J h10
 refine Wn <| bC J <| aG <| aB <| Rg 3 J <| Um J J <| aA (bO J J) J <| Um J J <| Wn <| aI <| bI (α := Nat) (fun i => [(0, .sl k1 (ns.map mc)), (1, .sl k2 (ns.map mc)), (12, .v (.int .i64 (ns.length : Int))), (13, .v (.int .i64 (i : Int)))]) (fun i => []) (fun i n => i ≤ ns.length) (fun i => ns.length - i) (0) ⟨J, J, J, J, trivial⟩ trivial (Nat.zero_le _) ?_
 rintro i n hF
 change WC _ _ _ _ _ (_ :: _) ([]) n _
 refine Rg 1 J <| aA (bX J J) J <| bL (fun h14 => ?_) (fun h14 => ?_)
 rotate_left
 ·refine Wn <| bC J <| bB <| aW <| aQ J <| Rg 1 J <| Ua J J <| Wn <| aP ?_
  exact post (n := 0) (.inr J) J J (by simp)
 refine Wn <| bF J <| aG <| aI <| Rg 2 J <| Um J J <| Ua J J <| Wn <| bS (z := 9) J kR <| Dm J J <| Dm J J <| aC (cZ J J J J J om J) J <| aC (gC (l := .agg [_, _]) J J J) J <| Dm J J <| Dm J J <| aC (cZ J J J J J om J) J <| aC (gC (l := .agg [_, _]) J J J) J <| aC (aO (b := .v (.bool false)) (oNeS J J J J J) (by simp)) J <| bJ (aT kR) J <| Ck [0,1,12,13,24] J <| cD J <| cE <| aE <| aL (z := 2) J ?_
 refine aA (cI (((i + 1 : Nat) : Int)) (aU J J om) om) J <| Um J J <| Wn <| aF <| ⟨i + 1, ⟨J, J, J, J, trivial⟩, trivial, by show i + 1 ≤ _; omega, by show ns.length - (i + 1) < ns.length - i; omega⟩
end Go.Proofs.Ytohfklpfeilcpaa
set_option maxHeartbeats 16000000
namespace Go.Proofs.Ytohfklpfeilcpaa
open Go.Ab Go.RowKit
theorem fZ (k : Nat) (ns : List Int) (ln : ns.length < 1099511627776) : Run Try.prog T E0 (.call 7 [.sl k (ns.map dI)] (.sl (kd (ns.map wI).length) ((ns.map wI).map mc))) := by
 refine bM Try.func7 J J (dK J) <| Rg 1 J <| Ua J J <| Wn <| Rg 1 J <| Ua J J <| Wn <| aB <| Rg 3 J <| Um J J <| aA (bO J J) J <| Um J J <| Wn <| aI <| bI (α := Nat × Nat × (List NM)) (fun ⟨i, q, ds⟩ => [(3, outV q 2 (ds.map mc)), (6, .sl k (ns.map dI)), (7, .v (.int .i64 (ns.length : Int))), (8, .v (.int .i64 (i : Int)))]) (fun ⟨i, q, ds⟩ => outH q 2 29 (ds.map mc) []) (fun ⟨i, q, ds⟩ n => i ≤ ns.length ∧ ds = (ns.take i).map wI ∧ ds.length = i) (fun ⟨i, q, ds⟩ => ns.length - i) (0, 0, []) ⟨J, J, J, J, trivial⟩ trivial ⟨Nat.zero_le _, by simp, rfl⟩ ?_
 rintro ⟨i, q, ds⟩ n hF
 change WC _ _ _ _ _ (_ :: _) (outH _ _ _ _ _) n _
 obtain ⟨hi, hds, hdl⟩ := hF
 refine Rg 1 J <| aA (bX J J) J <| bL (fun h9 => ?_) (fun h9 => ?_)
 rotate_left
 ·refine Wn <| bC J <| bB <| aW <| aQ J <| Rg 2 J <| Um J J <| Ua J J <| Wn <| aP ?_
  rw [List.take_of_length_le om] at hds
  rw [← hds, ← qX]
  exact postOut (n := 0) (.inr J) J (by decide) (cQ (n := 2) (fun _ => rfl)) (bA gK)
 refine Wn <| bF J <| aG <| aI <| Rg 3 J <| aA (cZ (us := ns) (f := dI) (j := i) J J J J J om J) J <| aA (gC (l := .v (.int .i64 (ns.getD i default))) J J J) J <| Ua J J <| Wn <| aL (z := 6) J <| Um J J <| Um J J <| aA (iF (cs := [_, _]) J J J J J) J <| aA (eV (cs := [_, _]) (rows := [[_, _]]) J J (by decide) J J J) J <| qI (te := ti29) (f := mc) (q := q) (us := ds) (u := (wI (ns.getD i default))) J J J J J (fun _ => rfl) (by decide) (by show (2 * (ds.length + 1) + 256) * 16 ≤ _; omega) om J J J <| Ua J J <| Wn <| aE <| aL (z := 2) J <| aA (cI (((i + 1 : Nat) : Int)) (aU J J om) om) J <| Um J J <| Wn <| aF <| ⟨⟨i + 1, _, ds ++ [wI (ns.getD i default)]⟩, ⟨J, J, J, J, trivial⟩, kJ, ⟨om, by rw [iK om, hds], by simp; omega⟩, by show ns.length - (i + 1) < ns.length - i; omega⟩
theorem mW  : Run Try.prog T E0 (.call 4 [] (.v (.bool true))) := by
 refine bM Try.func4 J J (dK J) <| Rg 1 J <| Ua J J <| Wn <| Rg 17 J <| aA (eV (cs := [_, _]) (rows := [[_], [_]]) J J (by decide) J J J) J <| aA (aO (b := .sl 1 (([1, 1].map wI).map mc)) (aJ J (fZ 2 [1, 1] (by decide)) (aK (by intro c hc; rw [List.mem_singleton] at hc; subst hc; exact .sl _ _ (by simp)))) J) J <| aA (eV (cs := [_, _]) (rows := [[_], [_]]) J J (by decide) J J J) J <| aA (aO (b := .sl 1 (([0, 1].map wI).map mc)) (aJ J (fZ 2 [0, 1] (by decide)) (aK (by intro c hc; rw [List.mem_singleton] at hc; subst hc; exact .sl _ _ (by simp)))) J) J <| aA (aO (b := .sl 2 (exP.1.2.map fM)) (eV (cs := [_, _]) (rows := [[_], [_]]) J J (by decide) J J J) J) J <| aA (eV (cs := [_, _]) (rows := [[_], [_]]) J J (by decide) J J J) J <| aA (aO (b := .sl 1 (([4, 3].map wI).map mc)) (aJ J (fZ 2 [4, 3] (by decide)) (aK (by intro c hc; rw [List.mem_singleton] at hc; subst hc; exact .sl _ _ (by simp)))) J) J <| aA (eV (cs := [_, _]) (rows := [[_], [_]]) J J (by decide) J J J) J <| aA (aO (b := .sl 1 (([1, 2].map wI).map mc)) (aJ J (fZ 2 [1, 2] (by decide)) (aK (by intro c hc; rw [List.mem_singleton] at hc; subst hc; exact .sl _ _ (by simp)))) J) J <| aA (aO (b := lvPb exP) (iF (cs := [_, _, _]) J J J J J) J) J <| aA (aO (b := .tup [.agg exC, .v (.int .i64 0)]) (aJ J (max_run exP exP_I exP_V (by decide) 2 (by decide) (by decide) (fun k hk => Tb.bdsB_ok (exP_b k hk)) exP_F exP_Z exP_D) (aK (by intro c hc; simp only [List.mem_cons, List.not_mem_nil, or_false] at hc; rcases hc with rfl; exact jN))) exP_R) J <| Um J J <| aA (fD J J) J <| aA (fD J J) J <| bK (gE J) J <| bG (cV (cs' := exC) J J J g0 J J J J) <| Ua J J <| Nk [1,2] J ?_
 refine bS (z := 34) J kR <| Dm J J <| aC (aO (b := .v (.bool true)) (fS J J) J) J <| Dm J J <| aZ J (aV J J J J J) J <| aZ J (aH (l := .v (.int .i64 2)) J J g0 J J) J <| aZ J (aO (b := .v (.bool true)) (fS J J) J) J <| aC (bT J J) J <| Dm J J <| aZ J (aV J J J J J) J <| aZ J (aH (l := lvM (wI 7)) J J g0 J J) J <| aZ J (iF (cs := [_, _]) J J J J J) J <| aZ J (aO (b := .v (.bool true)) (oEqS J J J J J) J) J <| aC (bT J J) J <| Dm J J <| aZ J (aV J J J J J) J <| aZ J (aH (l := .sl 1 ([wI 1, wI 3].map mc)) J J g0 J J) J <| aZ J (eV (cs := [_, _]) (rows := [[_], [_]]) J J (by decide) J J J) J <| aZ J (aO (b := .sl 1 (([1, 3].map wI).map mc)) (aJ J (fZ 2 [1, 3] (by decide)) (aK (by intro c hc; rw [List.mem_singleton] at hc; subst hc; exact .sl _ _ (by simp)))) J) J <| aZ J (aJ J (pP 1 1 [wI 1, wI 3] (by decide)) (aK (by intro c hc; simp only [List.mem_cons, List.not_mem_nil, or_false] at hc; rcases hc with rfl | rfl; exact (.sl _ _ (bA gK)); exact (.sl _ _ (bA gK))))) J <| aC (bT J J) J <| Dm J J <| aZ J (aV J J J J J) J <| aZ J (aH (l := .sl 1 ([wI 1, wI 1].map mc)) J J g0 J J) J ?_
 refine aZ J (eV (cs := [_, _]) (rows := [[_], [_]]) J J (by decide) J J J) J <| aZ J (aO (b := .sl 1 (([1, 1].map wI).map mc)) (aJ J (fZ 2 [1, 1] (by decide)) (aK (by intro c hc; rw [List.mem_singleton] at hc; subst hc; exact .sl _ _ (by simp)))) J) J <| aZ J (aJ J (pP 1 1 [wI 1, wI 1] (by decide)) (aK (by intro c hc; simp only [List.mem_cons, List.not_mem_nil, or_false] at hc; rcases hc with rfl | rfl; exact (.sl _ _ (bA gK)); exact (.sl _ _ (bA gK))))) J <| aC (bT J J) J <| Dm J J <| aZ J (aV J J J J J) J <| aZ J (aH (l := .sl 0 []) J J g0 J J) J <| aZ J (aO (b := .v (.int .i64 0)) (mM J J) J) J <| aZ J (aO (b := .v (.bool true)) (fS J J) J) J <| aC (bT J J) J <| aC (iS J) J <| bJ (aT kR) J <| Ck [0] J <| aP ?_
 exact post (n := 0) (.inr J) J J (.v _)
end Go.Proofs.Ytohfklpfeilcpaa
namespace Go.Proofs.Ytohfklpfeilcpaa
open Go.Ab Go.RowKit
theorem openE_G (n0 : Nat) (H : Hp) (k : Nat) (b : Bool) (vx : X) : WC Try.prog T E0 Try.f35.ntmps (codeOf Try.f35) (argsEnv 0 [.v (.int .i64 0), .sl 0 [], .agg (rwc ((k, []), vx, b))]) (nrm H) n0 (fun x e' h' n' => (x = .normal ∨ x = .ret) ∧ ∃ ls', resE e' T h' Try.f35.results.toList = some ls' ∧ (∃ q, resultLV ls' = .ptr q 0 ∧ getH h' q = some { cells := [.v (.int .i64 0), .sl 0 [], .sl 0 [], .sl 0 [], .sl 0 [], .sl 2 [xc vx]], sz := 6, elem := (83), st := 0 } ∧ n0 ≤ q ∧ q < n' ∧ n0 ≤ n' ∧ ∀ r o, r < n0 → getH H r = some o → getH h' r = some o)) := by
 change WC _ _ _ _ _ [(0, .v (.int .i64 0)), (1, .sl 0 []), (2, .agg (rwc ((k, []), vx, b)))] _ _ _
 refine Ck [0,1,2] J <| Rg 2 J <| bK (gF J J) J <| Ua J J <| Nk [0,1,5] J <| Rg 11 J <| Um J J <| Um J J <| aA (aV J J J J J) J <| aA (aH (l := lvX vx) J J g0 J J) J <| aA (aO (b := .sl 2 [xc vx]) (eV (cs := [_, _, _, _]) (rows := [[_, _, _, _]]) J J (by decide) J J J) J) J <| aA (aV J J J J J) J <| aA (aH (l := .sl k []) J J g0 J J) J <| aA (oAp0 (te := ti46) J J J J J (by decide)) J <| aA (iF (cs := [_, _, _, _, _, _]) J J J J J) J <| bK (gF J J) J <| Ua J J <| Nk [0,1,7] J <| aB <| Rg 2 J <| Um J J <| Um J J ?_
 refine Nk [0,1,7,21,22] J <| aI <| dN <| Rg 1 J <| aA (bX J J) J <| bL (fun h23 => ?_) (fun h23 => ?_)
 ·exact absurd h23 (by decide)
 refine Nk [0,1,7,21,22,23] J <| bC J <| bB <| fL <| aQ J <| Ck [0,1,7] J <| aB <| Rg 3 J <| Um J J <| aA (aO (b := .v (.int .i64 0)) (mM J J) J) J <| Um J J <| Nk [0,7,36,37,38] J <| aI <| dN <| Rg 1 J <| aA (bX J J) J <| bL (fun h39 => ?_) (fun h39 => ?_)
 ·exact absurd h39 (by decide)
 refine Nk [0,7,36,37,38,39] J <| bC J <| bB <| fL <| aQ J <| Ck [7] J <| Rg 2 J <| Um J J <| Ua J J <| Nk [6] J <| aP ?_
 exact ⟨.inr J, _, rfl, n0 + 2 + 9, rfl, g0, om, om, om, fun r o hr h => (by repeat (first | exact nrm_get.trans h | refine g1 om ?_))⟩
theorem eqsE_G (n0 q : Nat) (H : Hp) (vx : X) (hq : getH H q = some { cells := [.v (.int .i64 0), .sl 0 [], .sl 0 [], .sl 0 [], .sl 0 [], .sl 2 [xc vx]], sz := 6, elem := (83), st := 0 }) (hqn : q < n0) : WC Try.prog T E0 Try.f36.ntmps (codeOf Try.f36) (argsEnv 0 [.ptr q 0]) (nrm H) n0 (fun x e' h' n' => (x = .normal ∨ x = .ret) ∧ ∃ ls', resE e' T h' Try.f36.results.toList = some ls' ∧ (resultLV ls' = .tup [.sl 0 [], .v (.bool true)] ∧ n0 ≤ n' ∧ ∀ r o, r < n0 → getH H r = some o → getH h' r = some o)) := by
 change WC _ _ _ _ _ [(0, .ptr q 0)] _ _ _
 refine Ck [0] J <| Rg 3 J <| bK (gF J J) J <| Ua J J <| Ua J J <| Nk [1] J <| aB <| Rg 2 J <| bK (gE J) J <| bG (cV (cs' := [.v (.int .i64 0)]) J J J g0 J J J J) <| Nk [1,4] J <| aI <| dN <| aB <| bS (z := 7) J kR <| aC (aH (l := .v (.int .i64 0)) J J g0 J J) J <| aC (aH (l := .ptr q 0) J J (g1 om (g1 om g0)) J J) J <| aC (cO J) J <| aC (aV J J J J J) J <| aC (aH (l := .sl 0 []) J J (show getH _ _ = some { cells := [.v (.int .i64 0), .sl 0 [], .sl 0 [], .sl 0 [], .sl 0 [], .sl 2 [xc vx]], sz := 6, elem := (83), st := 0 } from (by repeat (first | exact nrm_get.trans hq | refine g1 om ?_))) J J) J ?_
 refine aC (aO (b := .v (.int .i64 0)) (mM J J) J) J <| aC (bX J J) J <| kS (fun h16 => ?_) (fun h16 => ?_)
 ·exact absurd h16 (by decide)
 refine bJ (aT kR) J <| Ck [1,4,16] J <| bC J <| bB <| fL <| aQ J <| Ck [] J <| Rg 2 J <| Ua J J <| Ua J J <| Nk [2,3] J <| aP ?_
 exact ⟨.inr J, _, rfl, rfl, om, fun r o hr h => (by repeat (first | exact nrm_get.trans h | refine g1 om ?_))⟩
theorem freE_G (n0 q : Nat) (H : Hp) (vx : X) (hq : getH H q = some { cells := [.v (.int .i64 0), .sl 0 [], .sl 0 [], .sl 0 [], .sl 0 [], .sl 2 [xc vx]], sz := 6, elem := (83), st := 0 }) (hqn : q < n0) : WC Try.prog T E0 Try.f37.ntmps (codeOf Try.f37) (argsEnv 0 [.ptr q 0]) (nrm H) n0 (fun x e' h' n' => (x = .normal ∨ x = .ret) ∧ ∃ ls', resE e' T h' Try.f37.results.toList = some ls' ∧ (n0 ≤ n' ∧ ∀ r o, r < n0 → getH H r = some o → getH h' r = some o)) := by
 change WC _ _ _ _ _ [(0, .ptr q 0)] _ _ _
 refine Ck [0] J <| Rg 6 J <| Um J J <| aA (cO J) J <| aA (aV J J J J J) J <| aA (aH (l := .sl 0 []) J J (show getH _ _ = some { cells := [.v (.int .i64 0), .sl 0 [], .sl 0 [], .sl 0 [], .sl 0 [], .sl 2 [xc vx]], sz := 6, elem := (83), st := 0 } from (by repeat (first | exact nrm_get.trans hq | refine g1 om ?_))) J J) J ?_
 refine aA (aO (b := .v (.int .i64 0)) (mM J J) J) J <| Um J J <| Nk [0,9,10] J <| dM <| dN <| Rg 1 J <| aA (bX J J) J <| bL (fun h11 => ?_) (fun h11 => ?_)
 ·exact absurd h11 (by decide)
 refine Nk [0,9,10,11] J <| bC J <| bB <| fL <| gM J ?_
 exact ⟨.inl J, _, rfl, om, fun r o hr h => (by repeat (first | exact nrm_get.trans h | refine g1 om ?_))⟩
theorem feaE_G (n0 q : Nat) (H : Hp) (vx : X) (hq : getH H q = some { cells := [.v (.int .i64 0), .sl 0 [], .sl 0 [], .sl 0 [], .sl 0 [], .sl 2 [xc vx]], sz := 6, elem := (83), st := 0 }) (hqn : q < n0) : WC Try.prog T E0 Try.f38.ntmps (codeOf Try.f38) (argsEnv 0 [.ptr q 0]) (nrm H) n0 (fun x e' h' n' => (x = .normal ∨ x = .ret) ∧ ∃ ls', resE e' T h' Try.f38.results.toList = some ls' ∧ (resultLV ls' = .tup [.sl 0 [], .v (.bool true)] ∧ n0 ≤ n' ∧ ∀ r o, r < n0 → getH H r = some o → getH h' r = some o)) := by
 change WC _ _ _ _ _ [(0, .ptr q 0)] _ _ _
 refine Ck [0] J <| Rg 3 J <| bK (gF J J) J <| Ua J J <| Ua J J <| Nk [1] J <| Rg 1 J <| Ua J J <| Nk [1,4] J <| aB <| Rg 6 J <| aA (aH (l := .ptr q 0) J J g0 J J) J <| aA (cO J) J <| aA (aV J J J J J) J <| aA (aH (l := .sl 0 []) J J (show getH _ _ = some { cells := [.v (.int .i64 0), .sl 0 [], .sl 0 [], .sl 0 [], .sl 0 [], .sl 2 [xc vx]], sz := 6, elem := (83), st := 0 } from (by repeat (first | exact nrm_get.trans hq | refine g1 om ?_))) J J) J ?_
 refine aA (aO (b := .v (.int .i64 0)) (mM J J) J) J <| Um J J <| Nk [1,4,23,24,25] J <| aI <| dN <| Rg 1 J <| aA (bX J J) J <| bL (fun h26 => ?_) (fun h26 => ?_)
 ·exact absurd h26 (by decide)
 refine Nk [1,4,23,24,25,26] J <| bC J <| bB <| fL <| aQ J <| Ck [1,4] J <| aB <| Rg 2 J <| Um J J <| aA (bX J J) J <| bL (fun h75 => ?_) (fun h75 => ?_)
 rotate_left
 ·exact absurd (show (-1 : Int) < 0 by decide) h75
 refine Nk [1,4,75] J <| bF J <| aB <| Rg 2 J <| Ua J J <| Ua J J <| Nk [2,3] J <| bQ ?_
 exact ⟨.inr J, _, rfl, rfl, om, fun r o hr h => (by repeat (first | exact nrm_get.trans h | refine g1 om ?_))⟩
theorem desE_G (n0 q : Nat) (H : Hp) (vx : X) (hq : getH H q = some { cells := [.v (.int .i64 0), .sl 0 [], .sl 0 [], .sl 0 [], .sl 0 [], .sl 2 [xc vx]], sz := 6, elem := (83), st := 0 }) (hqn : q < n0) : WC Try.prog T E0 Try.f41.ntmps (codeOf Try.f41) (argsEnv 0 [.ptr q 0]) (nrm H) n0 (fun x e' h' n' => (x = .normal ∨ x = .ret) ∧ ∃ ls', resE e' T h' Try.f41.results.toList = some ls' ∧ (resultLV ls' = .v (.int .i64 (-1)) ∧ n0 ≤ n' ∧ ∀ r o, r < n0 → getH H r = some o → getH h' r = some o)) := by
 change WC _ _ _ _ _ [(0, .ptr q 0)] _ _ _
 refine Ck [0] J <| Rg 1 J <| Ua J J <| Nk [0] J <| dM <| dN <| dM <| Rg 1 J <| Ua J J <| Nk [0,3] J <| aB <| Rg 6 J <| Um J J <| aA (cO J) J <| aA (aV J J J J J) J <| aA (aH (l := .sl 0 []) J J (show getH _ _ = some { cells := [.v (.int .i64 0), .sl 0 [], .sl 0 [], .sl 0 [], .sl 0 [], .sl 2 [xc vx]], sz := 6, elem := (83), st := 0 } from (by repeat (first | exact nrm_get.trans hq | refine g1 om ?_))) J J) J ?_
 refine aA (aO (b := .v (.int .i64 0)) (mM J J) J) J <| Um J J <| Nk [0,3,15,16,17] J <| aI <| dN <| Rg 1 J <| aA (bX J J) J <| bL (fun h18 => ?_) (fun h18 => ?_)
 ·exact absurd h18 (by decide)
 refine Nk [0,3,15,16,17,18] J <| bC J <| bB <| fL <| aQ J <| Ck [0,3] J <| aB <| Rg 2 J <| Um J J <| aA (bX J J) J <| bL (fun h55 => ?_) (fun h55 => ?_)
 rotate_left
 ·exact absurd (show (-1 : Int) < 0 by decide) h55
 refine Nk [0,3,55] J <| bF J <| aB <| Rg 1 J <| Ua J J <| Nk [2] J <| bQ <| iZ <| unr_ret <| iZ ?_
 exact ⟨.inr J, _, rfl, rfl, om, fun r o hr h => (by repeat (first | exact nrm_get.trans h | refine g1 om ?_))⟩
theorem pntE_G (n0 q : Nat) (H : Hp) (vx : X) (hq : getH H q = some { cells := [.v (.int .i64 0), .sl 0 [], .sl 0 [], .sl 0 [], .sl 0 [], .sl 2 [xc vx]], sz := 6, elem := (83), st := 0 }) (hqn : q < n0) : WC Try.prog T E0 Try.f39.ntmps (codeOf Try.f39) (argsEnv 0 [.ptr q 0]) (nrm H) n0 (fun x e' h' n' => (x = .normal ∨ x = .ret) ∧ ∃ ls', resE e' T h' Try.f39.results.toList = some ls' ∧ (∃ p, resultLV ls' = .ref p 4 0 0 ∧ getH h' p = some { cells := [], sz := 4, elem := (46), st := 0 } ∧ n0 ≤ p ∧ p < n' ∧ n0 ≤ n' ∧ ∀ r o, r < n0 → getH H r = some o → getH h' r = some o)) := by
 change WC _ _ _ _ _ [(0, .ptr q 0)] _ _ _
 refine Ck [0] J <| Rg 1 J <| Ua J J <| Nk [0] J <| Rg 6 J <| Um J J <| aA (cO J) J <| aA (aV J J J J J) J <| aA (aH (l := .v (.int .i64 0)) J J (show getH _ _ = some { cells := [.v (.int .i64 0), .sl 0 [], .sl 0 [], .sl 0 [], .sl 0 [], .sl 2 [xc vx]], sz := 6, elem := (83), st := 0 } from (by repeat (first | exact nrm_get.trans hq | refine g1 om ?_))) J J) J ?_
 refine bK (oMk (a := 0) (b := 0) J J J J J J (by decide) (by decide) (by decide) (by decide)) J <| Ua J J <| Nk [0,3] J <| aB <| Rg 6 J <| Um J J <| aA (cO J) J <| aA (aV J J J J J) J <| aA (aH (l := .sl 0 []) J J (show getH _ _ = some { cells := [.v (.int .i64 0), .sl 0 [], .sl 0 [], .sl 0 [], .sl 0 [], .sl 2 [xc vx]], sz := 6, elem := (83), st := 0 } from (by repeat (first | exact nrm_get.trans hq | refine g1 om ?_))) J J) J ?_
 refine aA (aO (b := .v (.int .i64 0)) (mM J J) J) J <| Um J J <| Nk [0,3,14,15,16] J <| aI <| dN <| Rg 1 J <| aA (bX J J) J <| bL (fun h17 => ?_) (fun h17 => ?_)
 ·exact absurd h17 (by decide)
 refine Nk [0,3,14,15,16,17] J <| bC J <| bB <| fL <| aQ J <| Ck [3] J <| Rg 2 J <| Um J J <| Ua J J <| Nk [2] J <| aP ?_
 exact ⟨.inr J, _, rfl, n0 + 1 + 4, rfl, g0, om, om, om, fun r o hr h => (by repeat (first | exact nrm_get.trans h | refine g1 om ?_))⟩
theorem mltE_G (n0 q : Nat) (H : Hp) (vx : X) (hq : getH H q = some { cells := [.v (.int .i64 0), .sl 0 [], .sl 0 [], .sl 0 [], .sl 0 [], .sl 2 [xc vx]], sz := 6, elem := (83), st := 0 }) (hqn : q < n0) (k : Nat) (us : List (List LV)) : WC Try.prog T E0 Try.f42.ntmps (codeOf Try.f42) (argsEnv 0 [.ptr q 0, .sl k us]) (nrm H) n0 (fun x e' h' n' => (x = .normal ∨ x = .ret) ∧ ∃ ls', resE e' T h' Try.f42.results.toList = some ls' ∧ (∃ p, resultLV ls' = .ref p 4 0 0 ∧ getH h' p = some { cells := [], sz := 4, elem := (46), st := 0 } ∧ n0 ≤ p ∧ p < n' ∧ n0 ≤ n' ∧ ∀ r o, r < n0 → getH H r = some o → getH h' r = some o)) := by
 change WC _ _ _ _ _ [(0, .ptr q 0), (1, .sl k us)] _ _ _
 refine Ck [0,1] J <| Rg 1 J <| Ua J J <| Nk [0,1] J <| Rg 7 J <| Um J J <| aA (cO J) J <| aA (aV J J J J J) J <| aA (aH (l := .sl 0 []) J J (show getH _ _ = some { cells := [.v (.int .i64 0), .sl 0 [], .sl 0 [], .sl 0 [], .sl 0 [], .sl 2 [xc vx]], sz := 6, elem := (83), st := 0 } from (by repeat (first | exact nrm_get.trans hq | refine g1 om ?_))) J J) J ?_
 refine aA (aO (b := .v (.int .i64 0)) (mM J J) J) J <| bK (oMk (a := 0) (b := 0) J J J J J J (by decide) (by decide) (by decide) (by decide)) J <| Ua J J <| Nk [0,1,5] J <| aB <| Rg 6 J <| Um J J <| aA (cO J) J <| aA (aV J J J J J) J <| aA (aH (l := .sl 0 []) J J (show getH _ _ = some { cells := [.v (.int .i64 0), .sl 0 [], .sl 0 [], .sl 0 [], .sl 0 [], .sl 2 [xc vx]], sz := 6, elem := (83), st := 0 } from (by repeat (first | exact nrm_get.trans hq | refine g1 om ?_))) J J) J ?_
 refine aA (aO (b := .v (.int .i64 0)) (mM J J) J) J <| Um J J <| Nk [0,1,5,17,18,19] J <| aI <| dN <| Rg 1 J <| aA (bX J J) J <| bL (fun h20 => ?_) (fun h20 => ?_)
 ·exact absurd h20 (by decide)
 refine Nk [0,1,5,17,18,19,20] J <| bC J <| bB <| fL <| aQ J <| Ck [5] J <| Rg 2 J <| Um J J <| Ua J J <| Nk [4] J <| aP ?_
 exact ⟨.inr J, _, rfl, n0 + 1 + 5, rfl, g0, om, om, om, fun r o hr h => (by repeat (first | exact nrm_get.trans h | refine g1 om ?_))⟩
theorem minE_run (k : Nat) (b : Bool) (vx : X) : Run Try.prog T E0 (.call 13 [.v (.int .i64 0), .sl 0 [], .agg (rwc ((k, []), vx, b))] (.agg (.v (.int .i64 2) :: (xc vx ++ [.sl 1 (([] : List X).map xc), .sl 0 [], .sl 1 (([] : List X).map xc)])))) := by
 refine bM Try.func13 J J (dK J) <| Ck [0,1,2] J <| Rg 2 J <| bK (gF J J) J <| bK (gE J) J <| Nk [0,1,5,6] J <| dT (z := 5) J <| cX (dQ J) J <| cX (dQ J) J <| cX (aH (l := .agg (rwc ((k, []), vx, b))) J J (g1 om g0) J J) J <| fF _ (aR fun _ _ h => h) <| kT (ls := [.v (.int .i64 0), .sl 0 [], .agg (rwc ((k, []), vx, b))]) (Φ := fun r h' n' => ∃ q, r = .ptr q 0 ∧ getH h' q = some { cells := [.v (.int .i64 0), .sl 0 [], .sl 0 [], .sl 0 [], .sl 0 [], .sl 2 [xc vx]], sz := 6, elem := (83), st := 0 } ∧ 6 ≤ q ∧ q < n' ∧ getH h' 1 = some { cells := [.v (.int .i64 0), .v (.int .i64 0), .sl 0 [], .v (.int .i64 0), .sl 0 [], .sl 0 [], .sl 0 [], .sl 0 []], sz := 8, elem := (53), st := 0 }) J Try.func35 J J (dK J) J ((openE_G _ _ k b vx).mono (by rintro x_ e h m ⟨hx, ls, hr, hP⟩; exact ⟨hx, ls, hr, (by obtain ⟨q, a1, a2, a3, a4, a5, a6⟩ := hP; exact ⟨q, a1, a2, Nat.le_trans om a3, a4, a6 _ _ om g0⟩)⟩)) ?_
 rintro r_ ha na ⟨q, rfl, hqa, hq6, hqna, hoa⟩
 refine jM <| Ua J J <| Nk [6,7] J <| aB <| dT (z := 7) J <| cX (dQ J) J <| fF (nrm ha) (aR fun _ _ h => h) <| kT (ls := [.ptr q 0]) (Φ := fun r h' n' => r = .tup [.sl 0 [], .v (.bool true)] ∧ getH h' q = some { cells := [.v (.int .i64 0), .sl 0 [], .sl 0 [], .sl 0 [], .sl 0 [], .sl 2 [xc vx]], sz := 6, elem := (83), st := 0 } ∧ getH h' 1 = some { cells := [.v (.int .i64 0), .v (.int .i64 0), .sl 0 [], .v (.int .i64 0), .sl 0 [], .sl 0 [], .sl 0 [], .sl 0 []], sz := 8, elem := (53), st := 0 } ∧ na ≤ n') J Try.func36 J J (dK J) J ((eqsE_G _ q ha vx hqa om).mono (by rintro x_ e h m ⟨hx, ls, hr, hP⟩; exact ⟨hx, ls, hr, (by obtain ⟨a1, a2, a3⟩ := hP; exact ⟨a1, a3 _ _ om hqa, a3 _ _ om hoa, om⟩)⟩)) ?_
 rintro r_ hb nb ⟨rfl, hqb, hob, hnb⟩
 refine jM <| Um J J <| aA (fD J J) J <| aA (fD J J) J <| Ua J J <| Ua J J <| Nk [6,7,8,9] J <| aB <| Rg 2 J <| Um J J <| aA (fA J) J <| Nk [6,7,8,25] J <| bC J <| aG <| dT (z := 2) J <| cX (dQ J) J <| fF (nrm hb) (aR fun _ _ h => h) <| kT (ls := [.ptr q 0]) (Φ := fun r h' n' => getH h' q = some { cells := [.v (.int .i64 0), .sl 0 [], .sl 0 [], .sl 0 [], .sl 0 [], .sl 2 [xc vx]], sz := 6, elem := (83), st := 0 } ∧ getH h' 1 = some { cells := [.v (.int .i64 0), .v (.int .i64 0), .sl 0 [], .v (.int .i64 0), .sl 0 [], .sl 0 [], .sl 0 [], .sl 0 []], sz := 8, elem := (53), st := 0 } ∧ nb ≤ n') J Try.func37 J J (dK J) J ((freE_G _ q hb vx hqb om).mono (by rintro x_ e h m ⟨hx, ls, hr, hP⟩; exact ⟨hx, ls, hr, (by obtain ⟨a2, a3⟩ := hP; exact ⟨a3 _ _ om hqb, a3 _ _ om hob, om⟩)⟩)) ?_
 rintro r_ hc nc ⟨hqc, hoc, hnc⟩
 refine jM <| Nk [6,7] J <| aB <| dT (z := 7) J <| cX (dQ J) J <| fF (nrm hc) (aR fun _ _ h => h) <| kT (ls := [.ptr q 0]) (Φ := fun r h' n' => r = .tup [.sl 0 [], .v (.bool true)] ∧ getH h' q = some { cells := [.v (.int .i64 0), .sl 0 [], .sl 0 [], .sl 0 [], .sl 0 [], .sl 2 [xc vx]], sz := 6, elem := (83), st := 0 } ∧ getH h' 1 = some { cells := [.v (.int .i64 0), .v (.int .i64 0), .sl 0 [], .v (.int .i64 0), .sl 0 [], .sl 0 [], .sl 0 [], .sl 0 []], sz := 8, elem := (53), st := 0 } ∧ nc ≤ n') J Try.func38 J J (dK J) J ((feaE_G _ q hc vx hqc om).mono (by rintro x_ e h m ⟨hx, ls, hr, hP⟩; exact ⟨hx, ls, hr, (by obtain ⟨a1, a2, a3⟩ := hP; exact ⟨a1, a3 _ _ om hqc, a3 _ _ om hoc, om⟩)⟩)) ?_
 rintro r_ hd nd ⟨rfl, hqd, hod, hnd⟩
 refine jM <| Um J J <| aA (fD J J) J <| aA (fD J J) J <| Ua J J <| Ua J J <| Nk [6,7,10,11] J <| aB <| Rg 2 J <| Um J J <| aA (fA J) J <| Nk [6,7,10,36] J <| bC J <| aG <| aB <| Rg 6 J <| Um J J <| aA (cO J) J <| aA (aV J J J J J) J <| aA (aH (l := .sl 0 []) J J hqd J J) J <| aA (aO (b := .v (.int .i64 0)) (mM J J) J) J <| Um J J ?_
 refine Nk [6,7,42,43,44] J <| aI <| dN <| Rg 1 J <| aA (bX J J) J <| bL (fun h45 => ?_) (fun h45 => ?_)
 ·exact absurd h45 (by decide)
 refine Nk [6,7,42,43,44,45] J <| bC J <| bB <| fL <| aQ J <| Ck [6,7] J <| aB <| dT (z := 3) J <| cX (dQ J) J <| fF (nrm hd) (aR fun _ _ h => h) <| kT (ls := [.ptr q 0]) (Φ := fun r h' n' => r = .v (.int .i64 (-1)) ∧ getH h' q = some { cells := [.v (.int .i64 0), .sl 0 [], .sl 0 [], .sl 0 [], .sl 0 [], .sl 2 [xc vx]], sz := 6, elem := (83), st := 0 } ∧ getH h' 1 = some { cells := [.v (.int .i64 0), .v (.int .i64 0), .sl 0 [], .v (.int .i64 0), .sl 0 [], .sl 0 [], .sl 0 [], .sl 0 []], sz := 8, elem := (53), st := 0 } ∧ nd ≤ n') J Try.func41 J J (dK J) J ((desE_G _ q hd vx hqd om).mono (by rintro x_ e h m ⟨hx, ls, hr, hP⟩; exact ⟨hx, ls, hr, (by obtain ⟨a1, a2, a3⟩ := hP; exact ⟨a1, a3 _ _ om hqd, a3 _ _ om hod, om⟩)⟩)) ?_
 rintro r_ he ne ⟨rfl, hqe, hoe, hne⟩
 refine jM <| Ua J J <| Nk [6,7,14] J <| aB <| Rg 2 J <| Um J J <| aA (iT J J) J <| bL (fun h88 => ?_) (fun h88 => ?_)
 ·exact absurd h88 (by decide)
 refine Nk [6,7,14,88] J <| bC J <| aG <| jO (z := 16) J kR <| WX.U (dQ J) J <| WX.U (cO J) J <| WX.U (aV J J J J J) J <| WX.U (aH (l := .sl 2 [xc vx]) J J hqe J J) J <| WX.U (cZ (us := [vx]) (f := xc) (j := 0) J J J J J (by show 0 < 1; decide) J) J <| WX.U (gC (l := lvX vx) J J J) J <| WX.U (dQ J) J <| WX.weakM (nrm he) (aR fun _ _ h => h) <| WX.G (ls := [.ptr q 0]) (Φ := fun r h' n' => ∃ p, r = .ref p 4 0 0 ∧ getH h' p = some { cells := [], sz := 4, elem := (46), st := 0 } ∧ 6 ≤ p ∧ p < n' ∧ ne ≤ n' ∧ getH h' q = some { cells := [.v (.int .i64 0), .sl 0 [], .sl 0 [], .sl 0 [], .sl 0 [], .sl 2 [xc vx]], sz := 6, elem := (83), st := 0 } ∧ getH h' 1 = some { cells := [.v (.int .i64 0), .v (.int .i64 0), .sl 0 [], .v (.int .i64 0), .sl 0 [], .sl 0 [], .sl 0 [], .sl 0 []], sz := 8, elem := (53), st := 0 }) [q] J J Try.func39 J J (dK J) J ((pntE_G _ q he vx hqe om).mono (by rintro x_ e h m ⟨hx, ls, hr, hP⟩; exact ⟨hx, ls, hr, (by obtain ⟨p, a1, a2, a3, a4, a5, a6⟩ := hP; exact ⟨p, a1, a2, om, a4, om, a6 _ _ om hqe, a6 _ _ om hoe⟩)⟩)) ?_
 rintro r_ hp np ⟨p1, rfl, hp1, hp1a, hp1b, hnp, hqp, hop⟩
 refine ⟨fun k hk => ?_, ?_⟩
 ·rw [List.mem_singleton] at hk; subst hk; exact ⟨_, nrm_get.trans hqe, hqp⟩
 refine WX.U (dQ J) J <| WX.U (dQ J) J <| WX.U (cO J) J <| WX.U (aV J J J J J) J <| WX.U (aH (l := .sl 2 [xc vx]) J J hqp J J) J <| WX.weakM (nrm hp) (aR fun _ _ h => h) <| WX.G (ls := [.ptr q 0, .sl 2 [xc vx]]) (Φ := fun r h' n' => ∃ p, r = .ref p 4 0 0 ∧ getH h' p = some { cells := [], sz := 4, elem := (46), st := 0 } ∧ np ≤ p ∧ p < n' ∧ np ≤ n' ∧ getH h' q = some { cells := [.v (.int .i64 0), .sl 0 [], .sl 0 [], .sl 0 [], .sl 0 [], .sl 2 [xc vx]], sz := 6, elem := (83), st := 0 } ∧ getH h' 1 = some { cells := [.v (.int .i64 0), .v (.int .i64 0), .sl 0 [], .v (.int .i64 0), .sl 0 [], .sl 0 [], .sl 0 [], .sl 0 []], sz := 8, elem := (53), st := 0 } ∧ getH h' p1 = some { cells := [], sz := 4, elem := (46), st := 0 }) [q] J J Try.func42 J J (dK J) J ((mltE_G _ q hp vx hqp om 2 [xc vx]).mono (by rintro x_ e h m ⟨hx, ls, hr, hP⟩; exact ⟨hx, ls, hr, (by obtain ⟨p, a1, a2, a3, a4, a5, a6⟩ := hP; exact ⟨p, a1, a2, om, a4, om, a6 _ _ om hqp, a6 _ _ om hop, a6 _ _ om hp1⟩)⟩)) ?_
 rintro r_ hz nz ⟨p2, rfl, hp2, hp2a, hp2b, hnz, hqz, hoz, hp1z⟩
 refine ⟨fun k hk => ?_, ?_⟩
 ·rw [List.mem_singleton] at hk; subst hk; exact ⟨_, nrm_get.trans hqp, hqz⟩
 refine WX.U (iF (cs := [_, _, _, _, _, _, _, _]) J J J J J) J <| WX.S0 (cV (cs' := [_, _, _, _, _, _, _, _]) J J J hoz J J J J) <| WX.nil (kD (fun k => ([q, 0 + 1]).getD k 0) 2 [⟨0, [], [], false⟩, ⟨1, [], [], false⟩, ⟨2, [], [], false⟩, ⟨3, [], [0], false⟩, ⟨4, [], [], false⟩, ⟨5, [], [], false⟩, ⟨6, [], [], false⟩, ⟨7, [], [0], true⟩, ⟨8, [], [], false⟩, ⟨9, [], [], false⟩, ⟨10, [], [], false⟩, ⟨11, [], [], false⟩, ⟨12, [], [0], false⟩, ⟨13, [], [0], true⟩, ⟨14, [], [], false⟩, ⟨15, [1], [1], false⟩] (by decide) (by intro vx y hx hy h; rcases vx with _ | _ | vx <;> rcases y with _ | _ | y <;> simp at h <;> omega) kR) <| Ck [6] J <| aP <| qZ (n := 0) (S := [p1, p2]) (.inr J) J ?_ ?_
 ·exact .data (.v _) (.datas (ls := xc vx) (kF _) (.own (ob := { cells := [], sz := 4, elem := (46), st := 0 }) (([] : List X).map xc) J (g1 om hp1z) (by show ¬ (0 : Nat) = 2; decide) J (by decide) (by simp) J (cQ (f := xc) fun _ => rfl) (bA kF) (.data (.sl _ _ (by simp)) (.own (ob := { cells := [], sz := 4, elem := (46), st := 0 }) (([] : List X).map xc) J (g1 om hp2) (by show ¬ (0 : Nat) = 2; decide) J (by decide) (by simp) J (cQ (f := xc) fun _ => rfl) (bA kF) .nil))))
 ·intro q hq
  simp only [List.mem_cons, List.not_mem_nil, or_false] at hq
  rcases hq with rfl | rfl
  ·exact ⟨_, g1 om hp1z, by show ¬ (0 : Nat) = 2; decide⟩
  ·exact ⟨_, g1 om hp2, by show ¬ (0 : Nat) = 2; decide⟩
theorem rowsE_run (p : PB) (h1 : p.1.2 = []) (h2 : p.2.2.2 = []) : Run Try.prog T E0 (.call 14 [lvPb p] (.sl 0 [])) := by
 obtain ⟨⟨k1, m⟩, ⟨k2, r⟩, ⟨k3, g⟩⟩ := p
 dsimp only at h1 h2
 subst h1; subst h2
 refine bM Try.func14 J J (dK J) <| Ck [0] J <| Rg 2 J <| bK (gF J J) J <| Ua J J <| Nk [1] J <| Rg 4 J <| aA (aV J J J J J) J <| aA (aH (l := .sl k3 []) J J gG J J) J ?_
 refine aA (aO (b := .v (.int .i64 0)) (mM J J) J) J <| Ua J J <| Nk [1,3] J <| Rg 1 J <| Ua J J <| Nk [1,3,4] J <| aB <| Rg 4 J <| aA (aV J J J J J) J <| aA (aH (l := .sl k1 []) J J gG J J) J ?_
 refine aA (aO (b := .v (.int .i64 0)) (mM J J) J) J <| Um J J <| Nk [1,3,4,15,16,17] J <| aI <| dN <| Rg 1 J <| aA (bX J J) J <| bL (fun h18 => ?_) (fun h18 => ?_)
 ·exact absurd h18 (by decide)
 refine Nk [1,3,4,15,16,17,18] J <| bC J <| bB <| fL <| aQ J <| Ck [3,4] J <| aB <| Rg 2 J <| Um J J <| Um J J <| Nk [3,4,53,54] J <| aI <| dN <| Rg 1 J <| aA (bX J J) J <| bL (fun h55 => ?_) (fun h55 => ?_)
 ·exact absurd h55 (by decide)
 refine Nk [3,4,53,54,55] J <| bC J <| bB <| fL <| aQ J <| Ck [4] J <| Rg 2 J <| Um J J <| Ua J J <| Nk [2] J <| aP ?_
 exact post (n := 0) (.inr J) J J (.sl _ _ (by simp))
theorem maxW_run (l : List Int) (hn : l.length ≤ 40) : Run Try.prog T E0 (.call 5 [lvPb (wP l l.length)] (.tup [lvRs (qwR l l.length), .v (.int .i64 0)])) := by
 by_cases h0 : l.length = 0
 ·obtain rfl : l = [] := List.eq_nil_of_length_eq_zero h0
  have h := max_gen (wP [] 0) (wIP (by decide)) (wvP (by decide)) 0 [] (xmul x0 (xint (-1))) [] [] (rowsE_run (wP [] 0) rfl rfl) (minE_run 1 false (xmul x0 (xint (-1)))) (by decide) (by decide) (by decide)
  have e1 : outs [xneg (xmul x0 (xint (-1)))] = some [(0, 1)] := by decide +kernel
  rw [if_pos ⟨rfl, rfl, by rw [e1]; rfl⟩] at h
  have e2 : (outsL [xneg (xmul x0 (xint (-1)))]).getD 0 default = (0, 1) := by unfold outsL; rw [e1]; rfl
  rw [e2] at h
  exact h
 ·have hg : (wP l l.length).2.2.2.length = l.length := aX _ _
  have hm : (wP l l.length).1.2.length = l.length := aX _ _
  have hT : ∀ k, k ≤ l.length → (lpT (wP l l.length)).frs k = wlgT l l.length k := fun k hk => by rw [wP_T, mE k hk]
  have h := max_run (wP l l.length) (wIP hn) (wvP hn) om 2 (by decide) (by decide) (fun k hk => by rw [hT k om]; exact wlgT_bds hn om) (by rw [hg, hm, hT l.length (Nat.le_refl _)]; exact wlgT_F) (by rw [hg, hT l.length (Nat.le_refl _)]; exact wlgT_Z) (by rw [hg, hT l.length (Nat.le_refl _)]; exact wlgT_D)
  rw [hg, hm, qwR_eq l hn] at h
  exact h
end Go.Proofs.Ytohfklpfeilcpaa
namespace Go.Proofs.Ytohfklpfeilcpaa
open Go.Ab Go.RowKit
theorem pO (kx : Nat) (p : PB) (x : List NM) (hV : VP p) (hI : IP p) (hx : IV x) (lx : x.length < 1000000) : Run Try.prog T E0 (.call 24 [lvPb p, .sl kx (x.map mc)] (.v (.bool (feaS p x)))) := by
 have hrows := hV.rows
 have hcols := hV.cols
 have hrl := hV.rl
 obtain ⟨hr60, hrv⟩ := pI hV.r
 refine bM Try.func24 J J (dK J) <| Rg 2 J <| bK (gF J J) J <| Ua J J <| Wn <| aB <| Rg 6 J <| Um J J <| aA (aV J J J J J) J <| aA (aH (l := .sl p.2.2.1 (p.2.2.2.map mc)) J J gG J J) J ?_
 refine aA (bO J J) J <| aA (aJ J (lP kx x p.2.2.2.length hx lx) (aK (by intro c hc; simp only [List.mem_cons, List.not_mem_nil, or_false] at hc; rcases hc with rfl | rfl; exact (.sl _ _ (bA gK)); exact (.v _)))) J <| fN (fun h12 => ?_) (fun h12 => ?_)
 rotate_left
 ·refine aA (fA J) J <| Wn <| bF J <| aB <| Rg 1 J <| Ua J J <| Wn <| bQ <| post (n := 0) (.inr J) J ?_ dD
  exact congrArg (fun z => LV.v (.bool z)) (feaS_1 h12)
 refine aA (fA J) J <| Wn <| bC J <| aG ?_
 obtain ⟨hxl, hxv⟩ := lU h12
 refine Rg 3 J <| Um J J <| aA (aJ J (dO kx x om hx (fun a ha => (hxv a ha).1.all3.2.2)) (aK (by intro c hc; simp only [List.mem_cons, List.not_mem_nil, or_false] at hc; rcases hc with rfl; exact (.sl _ _ (bA gK))))) J <| Ua J J <| Wn <| aB <| Rg 4 J <| aA (aV J J J J J) J <| aA (aH (l := .sl p.1.1 (p.1.2.map fM)) J J gG J J) J ?_
 refine aA (bO J J) J <| Um J J <| Nk [2,5,17,18,19] J <| aI <| bI (α := Nat) (fun i => [(2, .ptr 0 0), (5, .sl (kd (x.map nx).length) ((x.map nx).map xc)), (17, .sl p.1.1 (p.1.2.map fM)), (18, .v (.int .i64 (p.1.2.length : Int))), (19, .v (.int .i64 (i : Int)))]) (fun i => [(0, { cells := pbc p, sz := 3, elem := (27), st := 0 })]) (fun i n => i ≤ p.1.2.length ∧ (∀ a, a < i → feaR p x a = true) ∧ 0 < n) (fun i => p.1.2.length - i) (0) ⟨J, J, J, J, J, trivial⟩ ⟨gG, trivial⟩ ⟨Nat.zero_le _, fun a ha => absurd ha om, om⟩ ?_
 rintro i n hF
 change WC _ _ _ _ _ (_ :: _) (_ :: _) n _
 obtain ⟨hi, hok, hn⟩ := hF
 refine Rg 1 J <| aA (bX J J) J <| bL (fun h20 => ?_) (fun h20 => ?_)
 rotate_left
 ·refine Wn <| bC J <| bB <| aW <| aQ J <| Rg 1 J <| Ua J J <| Wn <| aP <| post (n := 0) (.inr J) J ?_ dD
  exact congrArg (fun z => LV.v (.bool z)) (feaS_3 h12 (fun a ha => hok a om))
 refine Wn <| bF J <| aG <| aI ?_
 obtain ⟨hwl, hwv⟩ := hV.rowlen (i := i) om
 have hIr := hI.m _ (bN (us := p.1.2) (i := i) om)
 have hbv := hrv _ (bN (us := p.2.1.2) (i := i) om)
 have hbd := dtN_bd hwv (fun a ha => (hxv a ha).1) om om
 have he : (dtX ((p.1.2.getD i default).2.map nx) (x.map nx) ((p.1.2.getD i default).2.map nx).length).1 = dtN (p.1.2.getD i default).2 x := by rw [List.length_map]; exact jT om
 refine Rg 5 J <| Um J J <| aA (cZ J J J J J om J) J <| aA (gC (l := .sl (p.1.2.getD i default).1 ((p.1.2.getD i default).2.map mc)) J J J) J <| Ua J J <| Ua J J <| Wn <| bS (z := 12) J kR <| Dm J J <| aC (aJ J (dO (p.1.2.getD i default).1 (p.1.2.getD i default).2 om hIr (fun a ha => (hwv a ha).all3.2.2)) (aK (by intro c hc; simp only [List.mem_cons, List.not_mem_nil, or_false] at hc; rcases hc with rfl; exact (.sl _ _ (bA gK))))) J <| Dm J J <| aC (aJ J (iP _ _ ((p.1.2.getD i default).2.map nx) (x.map nx) (by rw [List.length_map, List.length_map]; omega) (by rw [List.length_map]; omega) 2 om om (eU hwv) (eU (fun a ha => (hxv a ha).1))) (aK (by intro c hc; simp only [List.mem_cons, List.not_mem_nil, or_false] at hc; rcases hc with rfl | rfl; exact (.sl _ _ (bA kF)); exact (.sl _ _ (bA kF))))) J <| aC (aV J J J J J) J <| aC (aH (l := .sl p.2.1.1 (p.2.1.2.map mc)) J J gG J J) J ?_
 refine Dm J J <| aC (cZ (j := i) J J J J om om J) J <| aC (gC (l := lvM (p.2.1.2.getD i default)) J J J) J <| aC (aO (b := lvX (nx (p.2.1.2.getD i default))) (aJ J (iE (p.2.1.2.getD i default) hbv.all3.1 hbv.all3.2.1 hbv.all3.2.2) (aK (by intro c hc; simp only [List.mem_cons, List.not_mem_nil, or_false] at hc; rcases hc with rfl; exact (.agg _ (gK _))))) J) J <| aC (aJ J (lY (dtX ((p.1.2.getD i default).2.map nx) (x.map nx) ((p.1.2.getD i default).2.map nx).length) (nx (p.2.1.2.getD i default)) (by rw [he]; rw [List.length_map] at he; rw [← jT (show (p.1.2.getD i default).2.length ≤ x.length by omega)]; exact hbd.mono om) (hbv.bd.mono om)) (aK (by intro c hc; simp only [List.mem_cons, List.not_mem_nil, or_false] at hc; rcases hc with rfl | rfl; exact jN; exact jN))) J <| aC (lB J J) J <| kS (fun h35 => ?_) (fun h35 => ?_)
 ·refine bJ (dU (rn n) (by simp only [List.reverse_cons, List.reverse_nil, List.nil_append, List.cons_append, List.map_cons, List.map_nil, ren, keys, Nat.add_assoc, jF, show rn n 0 = 0 from kX om]; kernel_rfl)) J <| Ck [2,5,17,18,19,35] J <| cU J <| Rg 1 J <| Ua J J <| Wn <| aP <| bH <| gH <| bH ?_
  rw [he] at h35
  refine post (n := 0) (.inr J) J ?_ dD
  exact congrArg (fun z => LV.v (.bool z)) (feaS_2 (i := i) om (feaR_F h35))
 refine bJ (dU (rn n) (by simp only [List.reverse_cons, List.reverse_nil, List.nil_append, List.cons_append, List.map_cons, List.map_nil, ren, keys, Nat.add_assoc, jF, show rn n 0 = 0 from kX om]; kernel_rfl)) J <| Ck [2,5,17,18,19,35] J <| cD J <| cE <| aE <| aL (z := 2) J <| aA (cI (((i + 1 : Nat) : Int)) (aU J J om) om) J <| Um J J <| Wn <| aF ?_
 rw [he] at h35
 refine ⟨i + 1, ⟨J, J, J, J, J, trivial⟩, ⟨gG, trivial⟩, ⟨om, fun a ha => ?_, om⟩, by show p.1.2.length - (i + 1) < p.1.2.length - i; omega⟩
 by_cases e : a = i
 ·rw [e]; exact feaR_T h35
 ·exact hok a om
theorem lcov_run (ky kl : Nat) (p : PB) (y : List NM) (ls : List X) (hV : VP p) (hI : IP p) (hy : IV y) (hyv : ∀ a, a ∈ y → VN a) (hyl : y.length = p.1.2.length) (hls : ls.length = p.2.2.2.length) (hlb : ∀ x, x ∈ ls → Bd 1000000 x.1) : Run Try.prog T E0 (.call 21 [lvPb p, .sl ky (y.map mc), .sl kl (ls.map xc)] (.v (.bool (covS p y (rvs ls))))) := by
 have hrows := hV.rows
 have hcols := hV.cols
 refine bM Try.func21 J J (dK J) <| Rg 2 J <| bK (gF J J) J <| Ua J J <| Wn <| aB <| Rg 4 J <| aA (aV J J J J J) J <| aA (aH (l := .sl p.2.2.1 (p.2.2.2.map mc)) J J gG J J) J ?_
 refine aA (bO J J) J <| Um J J <| Wn <| aI <| bI (α := Nat) (fun kk => [(1, .sl ky (y.map mc)), (2, .sl kl (ls.map xc)), (3, .ptr 0 0), (13, .v (.int .i64 (p.2.2.2.length : Int))), (14, .v (.int .i64 (kk : Int)))]) (fun kk => [(0, { cells := pbc p, sz := 3, elem := (27), st := 0 })]) (fun kk n => kk ≤ p.2.2.2.length ∧ (∀ a, a < kk → ¬ (colS p y a p.1.2.length - (rvs ls).getD a default).num.sign < 0) ∧ 0 < n) (fun kk => p.2.2.2.length - kk) (0) ⟨J, J, J, J, J, trivial⟩ ⟨gG, trivial⟩ ⟨Nat.zero_le _, fun a ha => absurd ha om, om⟩ ?_
 rintro kk n hF
 change WC _ _ _ _ _ (_ :: _) (_ :: _) n _
 obtain ⟨hk, hok, hn⟩ := hF
 refine Rg 1 J <| aA (bX J J) J <| bL (fun h15 => ?_) (fun h15 => ?_)
 rotate_left
 ·refine Wn <| bC J <| bB <| aW <| aQ J <| Rg 1 J <| Ua J J <| Wn <| aP <| post (n := 0) (.inr J) J ?_ dD
  exact congrArg (fun z => LV.v (.bool z)) (covS_T (fun a ha => hok a om))
 refine Wn <| bF J <| aG <| aI <| Rg 2 J <| Um J J <| Ua J J <| dR ?_
 obtain ⟨nM, hnM⟩ : ∃ z, z = n := ⟨n, rfl⟩
 subst hnM
 refine Rg 1 J <| bK (gE J) J <| Wn <| aB <| Rg 4 J <| aA (aV J J J J J) J <| aA (aH (l := .sl p.1.1 (p.1.2.map fM)) J J gG J J) J ?_
 refine aA (bO J J) J <| Um J J <| Wn <| aI <| bI (α := Nat) (fun i => [(1, .sl ky (y.map mc)), (2, .sl kl (ls.map xc)), (3, .ptr 0 0), (7, .v (.int .i64 (kk : Int))), (8, .ptr (nM + 1 + 2 + 0) 0), (13, .v (.int .i64 (p.2.2.2.length : Int))), (14, .v (.int .i64 (kk : Int))), (18, .sl p.1.1 (p.1.2.map fM)), (19, .v (.int .i64 (p.1.2.length : Int))), (20, .v (.int .i64 (i : Int)))]) (fun i => [((nM + 1 + 2 + 0), { cells := xc (colX p y kk i), sz := 4, elem := (46), st := 0 }), (0, { cells := pbc p, sz := 3, elem := (27), st := 0 })]) (fun i n => i ≤ p.1.2.length ∧ nM + 3 < n) (fun i => p.1.2.length - i) (0) ⟨J, J, J, J, J, J, J, J, J, J, trivial⟩ ⟨gG, gG, trivial⟩ ⟨Nat.zero_le _, om⟩ ?_
 rintro i n hF
 change WC _ _ _ _ _ (_ :: _) (_ :: _) n _
 obtain ⟨hi, hn2⟩ := hF
 refine Rg 1 J <| aA (bX J J) J <| bL (fun h21 => ?_) (fun h21 => ?_)
 ·refine Wn <| bF J <| aG <| aI ?_
  obtain ⟨hwl, hwv⟩ := hV.rowlen (i := i) om
  have hav := hwv _ (bN (us := (p.1.2.getD i default).2) (i := kk) om)
  have hbv := hyv _ (bN (us := y) (i := i) om)
  have hcb := qN hV (k := kk) om hyv hyl i om
  refine Rg 5 J <| Um J J <| aA (cZ J J J J J om J) J <| aA (gC (l := .sl (p.1.2.getD i default).1 ((p.1.2.getD i default).2.map mc)) J J J) J <| Ua J J <| Ua J J <| Nk [1,2,3,7,8,9,10,13,14,18,19,20] J <| dC (z := 14) J kR <| aC (aH (l := lvX (colX p y kk i)) J J gG J J) J ?_
  refine Dm J J <| Dm J J <| aC (cZ (j := kk) J J J J om om J) J <| aC (gC (l := lvM ((p.1.2.getD i default).2.getD kk default)) J J J) J <| aC (aO (b := lvX (nx ((p.1.2.getD i default).2.getD kk default))) (aJ J (iE ((p.1.2.getD i default).2.getD kk default) hav.all3.1 hav.all3.2.1 hav.all3.2.2) (aK (by intro c hc; simp only [List.mem_cons, List.not_mem_nil, or_false] at hc; rcases hc with rfl; exact (.agg _ (gK _))))) J) J <| Dm J J <| Dm J J <| aC (cZ (j := i) J J J J om om J) J <| aC (gC (l := lvM (y.getD i default)) J J J) J <| aC (aO (b := lvX (nx (y.getD i default))) (aJ J (iE (y.getD i default) hbv.all3.1 hbv.all3.2.1 hbv.all3.2.2) (aK (by intro c hc; simp only [List.mem_cons, List.not_mem_nil, or_false] at hc; rcases hc with rfl; exact (.agg _ (gK _))))) J) J <| aC (aJ J (jW (nx ((p.1.2.getD i default).2.getD kk default)) (nx (y.getD i default)) (hav.bd.mono om) (hbv.bd.mono om)) (aK (by intro c hc; simp only [List.mem_cons, List.not_mem_nil, or_false] at hc; rcases hc with rfl | rfl; exact jN; exact jN))) J <| aC (aO (b := lvX (colX p y kk (i + 1))) (aJ J (lW (colX p y kk i) (xmul (nx ((p.1.2.getD i default).2.getD kk default)) (nx (y.getD i default))) (hcb.mono om) ((hav.bd.mul hbv.bd).mono om)) (aK (by intro c hc; simp only [List.mem_cons, List.not_mem_nil, or_false] at hc; rcases hc with rfl | rfl; exact jN; exact jN))) J) J <| cN (cV (cs' := xc (colX p y kk (i + 1))) J J J gG J J J J) ?_
  refine bJ (dU (rn n) (by simp only [List.reverse_cons, List.reverse_nil, List.nil_append, List.cons_append, List.map_cons, List.map_nil, ren, keys, Nat.add_assoc, jF, show rn n (nM + 3) = 0 from kX om]; kernel_rfl)) J <| aE <| Ck [1,2,3,7,8,13,14,18,19,20] J <| aL (z := 2) J <| aA (cI (((i + 1 : Nat) : Int)) (aU J J om) om) J <| Um J J <| Wn <| aF <| ⟨i + 1, ⟨J, J, J, J, J, J, J, J, J, J, trivial⟩, ⟨gG, gG, trivial⟩, ⟨om, om⟩, by show p.1.2.length - (i + 1) < p.1.2.length - i; omega⟩
 refine Wn <| bC J <| bB <| aW <| aQ J ?_
 have hil : i = p.1.2.length := by omega
 subst hil
 have hcb := qN hV (k := kk) om hyv hyl p.1.2.length om
 have hlk := hlb _ (bN (us := ls) (i := kk) om)
 have he : (colX p y kk p.1.2.length).1 - (ls.getD kk default).1 = colS p y kk p.1.2.length - (rvs ls).getD kk default := by rw [colX_v, rF om]
 refine bS (z := 7) J kR <| aC (aH (l := lvX (colX p y kk p.1.2.length)) J J gG J J) J ?_
 refine Dm J J <| Dm J J <| aC (cZ (j := kk) J J J J om om J) J <| aC (gC (l := lvX (ls.getD kk default)) J J J) J <| aC (aJ J (lY (colX p y kk p.1.2.length) (ls.getD kk default) (hcb.mono om) (hlk.mono om)) (aK (by intro c hc; simp only [List.mem_cons, List.not_mem_nil, or_false] at hc; rcases hc with rfl | rfl; exact jN; exact jN))) J <| aC (bX J J) J <| kS (fun h45 => ?_) (fun h45 => ?_)
 ·refine bJ (dU (rn n) (by simp only [List.reverse_cons, List.reverse_nil, List.nil_append, List.cons_append, List.map_cons, List.map_nil, ren, keys, Nat.add_assoc, jF, show rn n (nM + 3) = 0 from kX om]; kernel_rfl)) J <| Ck [1,2,3,13,14,45] J <| cU J <| Rg 1 J <| Ua J J <| Wn <| aP <| bH <| gH <| bH ?_
  rw [he] at h45
  refine post (n := 0) (.inr J) J ?_ dD
  exact congrArg (fun z => LV.v (.bool z)) (covS_F (k := kk) om h45)
 refine bJ (dU (rn n) (by simp only [List.reverse_cons, List.reverse_nil, List.nil_append, List.cons_append, List.map_cons, List.map_nil, ren, keys, Nat.add_assoc, jF, show rn n (nM + 3) = 0 from kX om]; kernel_rfl)) J <| Ck [1,2,3,13,14,45] J <| cD J <| cE <| aE <| aL (z := 2) J <| aA (cI (((kk + 1 : Nat) : Int)) (aU J J om) om) J <| Um J J <| Wn <| aF ?_
 rw [he] at h45
 refine ⟨kk + 1, ⟨J, J, J, J, J, trivial⟩, ⟨gG, trivial⟩, ⟨om, fun a ha => ?_, om⟩, by show p.2.2.2.length - (kk + 1) < p.2.2.2.length - kk; omega⟩
 by_cases e : a = kk
 ·rw [e]; exact h45
 ·exact hok a om
theorem lchk1_run (r : M1) (ky : Nat) (y : List NM) (hr : IV r.2) (hrv : ∀ a, a ∈ r.2 → VN a) (hyv : ∀ a, a ∈ y → VN a) (hl : r.2.length ≤ y.length) (hl2 : r.2.length ≤ 60) : Run Try.prog T E0 (.call 26 [.sl r.1 (r.2.map mc), .ro [.sl ky ((y.map nx).map xc)]] (.v (.bool (decide (0 < dtN r.2 y))))) := by
 have he : (dtX (r.2.map nx) (y.map nx) (r.2.map nx).length).1 = dtN r.2 y := by rw [List.length_map]; exact jT hl
 refine bM Try.func26 J J (dK J) <| Rg 1 J <| Ua J J <| Wn <| bS (z := 7) J kR <| Dm J J <| aC (aJ J (dO r.1 r.2 om hr (fun a ha => (hrv a ha).all3.2.2)) (aK (by intro c hc; simp only [List.mem_cons, List.not_mem_nil, or_false] at hc; rcases hc with rfl; exact (.sl _ _ (bA gK))))) J <| aC (gC (l := .sl ky ((y.map nx).map xc)) J J J) J <| aC (aJ J (iP _ ky (r.2.map nx) (y.map nx) (by rw [List.length_map, List.length_map]; omega) (by rw [List.length_map]; omega) 2 om om (eU hrv) (eU hyv)) (aK (by intro c hc; simp only [List.mem_cons, List.not_mem_nil, or_false] at hc; rcases hc with rfl | rfl; exact (.sl _ _ (bA kF)); exact (.sl _ _ (bA kF))))) J <| aC (aJ J (eP (dtX (r.2.map nx) (y.map nx) (r.2.map nx).length)) (aK (by intro c hc; simp only [List.mem_cons, List.not_mem_nil, or_false] at hc; rcases hc with rfl; exact jN))) J <| aC (lB J J) J <| aC (iS J) J <| bJ (aT kR) J <| aP <| post (n := 0) (.inr J) J ?_ dD
 exact congrArg (fun z => LV.v (.bool z)) (by rw [he]; exact decide_eq_decide.2 lR)
end Go.Proofs.Ytohfklpfeilcpaa
namespace Go.Proofs.Ytohfklpfeilcpaa
open Go.Ab Go.RowKit
theorem lCheck_run (p : PB) (r : RS) (hI : IP p) (hR : IR r) : Run Try.prog T E0 (.call 6 [lvPb p, lvRs r] (lckO p r)) := by
 refine bM Try.func6 J J (dK J) <| Rg 4 J <| bK (gF J J) J <| bK (gF J J) J <| Ua J J <| Ua J J <| Wn <| aB <| Rg 3 J <| aA (aH (l := lvPb p) J J gG J J) J ?_
 refine aA (aJ J (oQ p hI) (aK (by intro c hc; simp only [List.mem_cons, List.not_mem_nil, or_false] at hc; rcases hc with rfl; exact jN))) J <| fN (fun h11 => ?_) (fun h11 => ?_)
 rotate_left
 ·refine aA (fA J) J <| Wn <| bF J <| aB <| Rg 2 J <| Ua J J <| Ua J J <| Wn <| bQ <| post (n := 0) (.inr J) J ?_ cJ
  first | exact fY h11 | exact aY h11 h17 (dX h21) | exact aY h11 h17 (dY h30) | exact aY h11 h17 (dZ h38) | exact aY h11 h17 (dE h48) | exact aY h11 h17 (dF h21 h30 h38 h48 he) | exact aS h11 h17 h62 (eA h66) | exact aS h11 h17 h62 (eB h71) | exact aS h11 h17 h62 (eC h77) | exact aS h11 h17 h62 (eD h86) | exact aS h11 h17 h62 (eE h95) | exact aS h11 h17 h62 (eF h66 h71 h77 h86 h95 he) | exact aN h11 h17 h62 h108 (eG h111) | exact aN h11 h17 h62 h108 (eH h117) | exact aN h11 h17 h62 h108 (eI h123) | exact aN h11 h17 h62 h108 (eJ h132) | exact aN h11 h17 h62 h108 (eK he h147) | exact aN h11 h17 h62 h108 (eM he2 h158) | exact aN h11 h17 h62 h108 (eN h111 h117 h123 h132 he h147 he2 h158 (dS _)) | exact eO h11 h17 h62 h108
 refine aA (fA J) J <| Wn <| bC J <| aG ?_
 have hV := mQ.1 h11
 have hrows := hV.rows
 have hcols := hV.cols
 have hrl := hV.rl
 obtain ⟨hr60, hrv⟩ := pI hV.r
 obtain ⟨hg60, hgv⟩ := pI hV.g
 have hlx := hR.lx
 have hly := hR.ly
 have hlr := hR.lr
 refine Rg 3 J <| aA (iF (cs := mc (0, 0)) J J J J J) J <| bK (gE J) J <| bG (cV (cs' := mc (0, 0)) J J J g0 J J J J) <| Wn <| aB <| Rg 2 J <| aA (aV J J J J J) J <| aA (aH J J gG J J) J ?_
 refine Wn <| aI <| Rg 2 J <| aA (fS J J) J <| bL (fun h17 => ?_) (fun h17 => ?_)
 ·refine Ua J J <| Nk [2,3,6,15,16] J <| cU J <| bS (z := 45) J kR <| aC (aV J J J J J) J <| aC (aH (l := lvM r.2.1) J J gG J J) J ?_
  refine aC (aH (l := lvM (0, 0)) J J gG J J) J ?_
  refine aC (aO (b := .v (.bool (decide (r.2.1 = ((0, 0) : NM))))) (oEqS J J J J (oF _ _)) (congrArg (fun z => LV.v (.bool z)) (nm_eq _ _))) J <| WD.B (fun h21 => ?_) (fun h21 => ?_)
  rotate_left
  ·refine Dm J J <| bD J J <| bD J J <| bD J J <| bD J J <| bD J J <| bD J J <| bD J J <| bD J J <| aC (bU J J) J <| Dm J J <| bD J J <| bD J J <| bD J J <| bD J J <| bD J J <| bD J J <| aC (bU J J) J <| Dm J J <| bD J J <| bD J J <| bD J J <| bD J J <| bD J J ?_
   refine bD J J <| bD J J <| bD J J <| aC (bU J J) J <| Dm J J <| bD J J <| bD J J <| bD J J <| bD J J <| bD J J <| bD J J <| bD J J <| bD J J <| bD J J <| aC (bU J J) J <| aC (iS J) J <| aC (iS J) J <| bJ (aT kR) J <| Ck [4,5] J <| aP <| bH <| post (n := 0) (.inr J) J ?_ cJ
   first | exact fY h11 | exact aY h11 h17 (dX h21) | exact aY h11 h17 (dY h30) | exact aY h11 h17 (dZ h38) | exact aY h11 h17 (dE h48) | exact aY h11 h17 (dF h21 h30 h38 h48 he) | exact aS h11 h17 h62 (eA h66) | exact aS h11 h17 h62 (eB h71) | exact aS h11 h17 h62 (eC h77) | exact aS h11 h17 h62 (eD h86) | exact aS h11 h17 h62 (eE h95) | exact aS h11 h17 h62 (eF h66 h71 h77 h86 h95 he) | exact aN h11 h17 h62 h108 (eG h111) | exact aN h11 h17 h62 h108 (eH h117) | exact aN h11 h17 h62 h108 (eI h123) | exact aN h11 h17 h62 h108 (eJ h132) | exact aN h11 h17 h62 h108 (eK he h147) | exact aN h11 h17 h62 h108 (eM he2 h158) | exact aN h11 h17 h62 h108 (eN h111 h117 h123 h132 he h147 he2 h158 (dS _)) | exact eO h11 h17 h62 h108
  refine Dm J J <| aZ J (aV J J J J J) J <| aZ J (aH (l := .sl r.2.2.1.1 (r.2.2.1.2.map mc)) J J gG J J) J ?_
  refine aZ J (bO J J) J <| aZ J (aV J J J J J) J <| aZ J (aH (l := .sl r.2.2.2.2.1 (r.2.2.2.2.2.map mc)) J J gG J J) J ?_
  refine aZ J (bO J J) J <| aZ J (aU J J om) J <| aZ J (fS J J) J <| kS (fun h30 => ?_) (fun h30 => ?_)
  rotate_left
  ·refine aC (bT J J) J <| Dm J J <| bD J J <| bD J J <| bD J J <| bD J J <| bD J J <| bD J J <| aC (bU J J) J <| Dm J J <| bD J J <| bD J J <| bD J J <| bD J J <| bD J J <| bD J J <| bD J J <| bD J J <| aC (bU J J) J <| Dm J J <| bD J J <| bD J J <| bD J J <| bD J J ?_
   refine bD J J <| bD J J <| bD J J <| bD J J <| bD J J <| aC (bU J J) J <| aC (iS J) J <| aC (iS J) J <| bJ (aT kR) J <| Ck [4,5] J <| aP <| bH <| post (n := 0) (.inr J) J ?_ cJ
   first | exact fY h11 | exact aY h11 h17 (dX h21) | exact aY h11 h17 (dY h30) | exact aY h11 h17 (dZ h38) | exact aY h11 h17 (dE h48) | exact aY h11 h17 (dF h21 h30 h38 h48 he) | exact aS h11 h17 h62 (eA h66) | exact aS h11 h17 h62 (eB h71) | exact aS h11 h17 h62 (eC h77) | exact aS h11 h17 h62 (eD h86) | exact aS h11 h17 h62 (eE h95) | exact aS h11 h17 h62 (eF h66 h71 h77 h86 h95 he) | exact aN h11 h17 h62 h108 (eG h111) | exact aN h11 h17 h62 h108 (eH h117) | exact aN h11 h17 h62 h108 (eI h123) | exact aN h11 h17 h62 h108 (eJ h132) | exact aN h11 h17 h62 h108 (eK he h147) | exact aN h11 h17 h62 h108 (eM he2 h158) | exact aN h11 h17 h62 h108 (eN h111 h117 h123 h132 he h147 he2 h158 (dS _)) | exact eO h11 h17 h62 h108
  refine aC (bT J J) J <| Dm J J <| aZ J (aV J J J J J) J <| aZ J (aH (l := .sl r.2.2.2.1.1 (r.2.2.2.1.2.map mc)) J J gG J J) J ?_
  refine aZ J (aV J J J J J) J <| aZ J (aH (l := .sl p.1.1 (p.1.2.map fM)) J J gG J J) J ?_
  refine aZ J (bO J J) J <| aZ J (aJ J (lP r.2.2.2.1.1 r.2.2.2.1.2 p.1.2.length hR.y hR.ly ) (aK (by intro c hc; simp only [List.mem_cons, List.not_mem_nil, or_false] at hc; rcases hc with rfl | rfl; exact (.sl _ _ (bA gK)); exact (.v _)))) J <| WD.B (fun h38 => ?_) (fun h38 => ?_)
  rotate_left
  ·refine aC (bT J J) J <| Dm J J <| bD J J <| bD J J <| bD J J <| bD J J <| bD J J <| bD J J <| bD J J <| bD J J <| aC (bU J J) J <| Dm J J <| bD J J <| bD J J <| bD J J <| bD J J <| bD J J <| bD J J <| bD J J <| bD J J <| bD J J <| aC (bU J J) J <| aC (iS J) J <| aC (iS J) J ?_
   refine bJ (aT kR) J <| Ck [4,5] J <| aP <| bH <| post (n := 0) (.inr J) J ?_ cJ
   first | exact fY h11 | exact aY h11 h17 (dX h21) | exact aY h11 h17 (dY h30) | exact aY h11 h17 (dZ h38) | exact aY h11 h17 (dE h48) | exact aY h11 h17 (dF h21 h30 h38 h48 he) | exact aS h11 h17 h62 (eA h66) | exact aS h11 h17 h62 (eB h71) | exact aS h11 h17 h62 (eC h77) | exact aS h11 h17 h62 (eD h86) | exact aS h11 h17 h62 (eE h95) | exact aS h11 h17 h62 (eF h66 h71 h77 h86 h95 he) | exact aN h11 h17 h62 h108 (eG h111) | exact aN h11 h17 h62 h108 (eH h117) | exact aN h11 h17 h62 h108 (eI h123) | exact aN h11 h17 h62 h108 (eJ h132) | exact aN h11 h17 h62 h108 (eK he h147) | exact aN h11 h17 h62 h108 (eM he2 h158) | exact aN h11 h17 h62 h108 (eN h111 h117 h123 h132 he h147 he2 h158 (dS _)) | exact eO h11 h17 h62 h108
  obtain ⟨hyl, hyv⟩ := lU h38
  refine aC (bT J J) J <| Dm J J <| aZ J (aH (l := lvPb p) J J gG J J) J ?_
  refine aZ J (aV J J J J J) J <| aZ J (aH (l := .sl r.2.2.2.1.1 (r.2.2.2.1.2.map mc)) J J gG J J) J ?_
  refine aZ J (aV J J J J J) J <| aZ J (aH (l := .sl p.2.2.1 (p.2.2.2.map mc)) J J gG J J) J ?_
  refine aZ J (bO J J) J <| WD.Sg J (oMk (a := p.2.2.2.length) (b := p.2.2.2.length) J J J J om om (by decide) om (by show 64 * p.2.2.2.length ≤ _; omega) om) J <| aZ J (qU [(0 + 4 + 3 + 3 + 2 + 2 + 29)] [lvPb p, .sl r.2.2.2.1.1 (r.2.2.2.1.2.map mc), .sl 1 ((List.replicate p.2.2.2.length x0).map xc)] J (lcov_run r.2.2.2.1.1 1 p r.2.2.2.1.2 (List.replicate p.2.2.2.length x0) hV hI hR.y (fun a ha => (hyv a ha).1) hyl (by simp) (by intro x hx; rw [(List.mem_replicate.1 hx).2]; exact Bd_0.mono om)) (.data jN (.data (.sl _ _ (bA gK)) (.own ((List.replicate p.2.2.2.length x0).map xc) (by rw [List.length_map, List.length_replicate]) gG (by show (0 : Nat) ≠ 2; decide) J (by decide) (by simp) (by rw [List.map_replicate]; rfl) (cQ (f := xc) (n := 4) fun _ => rfl) (bA kF) .nil))) (.cons gG (by show (0 : Nat) ≠ 2; decide) lent0)) J ?_
  refine WD.B (fun h48 => ?_) (fun h48 => ?_)
  rotate_left
  ·refine aC (bT J J) J <| Dm J J <| bD J J <| bD J J <| bD J J <| bD J J <| bD J J <| bD J J <| bD J J <| bD J J <| bD J J <| aC (bU J J) J <| aC (iS J) J <| aC (iS J) J <| bJ (aT kR) J <| Ck [4,5] J <| aP <| bH <| post (n := 0) (.inr J) J ?_ cJ
   first | exact fY h11 | exact aY h11 h17 (dX h21) | exact aY h11 h17 (dY h30) | exact aY h11 h17 (dZ h38) | exact aY h11 h17 (dE h48) | exact aY h11 h17 (dF h21 h30 h38 h48 he) | exact aS h11 h17 h62 (eA h66) | exact aS h11 h17 h62 (eB h71) | exact aS h11 h17 h62 (eC h77) | exact aS h11 h17 h62 (eD h86) | exact aS h11 h17 h62 (eE h95) | exact aS h11 h17 h62 (eF h66 h71 h77 h86 h95 he) | exact aN h11 h17 h62 h108 (eG h111) | exact aN h11 h17 h62 h108 (eH h117) | exact aN h11 h17 h62 h108 (eI h123) | exact aN h11 h17 h62 h108 (eJ h132) | exact aN h11 h17 h62 h108 (eK he h147) | exact aN h11 h17 h62 h108 (eM he2 h158) | exact aN h11 h17 h62 h108 (eN h111 h117 h123 h132 he h147 he2 h158 (dS _)) | exact eO h11 h17 h62 h108
  have he : (dtX (p.2.1.2.map nx) (r.2.2.2.1.2.map nx) (p.2.1.2.map nx).length).1 = dtN p.2.1.2 r.2.2.2.1.2 := by rw [List.length_map]; exact jT om
  refine aC (bT J J) J <| Dm J J <| aZ J (aV J J J J J) J <| aZ J (aH (l := .sl p.2.1.1 (p.2.1.2.map mc)) J J gG J J) J ?_
  refine aZ J (aJ J (dO p.2.1.1 p.2.1.2 (by have := hI.lr; omega) hI.r (fun a ha => (hrv a ha).all3.2.2)) (aK (by intro c hc; simp only [List.mem_cons, List.not_mem_nil, or_false] at hc; rcases hc with rfl; exact (.sl _ _ (bA gK))))) J <| aZ J (aV J J J J J) J <| aZ J (aH (l := .sl r.2.2.2.1.1 (r.2.2.2.1.2.map mc)) J J gG J J) J ?_
  refine aZ J (aJ J (dO r.2.2.2.1.1 r.2.2.2.1.2 (by have := hR.ly; omega) hR.y (fun a ha => ((fun a ha => (hyv a ha).1) a ha).all3.2.2)) (aK (by intro c hc; simp only [List.mem_cons, List.not_mem_nil, or_false] at hc; rcases hc with rfl; exact (.sl _ _ (bA gK))))) J <| aZ J (aJ J (iP _ _ (p.2.1.2.map nx) (r.2.2.2.1.2.map nx) (by rw [List.length_map, List.length_map]; omega) (by rw [List.length_map]; omega) 2 om om (eU hrv) (eU (fun a ha => (hyv a ha).1))) (aK (by intro c hc; simp only [List.mem_cons, List.not_mem_nil, or_false] at hc; rcases hc with rfl | rfl; exact (.sl _ _ (bA kF)); exact (.sl _ _ (bA kF))))) J <| aZ J (aJ J (eP (dtX (p.2.1.2.map nx) (r.2.2.2.1.2.map nx) (p.2.1.2.map nx).length)) (aK (by intro c hc; simp only [List.mem_cons, List.not_mem_nil, or_false] at hc; rcases hc with rfl; exact jN))) J <| aZ J (bX J J) J <| aC (bT J J) J <| aC (iS J) J <| aC (iS J) J <| bJ (aT kR) J <| Ck [4,5] J <| aP <| bH <| post (n := 0) (.inr J) J ?_ cJ
  first | exact fY h11 | exact aY h11 h17 (dX h21) | exact aY h11 h17 (dY h30) | exact aY h11 h17 (dZ h38) | exact aY h11 h17 (dE h48) | exact aY h11 h17 (dF h21 h30 h38 h48 he) | exact aS h11 h17 h62 (eA h66) | exact aS h11 h17 h62 (eB h71) | exact aS h11 h17 h62 (eC h77) | exact aS h11 h17 h62 (eD h86) | exact aS h11 h17 h62 (eE h95) | exact aS h11 h17 h62 (eF h66 h71 h77 h86 h95 he) | exact aN h11 h17 h62 h108 (eG h111) | exact aN h11 h17 h62 h108 (eH h117) | exact aN h11 h17 h62 h108 (eI h123) | exact aN h11 h17 h62 h108 (eJ h132) | exact aN h11 h17 h62 h108 (eK he h147) | exact aN h11 h17 h62 h108 (eM he2 h158) | exact aN h11 h17 h62 h108 (eN h111 h117 h123 h132 he h147 he2 h158 (dS _)) | exact eO h11 h17 h62 h108
 refine Ua J J <| Nk [2,3,6,15,16] J <| cD J <| Rg 2 J <| aA (fS J J) J <| bL (fun h62 => ?_) (fun h62 => ?_)
 ·refine Ua J J <| Wn <| cU J <| aB <| Rg 26 J <| aA (aV J J J J J) J <| aA (aH (l := lvM r.2.1) J J gG J J) J ?_
  refine aA (aH (l := lvM (0, 0)) J J gG J J) J ?_
  refine aA (aO (b := .v (.bool (!decide (r.2.1 = ((0, 0) : NM))))) (oNeS J J J J (oF _ _)) (congrArg (fun z => LV.v (.bool (!z))) (nm_eq _ _))) J <| fN (fun h66 => ?_) (fun h66 => ?_)
  ·refine Um J J <| K1 J J <| K1 J J <| K1 J J <| K1 J J <| aA (bT J J) J <| Um J J <| K1 J J <| K1 J J <| K1 J J <| K1 J J <| K1 J J <| aA (bT J J) J <| Um J J <| K1 J J <| K1 J J <| K1 J J <| K1 J J <| K1 J J <| K1 J J <| K1 J J <| aA (bT J J) J <| Nk [2,3,88] J ?_
   refine bF J <| aB <| Rg 2 J <| Ua J J <| Ua J J <| Wn <| bQ <| bH <| post (n := 0) (.inr J) J ?_ cJ
   first | exact fY h11 | exact aY h11 h17 (dX h21) | exact aY h11 h17 (dY h30) | exact aY h11 h17 (dZ h38) | exact aY h11 h17 (dE h48) | exact aY h11 h17 (dF h21 h30 h38 h48 he) | exact aS h11 h17 h62 (eA h66) | exact aS h11 h17 h62 (eB h71) | exact aS h11 h17 h62 (eC h77) | exact aS h11 h17 h62 (eD h86) | exact aS h11 h17 h62 (eE h95) | exact aS h11 h17 h62 (eF h66 h71 h77 h86 h95 he) | exact aN h11 h17 h62 h108 (eG h111) | exact aN h11 h17 h62 h108 (eH h117) | exact aN h11 h17 h62 h108 (eI h123) | exact aN h11 h17 h62 h108 (eJ h132) | exact aN h11 h17 h62 h108 (eK he h147) | exact aN h11 h17 h62 h108 (eM he2 h158) | exact aN h11 h17 h62 h108 (eN h111 h117 h123 h132 he h147 he2 h158 (dS _)) | exact eO h11 h17 h62 h108
  refine Um J J <| aM J (aV J J J J J) J <| aM J (aH (l := .sl r.2.2.2.1.1 (r.2.2.2.1.2.map mc)) J J gG J J) J ?_
  refine aM J (bO J J) J <| aM J (lB J J) J <| bL (fun h71 => ?_) (fun h71 => ?_)
  ·refine aA (bU J J) J <| Um J J <| K1 J J <| K1 J J <| K1 J J <| K1 J J <| K1 J J <| aA (bT J J) J <| Um J J <| K1 J J <| K1 J J <| K1 J J <| K1 J J <| K1 J J <| K1 J J <| K1 J J <| aA (bT J J) J <| Nk [2,3,88] J <| bF J <| aB <| Rg 2 J <| Ua J J <| Ua J J ?_
   refine Wn <| bQ <| bH <| post (n := 0) (.inr J) J ?_ cJ
   first | exact fY h11 | exact aY h11 h17 (dX h21) | exact aY h11 h17 (dY h30) | exact aY h11 h17 (dZ h38) | exact aY h11 h17 (dE h48) | exact aY h11 h17 (dF h21 h30 h38 h48 he) | exact aS h11 h17 h62 (eA h66) | exact aS h11 h17 h62 (eB h71) | exact aS h11 h17 h62 (eC h77) | exact aS h11 h17 h62 (eD h86) | exact aS h11 h17 h62 (eE h95) | exact aS h11 h17 h62 (eF h66 h71 h77 h86 h95 he) | exact aN h11 h17 h62 h108 (eG h111) | exact aN h11 h17 h62 h108 (eH h117) | exact aN h11 h17 h62 h108 (eI h123) | exact aN h11 h17 h62 h108 (eJ h132) | exact aN h11 h17 h62 h108 (eK he h147) | exact aN h11 h17 h62 h108 (eM he2 h158) | exact aN h11 h17 h62 h108 (eN h111 h117 h123 h132 he h147 he2 h158 (dS _)) | exact eO h11 h17 h62 h108
  refine aA (bU J J) J <| Um J J <| aM J (aH (l := lvPb p) J J gG J J) J ?_
  refine aM J (aV J J J J J) J <| aM J (aH (l := .sl r.2.2.1.1 (r.2.2.1.2.map mc)) J J gG J J) J ?_
  refine aM J (aJ J (pO r.2.2.1.1 p r.2.2.1.2 hV hI hR.x hR.lx) (aK (by intro c hc; simp only [List.mem_cons, List.not_mem_nil, or_false] at hc; rcases hc with rfl | rfl; exact jN; exact (.sl _ _ (bA gK))))) J <| fN (fun h77 => ?_) (fun h77 => ?_)
  rotate_left
  ·refine aM J (fA J) J <| aA (bU J J) J <| Um J J <| K1 J J <| K1 J J <| K1 J J <| K1 J J <| K1 J J <| K1 J J <| K1 J J <| aA (bT J J) J <| Nk [2,3,88] J <| bF J <| aB <| Rg 2 J <| Ua J J <| Ua J J <| Wn <| bQ <| bH <| post (n := 0) (.inr J) J ?_ cJ
   first | exact fY h11 | exact aY h11 h17 (dX h21) | exact aY h11 h17 (dY h30) | exact aY h11 h17 (dZ h38) | exact aY h11 h17 (dE h48) | exact aY h11 h17 (dF h21 h30 h38 h48 he) | exact aS h11 h17 h62 (eA h66) | exact aS h11 h17 h62 (eB h71) | exact aS h11 h17 h62 (eC h77) | exact aS h11 h17 h62 (eD h86) | exact aS h11 h17 h62 (eE h95) | exact aS h11 h17 h62 (eF h66 h71 h77 h86 h95 he) | exact aN h11 h17 h62 h108 (eG h111) | exact aN h11 h17 h62 h108 (eH h117) | exact aN h11 h17 h62 h108 (eI h123) | exact aN h11 h17 h62 h108 (eJ h132) | exact aN h11 h17 h62 h108 (eK he h147) | exact aN h11 h17 h62 h108 (eM he2 h158) | exact aN h11 h17 h62 h108 (eN h111 h117 h123 h132 he h147 he2 h158 (dS _)) | exact eO h11 h17 h62 h108
  refine aM J (fA J) J <| aA (bU J J) J <| Um J J <| aM J (aV J J J J J) J <| aM J (aH (l := .sl r.2.2.2.2.1 (r.2.2.2.2.2.map mc)) J J gG J J) J ?_
  refine aM J (aV J J J J J) J <| aM J (aH (l := .sl p.2.2.1 (p.2.2.2.map mc)) J J gG J J) J ?_
  refine aM J (bO J J) J <| aM J (aJ J (lP r.2.2.2.2.1 r.2.2.2.2.2 p.2.2.2.length hR.ray hR.lr ) (aK (by intro c hc; simp only [List.mem_cons, List.not_mem_nil, or_false] at hc; rcases hc with rfl | rfl; exact (.sl _ _ (bA gK)); exact (.v _)))) J <| fN (fun h86 => ?_) (fun h86 => ?_)
  rotate_left
  ·refine aM J (fA J) J <| aA (bU J J) J <| Nk [2,3,88] J <| bF J <| aB <| Rg 2 J <| Ua J J <| Ua J J <| Wn <| bQ <| bH <| post (n := 0) (.inr J) J ?_ cJ
   first | exact fY h11 | exact aY h11 h17 (dX h21) | exact aY h11 h17 (dY h30) | exact aY h11 h17 (dZ h38) | exact aY h11 h17 (dE h48) | exact aY h11 h17 (dF h21 h30 h38 h48 he) | exact aS h11 h17 h62 (eA h66) | exact aS h11 h17 h62 (eB h71) | exact aS h11 h17 h62 (eC h77) | exact aS h11 h17 h62 (eD h86) | exact aS h11 h17 h62 (eE h95) | exact aS h11 h17 h62 (eF h66 h71 h77 h86 h95 he) | exact aN h11 h17 h62 h108 (eG h111) | exact aN h11 h17 h62 h108 (eH h117) | exact aN h11 h17 h62 h108 (eI h123) | exact aN h11 h17 h62 h108 (eJ h132) | exact aN h11 h17 h62 h108 (eK he h147) | exact aN h11 h17 h62 h108 (eM he2 h158) | exact aN h11 h17 h62 h108 (eN h111 h117 h123 h132 he h147 he2 h158 (dS _)) | exact eO h11 h17 h62 h108
  refine aM J (fA J) J <| aA (bU J J) J <| Nk [2,3,88] J <| bC J <| aG ?_
  obtain ⟨hyl, hyv⟩ := lU h86
  refine Rg 5 J <| aA (aV J J J J J) J <| aA (aH (l := .sl r.2.2.2.2.1 (r.2.2.2.2.2.map mc)) J J gG J J) J ?_
  refine aA (aJ J (dO r.2.2.2.2.1 r.2.2.2.2.2 (by have := hR.lr; omega) hR.ray (fun a ha => ((fun a ha => (hyv a ha).1) a ha).all3.2.2)) (aK (by intro c hc; simp only [List.mem_cons, List.not_mem_nil, or_false] at hc; rcases hc with rfl; exact (.sl _ _ (bA gK))))) J <| bK (gE J) J <| bG (cV (cs' := [.sl (kd (r.2.2.2.2.2.map nx).length) ((r.2.2.2.2.2.map nx).map xc)]) J J J g0 J J J J) <| Wn <| Rg 5 J <| aA (aV J J J J J) J <| aA (aH (l := .sl p.1.1 (p.1.2.map fM)) J J gG J J) J ?_
  refine aA (oMf J) J <| aA (qU [(0 + 4 + 3 + 3 + 2 + 2 + 2 + 26 + 3)] [.sl p.1.1 (p.1.2.map fM), .fn (.func 26) [] [.ro [.sl (kd (r.2.2.2.2.2.map nx).length) ((r.2.2.2.2.2.map nx).map xc)]]] J (oG p.1.1 p.1.2 26 [.ro [.sl (kd (r.2.2.2.2.2.map nx).length) ((r.2.2.2.2.2.map nx).map xc)]] (fun row => decide (0 < dtN row.2 r.2.2.2.2.2)) (by intro c hc; rw [List.mem_singleton] at hc; subst hc; exact .ro _ (by intro c hc; rw [List.mem_singleton] at hc; subst hc; exact .sl _ _ (bA kF))) om (fun row hrow => lchk1_run row _ r.2.2.2.2.2 (hI.m row hrow) (hV.row hrow) (fun a ha => (hyv a ha).1) (by have := hV.w row hrow; omega) (by have := hV.w row hrow; omega))) (.data (.sl _ _ (bA dfM)) (.fn .nil (.box (ob := { cells := [.sl (kd (r.2.2.2.2.2.map nx).length) ((r.2.2.2.2.2.map nx).map xc)], sz := 1, elem := (41), st := 0 }) gG (by simp) (by show (0 : Nat) ≠ 2; decide) (by intro c hc; rw [List.mem_singleton] at hc; subst hc; exact .sl _ _ (bA kF)) .nil) .nil)) (.cons gG (by show (0 : Nat) ≠ 2; decide) lent0)) J ?_
  refine fN (fun h95 => ?_) (fun h95 => ?_)
  ·refine Ua J J <| dR ?_
   have he : (dtX (p.2.2.2.map nx) (r.2.2.2.2.2.map nx) (p.2.2.2.map nx).length).1 = dtN p.2.2.2 r.2.2.2.2.2 := by rw [List.length_map]; exact jT om
   refine bS (z := 13) J kR <| Dm J J <| aC (fA J) J <| Dm J J <| bD J J <| bD J J <| bD J J <| bD J J <| bD J J <| bD J J <| bD J J <| aC (bU J J) J <| aC (iS J) J <| aC (iS J) J <| bJ (aT kR) J <| Ck [4,5] J <| aP <| bH <| post (n := 0) (.inr J) J ?_ cJ
   first | exact fY h11 | exact aY h11 h17 (dX h21) | exact aY h11 h17 (dY h30) | exact aY h11 h17 (dZ h38) | exact aY h11 h17 (dE h48) | exact aY h11 h17 (dF h21 h30 h38 h48 he) | exact aS h11 h17 h62 (eA h66) | exact aS h11 h17 h62 (eB h71) | exact aS h11 h17 h62 (eC h77) | exact aS h11 h17 h62 (eD h86) | exact aS h11 h17 h62 (eE h95) | exact aS h11 h17 h62 (eF h66 h71 h77 h86 h95 he) | exact aN h11 h17 h62 h108 (eG h111) | exact aN h11 h17 h62 h108 (eH h117) | exact aN h11 h17 h62 h108 (eI h123) | exact aN h11 h17 h62 h108 (eJ h132) | exact aN h11 h17 h62 h108 (eK he h147) | exact aN h11 h17 h62 h108 (eM he2 h158) | exact aN h11 h17 h62 h108 (eN h111 h117 h123 h132 he h147 he2 h158 (dS _)) | exact eO h11 h17 h62 h108
  refine Ua J J <| dR ?_
  have he : (dtX (p.2.2.2.map nx) (r.2.2.2.2.2.map nx) (p.2.2.2.map nx).length).1 = dtN p.2.2.2 r.2.2.2.2.2 := by rw [List.length_map]; exact jT om
  refine bS (z := 13) J kR <| Dm J J <| aC (fA J) J <| Dm J J <| aZ J (aV J J J J J) J <| aZ J (aH (l := .sl p.2.2.1 (p.2.2.2.map mc)) J J gG J J) J ?_
  refine aZ J (aJ J (dO p.2.2.1 p.2.2.2 (by have := hI.lg; omega) hI.g (fun a ha => (hgv a ha).all3.2.2)) (aK (by intro c hc; simp only [List.mem_cons, List.not_mem_nil, or_false] at hc; rcases hc with rfl; exact (.sl _ _ (bA gK))))) J <| aZ J (aH (l := .sl (kd (r.2.2.2.2.2.map nx).length) ((r.2.2.2.2.2.map nx).map xc)) J J gG J J) J ?_
  refine aZ J (aJ J (iP _ _ (p.2.2.2.map nx) (r.2.2.2.2.2.map nx) (by rw [List.length_map, List.length_map]; omega) (by rw [List.length_map]; omega) 2 om om (eU hgv) (eU (fun a ha => (hyv a ha).1))) (aK (by intro c hc; simp only [List.mem_cons, List.not_mem_nil, or_false] at hc; rcases hc with rfl | rfl; exact (.sl _ _ (bA kF)); exact (.sl _ _ (bA kF))))) J <| aZ J (aJ J (eP (dtX (p.2.2.2.map nx) (r.2.2.2.2.2.map nx) (p.2.2.2.map nx).length)) (aK (by intro c hc; simp only [List.mem_cons, List.not_mem_nil, or_false] at hc; rcases hc with rfl; exact jN))) J <| aZ J (lB J J) J <| aC (bT J J) J <| aC (iS J) J <| aC (iS J) J <| bJ (aT kR) J <| Ck [4,5] J <| aP <| bH <| post (n := 0) (.inr J) J ?_ cJ
  first | exact fY h11 | exact aY h11 h17 (dX h21) | exact aY h11 h17 (dY h30) | exact aY h11 h17 (dZ h38) | exact aY h11 h17 (dE h48) | exact aY h11 h17 (dF h21 h30 h38 h48 he) | exact aS h11 h17 h62 (eA h66) | exact aS h11 h17 h62 (eB h71) | exact aS h11 h17 h62 (eC h77) | exact aS h11 h17 h62 (eD h86) | exact aS h11 h17 h62 (eE h95) | exact aS h11 h17 h62 (eF h66 h71 h77 h86 h95 he) | exact aN h11 h17 h62 h108 (eG h111) | exact aN h11 h17 h62 h108 (eH h117) | exact aN h11 h17 h62 h108 (eI h123) | exact aN h11 h17 h62 h108 (eJ h132) | exact aN h11 h17 h62 h108 (eK he h147) | exact aN h11 h17 h62 h108 (eM he2 h158) | exact aN h11 h17 h62 h108 (eN h111 h117 h123 h132 he h147 he2 h158 (dS _)) | exact eO h11 h17 h62 h108
 refine Ua J J <| Wn <| cD J <| Rg 2 J <| aA (fS J J) J <| bL (fun h108 => ?_) (fun h108 => ?_)
 rotate_left
 ·refine Ua J J <| Wn <| cD J <| cE <| aE <| Rg 2 J <| Ua J J <| Ua J J <| Wn <| aP <| post (n := 0) (.inr J) J ?_ cJ
  first | exact fY h11 | exact aY h11 h17 (dX h21) | exact aY h11 h17 (dY h30) | exact aY h11 h17 (dZ h38) | exact aY h11 h17 (dE h48) | exact aY h11 h17 (dF h21 h30 h38 h48 he) | exact aS h11 h17 h62 (eA h66) | exact aS h11 h17 h62 (eB h71) | exact aS h11 h17 h62 (eC h77) | exact aS h11 h17 h62 (eD h86) | exact aS h11 h17 h62 (eE h95) | exact aS h11 h17 h62 (eF h66 h71 h77 h86 h95 he) | exact aN h11 h17 h62 h108 (eG h111) | exact aN h11 h17 h62 h108 (eH h117) | exact aN h11 h17 h62 h108 (eI h123) | exact aN h11 h17 h62 h108 (eJ h132) | exact aN h11 h17 h62 h108 (eK he h147) | exact aN h11 h17 h62 h108 (eM he2 h158) | exact aN h11 h17 h62 h108 (eN h111 h117 h123 h132 he h147 he2 h158 (dS _)) | exact eO h11 h17 h62 h108
 refine Ua J J <| Wn <| cU J <| aB <| Rg 26 J <| aA (aV J J J J J) J <| aA (aH (l := lvM r.2.1) J J gG J J) J ?_
 refine aA (aO (b := .v (.bool (vn r.2.1))) (aJ J (kZ r.2.1 hR.v.1 hR.v.2) (aK (by intro c hc; simp only [List.mem_cons, List.not_mem_nil, or_false] at hc; rcases hc with rfl; exact (.agg _ (gK _))))) J) J <| fN (fun h111 => ?_) (fun h111 => ?_)
 rotate_left
 ·refine aA (fA J) J <| Um J J <| K1 J J <| K1 J J <| K1 J J <| K1 J J <| aA (bT J J) J <| Um J J <| K1 J J <| K1 J J <| K1 J J <| K1 J J <| K1 J J <| aA (bT J J) J <| Um J J <| K1 J J <| K1 J J <| K1 J J <| K1 J J <| K1 J J <| K1 J J <| K1 J J <| aA (bT J J) J <| dR ?_
  refine Ck [2,3,134] J <| bF J <| aB <| Rg 2 J <| Ua J J <| Ua J J <| Wn <| bQ <| bH <| post (n := 0) (.inr J) J ?_ cJ
  first | exact fY h11 | exact aY h11 h17 (dX h21) | exact aY h11 h17 (dY h30) | exact aY h11 h17 (dZ h38) | exact aY h11 h17 (dE h48) | exact aY h11 h17 (dF h21 h30 h38 h48 he) | exact aS h11 h17 h62 (eA h66) | exact aS h11 h17 h62 (eB h71) | exact aS h11 h17 h62 (eC h77) | exact aS h11 h17 h62 (eD h86) | exact aS h11 h17 h62 (eE h95) | exact aS h11 h17 h62 (eF h66 h71 h77 h86 h95 he) | exact aN h11 h17 h62 h108 (eG h111) | exact aN h11 h17 h62 h108 (eH h117) | exact aN h11 h17 h62 h108 (eI h123) | exact aN h11 h17 h62 h108 (eJ h132) | exact aN h11 h17 h62 h108 (eK he h147) | exact aN h11 h17 h62 h108 (eM he2 h158) | exact aN h11 h17 h62 h108 (eN h111 h117 h123 h132 he h147 he2 h158 (dS _)) | exact eO h11 h17 h62 h108
 refine aA (fA J) J <| Um J J <| aM J (aV J J J J J) J <| aM J (aH (l := .sl r.2.2.2.2.1 (r.2.2.2.2.2.map mc)) J J gG J J) J ?_
 refine aM J (bO J J) J <| aM J (lB J J) J <| bL (fun h117 => ?_) (fun h117 => ?_)
 ·refine aA (bU J J) J <| Um J J <| K1 J J <| K1 J J <| K1 J J <| K1 J J <| K1 J J <| aA (bT J J) J <| Um J J <| K1 J J <| K1 J J <| K1 J J <| K1 J J <| K1 J J <| K1 J J <| K1 J J <| aA (bT J J) J <| Nk [2,3,134] J <| bF J <| aB <| Rg 2 J <| Ua J J <| Ua J J ?_
  refine Wn <| bQ <| bH <| post (n := 0) (.inr J) J ?_ cJ
  first | exact fY h11 | exact aY h11 h17 (dX h21) | exact aY h11 h17 (dY h30) | exact aY h11 h17 (dZ h38) | exact aY h11 h17 (dE h48) | exact aY h11 h17 (dF h21 h30 h38 h48 he) | exact aS h11 h17 h62 (eA h66) | exact aS h11 h17 h62 (eB h71) | exact aS h11 h17 h62 (eC h77) | exact aS h11 h17 h62 (eD h86) | exact aS h11 h17 h62 (eE h95) | exact aS h11 h17 h62 (eF h66 h71 h77 h86 h95 he) | exact aN h11 h17 h62 h108 (eG h111) | exact aN h11 h17 h62 h108 (eH h117) | exact aN h11 h17 h62 h108 (eI h123) | exact aN h11 h17 h62 h108 (eJ h132) | exact aN h11 h17 h62 h108 (eK he h147) | exact aN h11 h17 h62 h108 (eM he2 h158) | exact aN h11 h17 h62 h108 (eN h111 h117 h123 h132 he h147 he2 h158 (dS _)) | exact eO h11 h17 h62 h108
 refine aA (bU J J) J <| Um J J <| aM J (aH (l := lvPb p) J J gG J J) J ?_
 refine aM J (aV J J J J J) J <| aM J (aH (l := .sl r.2.2.1.1 (r.2.2.1.2.map mc)) J J gG J J) J ?_
 refine aM J (aJ J (pO r.2.2.1.1 p r.2.2.1.2 hV hI hR.x hR.lx) (aK (by intro c hc; simp only [List.mem_cons, List.not_mem_nil, or_false] at hc; rcases hc with rfl | rfl; exact jN; exact (.sl _ _ (bA gK))))) J <| fN (fun h123 => ?_) (fun h123 => ?_)
 rotate_left
 ·refine aM J (fA J) J <| aA (bU J J) J <| Um J J <| K1 J J <| K1 J J <| K1 J J <| K1 J J <| K1 J J <| K1 J J <| K1 J J <| aA (bT J J) J <| Nk [2,3,134] J <| bF J <| aB <| Rg 2 J <| Ua J J <| Ua J J <| Wn <| bQ <| bH <| post (n := 0) (.inr J) J ?_ cJ
  first | exact fY h11 | exact aY h11 h17 (dX h21) | exact aY h11 h17 (dY h30) | exact aY h11 h17 (dZ h38) | exact aY h11 h17 (dE h48) | exact aY h11 h17 (dF h21 h30 h38 h48 he) | exact aS h11 h17 h62 (eA h66) | exact aS h11 h17 h62 (eB h71) | exact aS h11 h17 h62 (eC h77) | exact aS h11 h17 h62 (eD h86) | exact aS h11 h17 h62 (eE h95) | exact aS h11 h17 h62 (eF h66 h71 h77 h86 h95 he) | exact aN h11 h17 h62 h108 (eG h111) | exact aN h11 h17 h62 h108 (eH h117) | exact aN h11 h17 h62 h108 (eI h123) | exact aN h11 h17 h62 h108 (eJ h132) | exact aN h11 h17 h62 h108 (eK he h147) | exact aN h11 h17 h62 h108 (eM he2 h158) | exact aN h11 h17 h62 h108 (eN h111 h117 h123 h132 he h147 he2 h158 (dS _)) | exact eO h11 h17 h62 h108
 refine aM J (fA J) J <| aA (bU J J) J <| Um J J <| aM J (aV J J J J J) J <| aM J (aH (l := .sl r.2.2.2.1.1 (r.2.2.2.1.2.map mc)) J J gG J J) J ?_
 refine aM J (aV J J J J J) J <| aM J (aH (l := .sl p.1.1 (p.1.2.map fM)) J J gG J J) J ?_
 refine aM J (bO J J) J <| aM J (aJ J (lP r.2.2.2.1.1 r.2.2.2.1.2 p.1.2.length hR.y hR.ly ) (aK (by intro c hc; simp only [List.mem_cons, List.not_mem_nil, or_false] at hc; rcases hc with rfl | rfl; exact (.sl _ _ (bA gK)); exact (.v _)))) J <| fN (fun h132 => ?_) (fun h132 => ?_)
 rotate_left
 ·refine aM J (fA J) J <| aA (bU J J) J <| Nk [2,3,134] J <| bF J <| aB <| Rg 2 J <| Ua J J <| Ua J J <| Wn <| bQ <| bH <| post (n := 0) (.inr J) J ?_ cJ
  first | exact fY h11 | exact aY h11 h17 (dX h21) | exact aY h11 h17 (dY h30) | exact aY h11 h17 (dZ h38) | exact aY h11 h17 (dE h48) | exact aY h11 h17 (dF h21 h30 h38 h48 he) | exact aS h11 h17 h62 (eA h66) | exact aS h11 h17 h62 (eB h71) | exact aS h11 h17 h62 (eC h77) | exact aS h11 h17 h62 (eD h86) | exact aS h11 h17 h62 (eE h95) | exact aS h11 h17 h62 (eF h66 h71 h77 h86 h95 he) | exact aN h11 h17 h62 h108 (eG h111) | exact aN h11 h17 h62 h108 (eH h117) | exact aN h11 h17 h62 h108 (eI h123) | exact aN h11 h17 h62 h108 (eJ h132) | exact aN h11 h17 h62 h108 (eK he h147) | exact aN h11 h17 h62 h108 (eM he2 h158) | exact aN h11 h17 h62 h108 (eN h111 h117 h123 h132 he h147 he2 h158 (dS _)) | exact eO h11 h17 h62 h108
 refine aM J (fA J) J <| aA (bU J J) J <| Nk [2,3,134] J <| bC J <| aG ?_
 obtain ⟨hyl, hyv⟩ := lU h132
 obtain ⟨hxl, hxv⟩ := lU (feaS_pos h123)
 have hvv : VN r.2.1 := of_decide_eq_true h111
 have he : (dtX (p.2.2.2.map nx) (r.2.2.1.2.map nx) (p.2.2.2.map nx).length).1 = dtN p.2.2.2 r.2.2.1.2 := by rw [List.length_map]; exact jT om
 have he2 : (dtX (p.2.1.2.map nx) (r.2.2.2.1.2.map nx) (p.2.1.2.map nx).length).1 = dtN p.2.1.2 r.2.2.2.1.2 := by rw [List.length_map]; exact jT om
 have hb1 := dtN_bd hgv (fun a ha => (hxv a ha).1) om om
 have hb2 := dtN_bd hrv (fun a ha => (hyv a ha).1) om om
 refine Rg 5 J <| aA (aV J J J J J) J <| aA (aH (l := lvM r.2.1) J J gG J J) J ?_
 refine aA (aO (b := lvX (nx r.2.1)) (aJ J (iE r.2.1 hR.v.1 hR.v.2 hvv.all3.2.2) (aK (by intro c hc; simp only [List.mem_cons, List.not_mem_nil, or_false] at hc; rcases hc with rfl; exact (.agg _ (gK _))))) J) J <| bK (gE J) J <| bG (cV (cs' := xc (nx r.2.1)) J J J g0 J J J J) <| Wn <| bS (z := 33) J kR <| aC (aV J J J J J) J <| aC (aH (l := .sl p.2.2.1 (p.2.2.2.map mc)) J J gG J J) J ?_
 refine aC (aJ J (dO p.2.2.1 p.2.2.2 (by have := hI.lg; omega) hI.g (fun a ha => (hgv a ha).all3.2.2)) (aK (by intro c hc; simp only [List.mem_cons, List.not_mem_nil, or_false] at hc; rcases hc with rfl; exact (.sl _ _ (bA gK))))) J <| aC (aV J J J J J) J <| aC (aH (l := .sl r.2.2.1.1 (r.2.2.1.2.map mc)) J J gG J J) J ?_
 refine aC (aJ J (dO r.2.2.1.1 r.2.2.1.2 (by have := hR.lx; omega) hR.x (fun a ha => ((fun a ha => (hxv a ha).1) a ha).all3.2.2)) (aK (by intro c hc; simp only [List.mem_cons, List.not_mem_nil, or_false] at hc; rcases hc with rfl; exact (.sl _ _ (bA gK))))) J <| aC (aJ J (iP _ _ (p.2.2.2.map nx) (r.2.2.1.2.map nx) (by rw [List.length_map, List.length_map]; omega) (by rw [List.length_map]; omega) 2 om om (eU hgv) (eU (fun a ha => (hxv a ha).1))) (aK (by intro c hc; simp only [List.mem_cons, List.not_mem_nil, or_false] at hc; rcases hc with rfl | rfl; exact (.sl _ _ (bA kF)); exact (.sl _ _ (bA kF))))) J <| aC (aH (l := lvX (nx r.2.1)) J J gG J J) J ?_
 refine aC (aJ J (lY (dtX (p.2.2.2.map nx) (r.2.2.1.2.map nx) (p.2.2.2.map nx).length) (nx r.2.1) (by rw [List.length_map]; exact hb1.mono om) (hvv.bd.mono om)) (aK (by intro c hc; simp only [List.mem_cons, List.not_mem_nil, or_false] at hc; rcases hc with rfl | rfl; exact jN; exact jN))) J <| aC (fS J J) J <| kS (fun h147 => ?_) (fun h147 => ?_)
 rotate_left
 ·refine Dm J J <| bD J J <| bD J J <| bD J J <| bD J J <| bD J J <| bD J J <| bD J J <| bD J J <| bD J J <| bD J J <| aC (bU J J) J <| Dm J J <| bD J J <| bD J J <| bD J J <| bD J J <| bD J J <| bD J J <| bD J J <| aC (bU J J) J <| aC (iS J) J <| aC (iS J) J <| bJ (aT kR) J ?_
  refine Ck [4,5] J <| aP <| bH <| post (n := 0) (.inr J) J ?_ cJ
  first | exact fY h11 | exact aY h11 h17 (dX h21) | exact aY h11 h17 (dY h30) | exact aY h11 h17 (dZ h38) | exact aY h11 h17 (dE h48) | exact aY h11 h17 (dF h21 h30 h38 h48 he) | exact aS h11 h17 h62 (eA h66) | exact aS h11 h17 h62 (eB h71) | exact aS h11 h17 h62 (eC h77) | exact aS h11 h17 h62 (eD h86) | exact aS h11 h17 h62 (eE h95) | exact aS h11 h17 h62 (eF h66 h71 h77 h86 h95 he) | exact aN h11 h17 h62 h108 (eG h111) | exact aN h11 h17 h62 h108 (eH h117) | exact aN h11 h17 h62 h108 (eI h123) | exact aN h11 h17 h62 h108 (eJ h132) | exact aN h11 h17 h62 h108 (eK he h147) | exact aN h11 h17 h62 h108 (eM he2 h158) | exact aN h11 h17 h62 h108 (eN h111 h117 h123 h132 he h147 he2 h158 (dS _)) | exact eO h11 h17 h62 h108
 refine Dm J J <| aZ J (aV J J J J J) J <| aZ J (aH (l := .sl p.2.1.1 (p.2.1.2.map mc)) J J gG J J) J ?_
 refine aZ J (aJ J (dO p.2.1.1 p.2.1.2 (by have := hI.lr; omega) hI.r (fun a ha => (hrv a ha).all3.2.2)) (aK (by intro c hc; simp only [List.mem_cons, List.not_mem_nil, or_false] at hc; rcases hc with rfl; exact (.sl _ _ (bA gK))))) J <| aZ J (aV J J J J J) J <| aZ J (aH (l := .sl r.2.2.2.1.1 (r.2.2.2.1.2.map mc)) J J gG J J) J ?_
 refine aZ J (aJ J (dO r.2.2.2.1.1 r.2.2.2.1.2 (by have := hR.ly; omega) hR.y (fun a ha => ((fun a ha => (hyv a ha).1) a ha).all3.2.2)) (aK (by intro c hc; simp only [List.mem_cons, List.not_mem_nil, or_false] at hc; rcases hc with rfl; exact (.sl _ _ (bA gK))))) J <| aZ J (aJ J (iP _ _ (p.2.1.2.map nx) (r.2.2.2.1.2.map nx) (by rw [List.length_map, List.length_map]; omega) (by rw [List.length_map]; omega) 2 om om (eU hrv) (eU (fun a ha => (hyv a ha).1))) (aK (by intro c hc; simp only [List.mem_cons, List.not_mem_nil, or_false] at hc; rcases hc with rfl | rfl; exact (.sl _ _ (bA kF)); exact (.sl _ _ (bA kF))))) J <| aZ J (aH (l := lvX (nx r.2.1)) J J gG J J) J ?_
 refine aZ J (aJ J (lY (dtX (p.2.1.2.map nx) (r.2.2.2.1.2.map nx) (p.2.1.2.map nx).length) (nx r.2.1) (by rw [List.length_map]; exact hb2.mono om) (hvv.bd.mono om)) (aK (by intro c hc; simp only [List.mem_cons, List.not_mem_nil, or_false] at hc; rcases hc with rfl | rfl; exact jN; exact jN))) J <| aZ J (fS J J) J <| kS (fun h158 => ?_) (fun h158 => ?_)
 ·refine aC (bT J J) J <| Dm J J <| aZ J (aH (l := lvPb p) J J gG J J) J ?_
  refine aZ J (aV J J J J J) J <| aZ J (aH (l := .sl r.2.2.2.1.1 (r.2.2.2.1.2.map mc)) J J gG J J) J ?_
  refine aZ J (aV J J J J J) J <| aZ J (aH (l := .sl p.2.2.1 (p.2.2.2.map mc)) J J gG J J) J ?_
  refine aZ J (aJ J (dO p.2.2.1 p.2.2.2 (by have := hI.lg; omega) hI.g (fun a ha => (hgv a ha).all3.2.2)) (aK (by intro c hc; simp only [List.mem_cons, List.not_mem_nil, or_false] at hc; rcases hc with rfl; exact (.sl _ _ (bA gK))))) J <| aZ J (aJ J (lcov_run r.2.2.2.1.1 _ p r.2.2.2.1.2 (p.2.2.2.map nx) hV hI hR.y (fun a ha => (hyv a ha).1) hyl (by simp) (fun x hx => (eU hgv x hx).mono om)) (aK (by intro c hc; simp only [List.mem_cons, List.not_mem_nil, or_false] at hc; rcases hc with rfl | rfl | rfl; exact jN; exact (.sl _ _ (bA gK)); exact (.sl _ _ (bA kF))))) J <| aC (bT J J) J <| aC (iS J) J <| aC (iS J) J <| bJ (aT kR) J <| Ck [4,5] J <| aP <| bH <| post (n := 0) (.inr J) J ?_ cJ
  first | exact fY h11 | exact aY h11 h17 (dX h21) | exact aY h11 h17 (dY h30) | exact aY h11 h17 (dZ h38) | exact aY h11 h17 (dE h48) | exact aY h11 h17 (dF h21 h30 h38 h48 he) | exact aS h11 h17 h62 (eA h66) | exact aS h11 h17 h62 (eB h71) | exact aS h11 h17 h62 (eC h77) | exact aS h11 h17 h62 (eD h86) | exact aS h11 h17 h62 (eE h95) | exact aS h11 h17 h62 (eF h66 h71 h77 h86 h95 he) | exact aN h11 h17 h62 h108 (eG h111) | exact aN h11 h17 h62 h108 (eH h117) | exact aN h11 h17 h62 h108 (eI h123) | exact aN h11 h17 h62 h108 (eJ h132) | exact aN h11 h17 h62 h108 (eK he h147) | exact aN h11 h17 h62 h108 (eM he2 h158) | exact aN h11 h17 h62 h108 (eN h111 h117 h123 h132 he h147 he2 h158 (dS _)) | exact eO h11 h17 h62 h108
 refine aC (bT J J) J <| Dm J J <| bD J J <| bD J J <| bD J J <| bD J J <| bD J J <| bD J J <| bD J J <| aC (bU J J) J <| aC (iS J) J <| aC (iS J) J <| bJ (aT kR) J <| Ck [4,5] J <| aP <| bH <| post (n := 0) (.inr J) J ?_ cJ
 first | exact fY h11 | exact aY h11 h17 (dX h21) | exact aY h11 h17 (dY h30) | exact aY h11 h17 (dZ h38) | exact aY h11 h17 (dE h48) | exact aY h11 h17 (dF h21 h30 h38 h48 he) | exact aS h11 h17 h62 (eA h66) | exact aS h11 h17 h62 (eB h71) | exact aS h11 h17 h62 (eC h77) | exact aS h11 h17 h62 (eD h86) | exact aS h11 h17 h62 (eE h95) | exact aS h11 h17 h62 (eF h66 h71 h77 h86 h95 he) | exact aN h11 h17 h62 h108 (eG h111) | exact aN h11 h17 h62 h108 (eH h117) | exact aN h11 h17 h62 h108 (eI h123) | exact aN h11 h17 h62 h108 (eJ h132) | exact aN h11 h17 h62 h108 (eK he h147) | exact aN h11 h17 h62 h108 (eM he2 h158) | exact aN h11 h17 h62 h108 (eN h111 h117 h123 h132 he h147 he2 h158 (dS _)) | exact eO h11 h17 h62 h108
end Go.Proofs.Ytohfklpfeilcpaa
