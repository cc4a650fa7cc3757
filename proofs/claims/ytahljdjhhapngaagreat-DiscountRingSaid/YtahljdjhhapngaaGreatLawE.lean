/- Part E of the proof of discountRing_holds: what it rests on. No condition. -/
import Derived.Test.YtahljdjhhapngaaGreatLawD
set_option linter.unusedVariables false
set_option linter.unusedSimpArgs false
set_option maxRecDepth 100000
set_option maxHeartbeats 8000000
namespace Go.Proofs.YtahljdjhhapngaaGreat
open Go.Ab Go.RowKit
theorem mvmodel_run (k : Nat) (ss : List ST) (hI : ∀ s, s ∈ ss → IS s) : Run Tryz.prog T E0 (.call 92 [lvMo k ss] (.v (.bool (VMo ss)))) := by
 refine bI Tryz.func92 J J (dL J) <| Rg 2 J <| aY (dY J J) J <| Ua J J <| Wn <| Rg 4 J <| aA (bD J J J J J) J <| aA (aM J J (by repeat (first | exact g0 | refine g1 (by decide) ?_)) J J) J ?_
 refine aA (aZ J J) J <| Ua J J <| Wn <| aB <| Rg 6 J <| Um J J <| aA (bR J J) J <| aX (fun h12 => ?_) (fun h12 => ?_)
 ·refine Um J J <| K1 J J <| K1 J J <| aA (bL J J) J <| Wn <| aS J <| aB <| Rg 1 J <| Ua J J <| Wn <| bA <| post (n := 0) (.inr J) J ?_ dD
  exact congrArg (fun z => LV.v (.bool z)) (show false = VMo ss from (VMo_no om).symm)
 refine Um J J <| aK J (eF J) J <| aK J (eJ J J) J <| aX (fun h15 => ?_) (fun h15 => ?_)
 ·refine aA (bP J J) J <| Wn <| aS J <| aB <| Rg 1 J <| Ua J J <| Wn <| bA <| post (n := 0) (.inr J) J ?_ dD
  exact congrArg (fun z => LV.v (.bool z)) (show false = VMo ss from (VMo_no om).symm)
 refine aA (bP J J) J <| Wn <| aT J <| aF <| aB <| Rg 4 J <| aA (bD J J J J J) J <| aA (aM J J (by repeat (first | exact g0 | refine g1 (by decide) ?_)) J J) J ?_
 refine aA (aZ J J) J <| Um J J <| Nk [3,18,19,20] J <| aL <| bB (α := Nat) (fun i => [(3, .v (.int .i64 (ss.length : Int))), (18, .sl k (ss.map stc)), (19, .v (.int .i64 (ss.length : Int))), (20, .v (.int .i64 (i : Int)))]) (fun i => []) (fun i n => i ≤ ss.length ∧ (ss.take i).all (VS ss.length) = true ∧ 0 < n) (fun i => ss.length - i) (0) ⟨J, J, J, J, trivial⟩ trivial ⟨Nat.zero_le _, by simp, om⟩ ?_
 rintro i n hF
 change WC _ _ _ _ _ (_ :: _) ([]) n _
 obtain ⟨hi, ha, hn0⟩ := hF
 refine Rg 1 J <| aA (bR J J) J <| aX (fun h21 => ?_) (fun h21 => ?_)
 rotate_left
 ·refine Wn <| aT J <| aV <| aR <| aO J <| Rg 1 J <| Ua J J <| Wn <| aN <| post (n := 0) (.inr J) J ?_ dD
  exact congrArg (fun z => LV.v (.bool z)) (show true = VMo ss from (VMo_yes om om (all_yes ha om)).symm)
 refine Wn <| aS J <| aF <| aL ?_
 have hIs := hI _ (bJ (us := ss) (i := i) om)
 refine Rg 4 J <| aA (bS J J J J J om J) J <| aA (dH (l := .agg [_, _, _]) J J J) J <| aY (dU J) J <| aU (cA (cs' := [_, _, _]) J J J gG J J J J) ?_
 refine Wn <| aB <| Rg 30 J <| aA (bD J J J J J) J <| aA (aM J J gG J J) J ?_
 refine aA (bR J J) J <| aX (fun h26 => ?_) (fun h26 => ?_)
 ·refine Um J J <| K1 J J <| K1 J J <| K1 J J <| aA (bL J J) J <| Um J J <| K1 J J <| K1 J J <| K1 J J <| aA (bL J J) J <| Um J J <| K1 J J <| K1 J J <| K1 J J <| aA (bL J J) J <| Um J J <| K1 J J <| K1 J J <| K1 J J <| K1 J J <| aA (bL J J) J <| Um J J <| K1 J J <| K1 J J ?_
  refine K1 J J <| K1 J J <| aA (bL J J) J <| Nk [3,5,18,19,20,28,29,30,33,34,35,38,39,40,43,44,45,46,49,50,51,52,53] J <| aS J <| aB <| Rg 1 J <| Ua J J <| Nk [2] J <| bA <| aW <| bY <| aW <| post (n := 0) (.inr J) J ?_ dD
  exact congrArg (fun z => LV.v (.bool z)) (show false = VMo ss from (kB (i := i) om (VS_no (.inl om))).symm)
 refine Um J J <| aK J (bD J J J J J) J <| aK J (aM J J gG J J) J ?_
 refine aK J (eJ J J) J <| aX (fun h30 => ?_) (fun h30 => ?_)
 ·refine aA (bP J J) J <| Um J J <| K1 J J <| K1 J J <| K1 J J <| aA (bL J J) J <| Um J J <| K1 J J <| K1 J J <| K1 J J <| aA (bL J J) J <| Um J J <| K1 J J <| K1 J J <| K1 J J <| K1 J J <| aA (bL J J) J <| Um J J <| K1 J J <| K1 J J <| K1 J J <| K1 J J <| aA (bL J J) J <| cK ?_
  refine Ck [3,5,18,19,20,28,29,30,33,34,35,38,39,40,43,44,45,46,49,50,51,52,53] J <| aS J <| aB <| Rg 1 J <| Ua J J <| Nk [2] J <| bA <| aW <| bY <| aW <| post (n := 0) (.inr J) J ?_ dD
  exact congrArg (fun z => LV.v (.bool z)) (show false = VMo ss from (kB (i := i) om (VS_no (.inr (.inl om)))).symm)
 refine aA (bP J J) J <| Um J J <| aK J (bD J J J J J) J <| aK J (aM J J gG J J) J ?_
 refine aK J (bR J J) J <| aX (fun h35 => ?_) (fun h35 => ?_)
 ·refine aA (bP J J) J <| Um J J <| K1 J J <| K1 J J <| K1 J J <| aA (bL J J) J <| Um J J <| K1 J J <| K1 J J <| K1 J J <| K1 J J <| aA (bL J J) J <| Um J J <| K1 J J <| K1 J J <| K1 J J <| K1 J J <| aA (bL J J) J <| Nk [3,5,18,19,20,28,29,30,33,34,35,38,39,40,43,44,45,46,49,50,51,52,53] J <| aS J <| aB <| Rg 1 J <| Ua J J ?_
  refine Nk [2] J <| bA <| aW <| bY <| aW <| post (n := 0) (.inr J) J ?_ dD
  exact congrArg (fun z => LV.v (.bool z)) (show false = VMo ss from (kB (i := i) om (VS_no (.inr (.inr (.inl om))))).symm)
 refine aA (bP J J) J <| Um J J <| aK J (bD J J J J J) J <| aK J (aM J J gG J J) J ?_
 refine aK J (eJ J J) J <| aX (fun h40 => ?_) (fun h40 => ?_)
 ·refine aA (bP J J) J <| Um J J <| K1 J J <| K1 J J <| K1 J J <| K1 J J <| aA (bL J J) J <| Um J J <| K1 J J <| K1 J J <| K1 J J <| K1 J J <| aA (bL J J) J <| Nk [3,5,18,19,20,28,29,30,33,34,35,38,39,40,43,44,45,46,49,50,51,52,53] J <| aS J <| aB <| Rg 1 J <| Ua J J <| Nk [2] J <| bA <| aW <| bY ?_
  refine aW <| post (n := 0) (.inr J) J ?_ dD
  exact congrArg (fun z => LV.v (.bool z)) (show false = VMo ss from (kB (i := i) om (VS_no (.inr (.inr (.inr (.inl om)))))).symm)
 refine aA (bP J J) J <| Um J J <| aK J (bD J J J J J) J <| aK J (aM J J gG J J) J ?_
 refine aK J (aZ J J) J <| aK J (bR J J) J <| aX (fun h46 => ?_) (fun h46 => ?_)
 ·refine aA (bP J J) J <| Um J J <| K1 J J <| K1 J J <| K1 J J <| K1 J J <| aA (bL J J) J <| Nk [3,5,18,19,20,28,29,30,33,34,35,38,39,40,43,44,45,46,49,50,51,52,53] J <| aS J <| aB <| Rg 1 J <| Ua J J <| Nk [2] J <| bA <| aW <| bY <| aW <| post (n := 0) (.inr J) J ?_ dD
  exact congrArg (fun z => LV.v (.bool z)) (show false = VMo ss from (kB (i := i) om (VS_no (.inr (.inr (.inr (.inr (.inl om))))))).symm)
 refine aA (bP J J) J <| Um J J <| aK J (bD J J J J J) J <| aK J (aM J J gG J J) J ?_
 refine aK J (aZ J J) J <| aK J (eJ J J) J <| aX (fun h52 => ?_) (fun h52 => ?_)
 ·refine aA (bP J J) J <| Nk [3,5,18,19,20,28,29,30,33,34,35,38,39,40,43,44,45,46,49,50,51,52,53] J <| aS J <| aB <| Rg 1 J <| Ua J J <| Nk [2] J <| bA <| aW <| bY <| aW <| post (n := 0) (.inr J) J ?_ dD
  exact congrArg (fun z => LV.v (.bool z)) (show false = VMo ss from (kB (i := i) om (VS_no (.inr (.inr (.inr (.inr (.inr om))))))).symm)
 refine aA (bP J J) J <| Nk [3,5,18,19,20,28,29,30,33,34,35,38,39,40,43,44,45,46,49,50,51,52,53] J <| aT J <| aF <| Rg 4 J <| aA (bD J J J J J) J <| aA (aM J J gG J J) J ?_
 refine aA (aZ J J) J <| Um J J <| Nk [3,18,19,20,28,29,30,33,34,35,38,39,40,43,44,45,46,49,50,51,52,55,56,57] J <| cR <| bB (α := Nat) (fun j => [(3, .v (.int .i64 (ss.length : Int))), (18, .sl k (ss.map stc)), (19, .v (.int .i64 (ss.length : Int))), (20, .v (.int .i64 (i : Int))), (55, .sl (ss.getD i default).2.1 ((ss.getD i default).2.2.map chc)), (56, .v (.int .i64 ((ss.getD i default).2.2.length : Int))), (57, .v (.int .i64 (j : Int)))]) (fun j => []) (fun j n => j ≤ (ss.getD i default).2.2.length ∧ ((ss.getD i default).2.2.take j).all (VC ss.length) = true ∧ 0 < n) (fun j => (ss.getD i default).2.2.length - j) (0) ⟨J, J, J, J, J, J, J, trivial⟩ trivial ⟨Nat.zero_le _, by simp, om⟩ ?_
 rintro j n hF
 change WC _ _ _ _ _ (_ :: _) ([]) n _
 obtain ⟨hj, hb, hn2⟩ := hF
 refine Rg 1 J <| aA (bR J J) J <| aX (fun h58 => ?_) (fun h58 => ?_)
 rotate_left
 ·refine Wn <| aT J <| aV <| aR <| kY J <| aH <| aI (z := 2) J <| aA (cI (((i + 1 : Nat) : Int)) (aP J J om) om) J <| Um J J <| Wn <| aG <| ⟨i + 1, ⟨J, J, J, J, trivial⟩, trivial, ⟨om, take_all ha om (VS_yes om om om om om om (all_yes hb om)), om⟩, by show ss.length - (i + 1) < ss.length - i; omega⟩
 refine Wn <| aS J <| aF <| aL ?_
 have hIc := hIs.2.2 _ (bJ (us := (ss.getD i default).2.2) (i := j) om)
 refine Rg 4 J <| aA (bS J J J J J om J) J <| aA (dH (l := .agg [_, _, _]) J J J) J <| aY (dU J) J <| aU (cA (cs' := [_, _, _]) J J J gG J J J J) ?_
 refine Wn <| Rg 4 J <| Um J J <| aA (aM (l := lvC ((ss.getD i default).2.2.getD j default)) J J gG J J) J ?_
 refine aA (aJ J (mchoice_run ss.length ((ss.getD i default).2.2.getD j default) hIc om) dD) J <| eX (fun h63 => ?_) (fun h63 => ?_)
 ·refine aA (fT J) J <| Nk [3,18,19,20,55,56,57,64] J <| bZ J <| cV <| aH <| aI (z := 2) J <| aA (cI (((j + 1 : Nat) : Int)) (aP J J om) om) J <| Um J J <| Wn <| aG <| ⟨j + 1, ⟨J, J, J, J, J, J, J, trivial⟩, trivial, ⟨om, take_all hb om h63, om⟩, by show (ss.getD i default).2.2.length - (j + 1) < (ss.getD i default).2.2.length - j; omega⟩
 refine aA (fT J) J <| Nk [3,18,19,20,55,56,57,64] J <| bW J <| Rg 1 J <| Ua J J <| Wn <| aN <| aW <| bY <| fB <| aW <| bY <| aW <| post (n := 0) (.inr J) J ?_ dD
 exact congrArg (fun z => LV.v (.bool z)) (show false = VMo ss from (kB (i := i) om (VS_no2 (j := j) om h63)).symm)
end Go.Proofs.YtahljdjhhapngaaGreat
set_option maxHeartbeats 16000000
namespace Go.Proofs.YtahljdjhhapngaaGreat
open Go.Ab Go.RowKit
theorem mreduced_wcB (rows0 : List X1) (cols w : Nat) (hne : 0 < rows0.length) (ln : rows0.length < 1000000) (hw : Wid w (vX rows0)) (hcw : cols ≤ w) (lw : w < 1000000) (β : Nat) (hβ : β ≤ 268435456) (hgb : GB (vX rows0) cols β) : WC Tryz.prog T E0 Tryz.f129.ntmps (codeOf Tryz.f129) (argsEnv 0 [.sl 1 (rows0.map fX), .v (.int .i64 (cols : Int))]) [] 0 (fun x e h n => (x = .normal ∨ x = .ret) ∧ ∃ (q : Nat) (rows : List X1) (d : X), vX rows = (gjn (vX rows0) cols).1 ∧ d.1 = gjd (vX rows0) cols ∧ resE e T h Tryz.f129.results.toList = some [.ref 4 1 0 rows.length, outV q 1 ((gjn (vX rows0) cols).2.map d64), lvX d] ∧ getH h 4 = some { cells := (rows.map fX).flatten, sz := 1, elem := 104, st := 0 } ∧ ((gjn (vX rows0) cols).2.map d64 ≠ [] → getH h q = some { cells := ((gjn (vX rows0) cols).2.map d64).flatten, sz := 1, elem := 3, st := 0 })) := by
 obtain ⟨_, _, _, hr1, rfl, rfl, rfl⟩ := clone_own rows0 hne om
 refine Rg 3 J <| Ua J J <| Ua J J <| aY (dU J) J <| Wn <| Rg 3 J <| Um J J <| aY (oCallO J hr1 (by first | (simp [-cE]; done) | simp)) J <| Ua J J <| Wn <| Rg 3 J <| aA (aJ J (gQ 1 (by unfold I64; omega)) (by first | (simp [-cE]; done) | simp)) J <| aY (dU J) J <| aU (cA (cs' := [_, _, _, _]) J J J J J J J J) <| Wn <| Rg 1 J <| Ua J J <| Wn <| aB <| Rg 2 J <| Um J J <| Um J J <| Wn <| aL ?_
 refine bB (α := Nat × Nat × (List X1) × (List Nat) × X) (fun ⟨c, q, rows, leads, d⟩ => [(6, .ptr (0 + (0 + 1 + 1)) 0), (7, .ref (0 + 3 + 1) 1 0 rows.length), (8, .ptr (0 + 3 + 3 + 1) 0), (9, outV q 1 (leads.map d64)), (18, .v (.int .i64 (cols : Int))), (19, .v (.int .i64 (c : Int)))]) (fun ⟨c, q, rows, leads, d⟩ => outH q 1 3 (leads.map d64) [((0 + 3 + 1), { cells := (rows.map fX).flatten, sz := 1, elem := 104, st := 0 }), ((0 + 3 + 3 + 1), { cells := xc d, sz := 4, elem := 102, st := 0 }), (2, { cells := [.v (.int .i64 0), .sl 0 [], .v (.int .i64 0), .sl 0 []], sz := 4, elem := 102, st := 0 })]) (fun ⟨c, q, rows, leads, d⟩ n => c ≤ cols ∧ vX rows = (gjn (vX rows0) c).1 ∧ leads = (gjn (vX rows0) c).2 ∧ 8 ≤ q ∧ q < n ∧ d.1 = gjd (vX rows0) c) (fun ⟨c, q, rows, leads, d⟩ => cols - c) (0, 8, rows0, [], xint 1) ⟨J, J, J, J, J, J, trivial⟩ ⟨J, J, J, trivial⟩ ⟨Nat.zero_le _, rfl, rfl, om, om, rfl⟩ ?_
 rintro ⟨c, q, rows, leads, d⟩ n hF
 change WC _ _ _ _ _ (_ :: _) (outH _ _ _ _ _) n _
 obtain ⟨hc, hv, hld, hq5, hqn, hdv⟩ := hF
 have GI := hgb.all hw hcw c hc
 have hrl0 : rows.length = rows0.length := by rw [← dA rows, hv, cY, dA]
 have hll : leads.length ≤ rows.length := by have := GI.led; rw [dA] at this; rw [hld]; omega
 have hwid : ∀ i, i < rows.length → (rows.getD i default).2.length = w := by
  intro i hi
  have := GI.wid.row (i := i) (by rw [← hv, dA]; exact hi)
  rw [← hv, dE] at this
  simpa using this
 refine Rg 1 J <| aA (bR J J) J <| aX (fun h20 => ?_) (fun h20 => ?_)
 rotate_left
 ·refine Wn <| aT J <| aV <| aR <| aO J <| bG (z := 6) J kR <| Dm J J <| Dm J J <| aD (aM (l := .agg [_, _, _, _]) J J (aC om (g1 (by decide) g0)) J J) J <| aD (iA J) J <| aD (iA J) J <| bX (cA (cs' := [_, _, _, _]) J J J (aC om (g1 (by decide) (g1 (by decide) g0))) J J J J) <| bE (aQ kR) J <| aN ?_
  have hcc : c = cols := by omega
  subst hcc
  refine ⟨.inr J, q, rows, d, hv, hdv, ?_, g1 (by decide) (aC om g0), ?_⟩
  ·rw [← hld]; rfl
  ·rw [← hld]; exact fun hu => g1 om (dC hu)
 refine Wn <| aS J <| aF <| aL <| Rg 2 J <| Um J J <| Ua J J <| Wn <| Rg 3 J <| Um J J <| aA (oLenO J J) J <| Ua J J <| Wn <| Rg 2 J <| Um J J <| Ua J J <| Wn <| aL <| bB (α := Nat) (fun a => [(6, .ptr (0 + (0 + 1 + 1)) 0), (7, .ref (0 + 3 + 1) 1 0 rows.length), (8, .ptr (0 + 3 + 3 + 1) 0), (9, outV q 1 (leads.map d64)), (10, .v (.int .i64 (c : Int))), (11, .v (.int .i64 (leads.length : Int))), (12, .v (.int .i64 (a : Int))), (18, .v (.int .i64 (cols : Int))), (19, .v (.int .i64 (c : Int)))]) (fun a => outH q 1 3 (leads.map d64) [((0 + 3 + 1), { cells := (rows.map fX).flatten, sz := 1, elem := 104, st := 0 }), ((0 + 3 + 3 + 1), { cells := xc d, sz := 4, elem := 102, st := 0 }), (2, { cells := [.v (.int .i64 0), .sl 0 [], .v (.int .i64 0), .sl 0 []], sz := 4, elem := 102, st := 0 })]) (fun a n => leads.length ≤ a ∧ a ≤ rows.length ∧ (∀ k, leads.length ≤ k → k < a → ent (vX rows) k c = 0) ∧ q < n) (fun a => rows.length - a) (leads.length) ⟨J, J, J, J, J, J, J, J, J, trivial⟩ (dK dC (aC om g0) (aC om (g1 (by decide) g0)) (aC om (g1 (by decide) (g1 (by decide) g0)))) ⟨Nat.le_refl _, hll, by intro k h1 h2; omega, om⟩ ?_
 rintro a n hG
 change WC _ _ _ _ _ (_ :: _) (outH _ _ _ _ _) n _
 obtain ⟨hle1, hle2, hz, hqn2⟩ := hG
 refine aB <| Rg 15 J <| Um J J <| Um J J <| aA (lI J J) J <| aA (bR J J) J <| aX (fun h28 => ?_) (fun h28 => ?_)
 rotate_left
 ·refine Um J J <| K1 J J <| K1 J J <| K1 J J <| K1 J J <| K1 J J <| K1 J J <| K1 J J <| K1 J J <| K1 J J <| aA (bP J J) J <| Nk [6,7,8,9,10,11,12,18,19,30,31,32,33,34,35,36,37,38,39] J <| aT J <| aV <| aR <| aO J <| Ck [6,7,8,9,10,11,12,18,19,30,31,32,33,34,35,36,37,38] J <| aB <| Rg 4 J <| Um J J <| Um J J <| aA (lI J J) J <| aA (eY J J) J ?_
  refine aX (fun h45 => ?_) (fun h45 => ?_)
  rotate_left
  ·omega
  refine Nk [6,7,8,9,10,11,12,18,19,30,31,32,33,34,35,36,37,38,45] J <| aS J <| aV <| aO J <| Ck [6,7,8,9,18,19,30,31,32,33,34,35,36,37,38] J <| aI (z := 2) J <| aA (cI (((c + 1 : Nat) : Int)) (aP J J om) om) J <| Um J J <| Wn <| aG ?_
  have hpv : pivot (vX rows) leads.length c = a := jV hle1 (by rw [dA]; exact hle2) hz (.inl (by rw [dA]; omega))
  have hpn : pivot (gjn (vX rows0) c).1 (gjn (vX rows0) c).2.length c = (gjn (vX rows0) c).1.length := by rw [← hv, ← hld, hpv, dA]; omega
  refine ⟨⟨c + 1, q, rows, leads, d⟩, ⟨J, J, J, J, J, J, trivial⟩, (dK dC (aC om g0) (aC om (g1 (by decide) g0)) (aC om (g1 (by decide) (g1 (by decide) g0)))), ⟨om, by rw [lF hpn]; exact hv, by rw [lF hpn]; exact hld, om, om, by rw [gjd_no hpn]; exact hdv⟩, by show cols - (c + 1) < cols - c; omega⟩
 refine Um J J <| aK J (eF J) J <| aK J (eF J) J <| aK J (cH (j := a) J J J J om om J) J <| aK J (eK (f := fX) (us := rows) (j := a) J J (aC om g0) (fun _ => rfl) J (by decide) om J) J <| aK J (eF J) J <| aK J (bS J J J J J (by have := hwid a om; omega) J) J <| aK J (dH (l := .agg [_, _, _, _]) J J J) J <| aK J (aJ J (gP ((rows.getD a default).2.getD c default)) (by first | (simp [-cE]; done) | simp)) J <| aK J (eY J J) J <| aX (fun h38 => ?_) (fun h38 => ?_)
 ·have hez : ent (vX rows) a c = 0 := by rw [← iB]; exact fH.1 h38
  refine aA (bL J J) J <| Nk [6,7,8,9,10,11,12,18,19,30,31,32,33,34,35,36,37,38,39] J <| aS J <| aF <| cR <| aI (z := 3) J <| Um J J <| aA (cI (((a + 1 : Nat) : Int)) (aP J J om) om) J <| Ua J J <| Wn <| cC <| aG <| ⟨a + 1, ⟨J, J, J, J, J, J, J, J, J, trivial⟩, (dK dC (aC om g0) (aC om (g1 (by decide) g0)) (aC om (g1 (by decide) (g1 (by decide) g0)))), ⟨om, om, ?_, om⟩, by show rows.length - (a + 1) < rows.length - a; omega⟩
  intro k h1 h2
  by_cases e : k = a
  ·subst e; exact hez
  ·exact hz k h1 om
 have hen : ent (vX rows) a c ≠ 0 := by rw [← iB]; exact fun k => h38 (fH.2 k)
 refine aA (bL J J) J <| Nk [6,7,8,9,10,11,12,18,19,30,31,32,33,34,35,36,37,38,39] J <| aT J <| aV <| aR <| aO J <| Ck [6,7,8,9,10,11,12,18,19,30,31,32,33,34,35,36,37,38] J <| aB <| Rg 4 J <| Um J J <| Um J J <| aA (lI J J) J <| aA (eY J J) J <| aX (fun h45 => ?_) (fun h45 => ?_)
 ·omega
 refine Nk [6,7,8,9,10,11,12,18,19,30,31,32,33,34,35,36,37,38,45] J <| aT J <| aF <| aB ?_
 have hrl : leads.length < rows.length := by omega
 have hpv : pivot (vX rows) leads.length c = a := jV hle1 (by rw [dA]; exact hle2) hz (.inr hen)
 rw [hv, hld] at hpv
 have hal : a < (gjn (vX rows0) c).1.length := by rw [← hv, dA]; omega
 have hgy := lU hpv hal
 have hsp : ent (sw (vX rows) a leads.length) leads.length c ≠ 0 := by rw [lD (by rw [dA]; omega) (by rw [dA]; omega)]; exact hen
 have hbv : BdL (β) (vX rows) := by rw [hv]; exact GI.bds om
 have hbc : β ≤ 268435456 := hβ
 have hbp := hgb.pos
 have hdb : Bd β d.1 := by rw [hdv]; exact hgb.dts c om
 obtain ⟨M, hM⟩ : ∃ M, M = mid (vX rows) a leads.length c := ⟨_, rfl⟩
 have hMl : M.length = rows.length := by rw [hM, nZ, dA]
 have hMb : BdL (2 * β + 1) M := by rw [hM]; exact hbv.mid om hsp
 have hMw : Wid w M := by rw [hM]; exact (show Wid w (vX rows) by rw [hv]; exact GI.wid).mid (by rw [dA]; omega) (by rw [dA]; omega) c
 refine Rg 3 J <| Um J J <| Um J J <| aA (dZ J J) J <| aX (fun h48 => ?_) (fun h48 => ?_)
 rotate_left
 ·refine Nk [6,7,8,9,10,11,12,18,19,30,31,32,33,34,35,36,37,38,48] J <| aT J <| aF ?_
  obtain ⟨rows1, hr1⟩ : ∃ z, z = rows := ⟨_, rfl⟩
  obtain ⟨d1, hd1e⟩ : ∃ z, z = d := ⟨_, rfl⟩
  have hae : a = leads.length := by omega
  have hd1 : d1.1 = d.1 := by rw [hd1e]
  have hv1 : vX rows1 = sw (vX rows) a leads.length := by rw [hr1, hae, sw_same (by rw [dA]; omega)]
  have hl1 : rows1.length = rows.length := by simp [hr1]
  have hp1 : ((rows1.getD leads.length default).2.getD c default).1 ≠ 0 := by rw [iB, hv1]; exact hsp
  have hb1 : BdL (β) (vX rows1) := by rw [hv1]; exact hbv.sw _ _
  have hbr : ∀ x, x ∈ (rows1.getD leads.length default).2 → Bd (β) x.1 := by
   intro x hx
   have := hb1.row leads.length
   rw [dE] at this
   exact this _ (List.mem_map.2 ⟨x, hx, rfl⟩)
  have hwr : (rows1.getD leads.length default).2.length = w := by
   have := ((show Wid w (vX rows) by rw [hv]; exact GI.wid).sw (i := a) (r := leads.length) (by rw [dA]; omega) (by rw [dA]; omega)).row (i := leads.length) (by rw [jJ, dA]; omega)
   rw [← hv1, dE, List.length_map] at this; exact this
  have hbpp := hbr _ (bJ (show c < (rows1.getD leads.length default).2.length by omega))
  have hb1p := Bd1.div hbpp hp1
  obtain ⟨p, hpe⟩ : ∃ p, p = (rows1.getD leads.length default).2.getD c default := ⟨_, rfl⟩
  have hpv1 : p.1 = ent (vX rows) a c := by rw [hpe, iB, hv1, lD (by rw [dA]; omega) (by rw [dA]; omega)]
  have hd1b : Bd (β) d1.1 := by rw [hd1]; exact hdb
  have hd2v : (xmul d1 p).1 = gjd (vX rows0) (c + 1) := by
   rw [nU hpv hal, ← hv, ← hld]
   show d1.1 * p.1 = _
   rw [hpv1, hd1, if_neg om, hdv]
  refine eZ (outH q 1 3 (leads.map d64) [((0 + 3 + 1), { cells := (rows1.map fX).flatten, sz := 1, elem := 104, st := 0 }), ((0 + 3 + 3 + 1), { cells := xc d1, sz := 4, elem := 102, st := 0 }), (2, { cells := [.v (.int .i64 0), .sl 0 [], .v (.int .i64 0), .sl 0 []], sz := 4, elem := 102, st := 0 })]) (dK dC (aC om (g0.trans (by rw [hr1]))) (aC om (g1 (by decide) (g0.trans (by rw [hd1e])))) (aC om (g1 (by decide) (g1 (by decide) g0)))) <| Rg 9 J <| Um J J <| Um J J <| aA (cH (j := leads.length) J J J J om om J) J <| aA (eK (f := fX) (us := rows1) (j := leads.length) J J (aC om g0) (fun _ => rfl) J (by decide) om J) J <| Um J J <| aA (bS J J J J J om J) J <| aA (bK (b := lvX p) (dH (l := .agg [_, _, _, _]) J J J) (by rw [hpe]; rfl)) J <| aY (dU J) J <| aU (cA (cs' := xc p) J J J g0 J J J J) <| Nk [6,7,8,9,10,11,13,18,19,30,31,32,33,34,35,36,37,38] J <| Rg 4 J <| aA (aM (l := .agg [_, _, _, _]) J J (g1 om (g1 om (aC om (g1 (by decide) g0)))) J J) J <| aA (aM (l := lvX p) J J g0 J J) J <| aA (aJ J (jA d1 p (hd1b.mono om) (by rw [hpe]; exact hbpp.mono om)) (by first | (simp [-cE]; done) | simp)) J <| aU (cA (cs' := [_, _, _, _]) J J J (g1 om (g1 om (aC om (g1 (by decide) g0)))) J J J J) <| Nk [6,7,8,9,10,11,13,18,19,30,31,32,33,34,35,36,37,38] J ?_
  obtain ⟨r, hr, np, rfl, hnp⟩ := qC (rows1.getD leads.length default).1 (rows1.getD leads.length default).2 (xdiv (xint 1) p) om (fun x hx => (hbr x hx).mono om) (by rw [hpe]; exact hb1p.mono om)
  refine bG (z := 12) J kR <| Dm J J <| Dm J J <| Dm J J <| Dm J J <| aD (cH (j := leads.length) J J J J om om J) J <| aD (eK (f := fX) (us := rows1) (j := leads.length) J J (g1 om (g1 om (g1 om (aC om g0)))) (fun _ => rfl) J (by decide) om J) J <| aD (aJ J (gQ 1 (by unfold I64; omega)) (by first | (simp [-cE]; done) | simp)) J <| aD (aM (l := lvX p) J J (g1 om g0) J J) J <| aD (aJ J (rdiv_run (xint 1) p (by rw [hpe]; exact hp1) (Bd1.mono om) (by rw [hpe]; exact hbpp.mono om)) (by first | (simp [-cE]; done) | simp)) J <| aD (aJ J (hr) (by first | (simp [-cE]; done) | simp)) J <| aD (cH (j := leads.length) J J J J om om J) J <| bX (eE (f := fX) (us := rows1) (1, np) J J J (g1 om (g1 om (g1 om (aC om g0)))) (fun _ => rfl) J J om J) <| bE (aQ kR) J <| Ck [6,7,8,9,10,11,18,19,30,31,32,33,34,35,36,37,38] J <| aB ?_
  obtain ⟨rowsM, hr2⟩ : ∃ z, z = rows1.set leads.length (1, np) := ⟨_, rfl⟩
  rw [← hr2]
  have hl2 : rowsM.length = rows.length := by rw [hr2, List.length_set]; exact hl1
  have hv2 : vX rowsM = M := by
   rw [hr2, pQ, hv1, hM]; unfold mid
   rw [hnp, ← dE, hv1]
   have : (xdiv (xint 1) p).1 = 1 / ent (sw (vX rows) a leads.length) leads.length c := by show (1 : Rat) / p.1 = _; rw [hpv1, lD (by rw [dA]; omega) (by rw [dA]; omega)]
   rw [this]
  refine Rg 3 J <| Um J J <| aA (lI J J) J <| Um J J <| Nk [6,7,8,9,10,11,18,19,30,31,32,33,34,35,36,37,38,87,88] J <| aL <| bB (α := Nat × (List X1)) (fun ⟨j, rows2⟩ => [(6, .ptr (0 + (0 + 1 + 1)) 0), (7, .ref (0 + 3 + 1) 1 0 rows2.length), (8, .ptr (0 + 3 + 3 + 1) 0), (9, outV q 1 (leads.map d64)), (10, .v (.int .i64 (c : Int))), (11, .v (.int .i64 (leads.length : Int))), (18, .v (.int .i64 (cols : Int))), (19, .v (.int .i64 (c : Int))), (87, .v (.int .i64 (rows.length : Int))), (88, .v (.int .i64 (j : Int)))]) (fun ⟨j, rows2⟩ => outH q 1 3 (leads.map d64) [((0 + 3 + 1), { cells := (rows2.map fX).flatten, sz := 1, elem := 104, st := 0 }), ((0 + 3 + 3 + 1), { cells := xc (xmul d1 p), sz := 4, elem := 102, st := 0 }), (2, { cells := [.v (.int .i64 0), .sl 0 [], .v (.int .i64 0), .sl 0 []], sz := 4, elem := 102, st := 0 })]) (fun ⟨j, rows2⟩ n => j ≤ rows.length ∧ rows2.length = rows.length ∧ (∀ k, k < rows.length → (vX rows2).getD k default = if k < j then elr M leads.length c k else M.getD k default) ∧ q < n) (fun ⟨j, rows2⟩ => rows.length - j) (0, rowsM) ⟨rfl, congrArg some (by rw [hl2]), rfl, rfl, rfl, rfl, rfl, rfl, rfl, rfl, trivial⟩ (dK (fun hu => (g1 om (g1 om (g1 om (g1 om (dC hu)))))) g0 (g1 om g0) (g1 om (g1 om (g1 om (g1 om (aC om (g1 (by decide) (g1 (by decide) g0)))))))) ⟨Nat.zero_le _, hl2, by intro k hk; rw [if_neg om, hv2], om⟩ ?_
  rintro ⟨j, rows2⟩ n hJ
  change WC _ _ _ _ _ (_ :: _) (outH _ _ _ _ _) n _
  obtain ⟨hjl, hl4, hst, hqn4⟩ := hJ
  refine Rg 1 J <| aA (bR J J) J <| aX (fun h89 => ?_) (fun h89 => ?_)
  rotate_left
  ·refine Wn <| aT J <| aV <| aR <| aO J ?_
   have hfin : vX rows2 = elim M leads.length c := elim_eq (j := j) (by rw [dA]; omega) om (by rw [hMl]; exact hst)
   refine aI (z := 5) J <| Um J J <| Um J J <| aA (cQ (cs := [_]) (rows := [[_]]) J J (by decide) J J J) J <| cU (te := ti3) (f := d64) (q := q) (us := leads) (u := c) J J J J J (fun _ => rfl) (by decide) (by show (2 * (leads.length + 1) + 256) * 8 ≤ _; omega) om (gN om (gN om (gN om J))) (gN om (gN om (gN om J))) J <| Ua J J <| Wn <| aH <| Ck [6,7,8,9,18,19] J <| aI (z := 2) J <| aA (cI (((c + 1 : Nat) : Int)) (aP J J om) om) J <| Um J J <| Wn <| aG <| ⟨⟨c + 1, _, rows2, leads ++ [c], xmul d1 p⟩, ⟨J, J, J, J, J, J, trivial⟩, (dK dC (aC om g0) (aC om (g1 (by decide) g0)) (aC om (g1 (by decide) (g1 (by decide) g0)))), ⟨om, by rw [hgy, hfin, hM, hv, hld], by rw [hgy, hld], om, om, hd2v⟩, by show cols - (c + 1) < cols - c; omega⟩
  refine Wn <| aS J <| aF <| aL <| Rg 2 J <| Um J J <| Ua J J <| cK ?_
  have hrj : vX rows2 = vX rows2 := rfl
  have hj1 : (vX rows2).getD j default = M.getD j default := by rw [hst j om, if_neg om]
  have hj2 : (vX rows2).getD leads.length default = M.getD leads.length default := elim_row om (by rw [hMl]; exact hst)
  have hej : ent (vX rows2) j c = ent M j c := by unfold ent; rw [hj1]
  have hwj : (rows2.getD j default).2.length = w := by have := hMw.row (i := j) om; rw [← hj1, dE] at this; simpa using this
  have hwl : (rows2.getD leads.length default).2.length = w := by have := hMw.row (i := leads.length) om; rw [← hj2, dE] at this; simpa using this
  refine Rg 14 J <| Um J J <| Um J J <| aA (dZ J J) J <| aX (fun h93 => ?_) (fun h93 => ?_)
  rotate_left
  ·refine Um J J <| K1 J J <| K1 J J <| K1 J J <| K1 J J <| K1 J J <| K1 J J <| K1 J J <| K1 J J <| K1 J J <| aA (bP J J) J <| Nk [6,7,8,9,10,11,14,18,19,87,88,95,96,97,98,99,100,101,102,103,104] J <| bZ J <| cV <| aH <| Ck [6,7,8,9,10,11,18,19,87,88,95,96,97,98,99,100,101,102,103] J <| aI (z := 2) J <| aA (cI (((j + 1 : Nat) : Int)) (aP J J om) om) J <| Um J J <| Wn <| aG <| ⟨⟨j + 1, rows2⟩, ⟨J, J, J, J, J, J, J, J, J, J, trivial⟩, (dK dC (aC om g0) (aC om (g1 (by decide) g0)) (aC om (g1 (by decide) (g1 (by decide) g0)))), ⟨om, hl4, (by have := lS (A := vX rows2) (M := M) (j := j) om (by rw [hMl]; exact hst) (nS (.inl om)).symm; rwa [hMl] at this), om⟩, by show rows.length - (j + 1) < rows.length - j; omega⟩
  refine Um J J <| aK J (eF J) J <| aK J (eF J) J <| aK J (cH (j := j) J J J J om om J) J <| aK J (eK (f := fX) (us := rows2) (j := j) J J (aC om g0) (fun _ => rfl) J (by decide) om J) J <| aK J (eF J) J <| aK J (bS J J J J J om J) J <| aK J (dH (l := .agg [_, _, _, _]) J J J) J <| aK J (aJ J (gP ((rows2.getD j default).2.getD c default)) (by first | (simp [-cE]; done) | simp)) J <| aK J (dZ J J) J <| aX (fun h103 => ?_) (fun h103 => ?_)
  rotate_left
  ·refine aA (bL J J) J <| Nk [6,7,8,9,10,11,14,18,19,87,88,95,96,97,98,99,100,101,102,103,104] J <| bZ J <| cV <| aH <| Ck [6,7,8,9,10,11,18,19,87,88,95,96,97,98,99,100,101,102,103] J <| aI (z := 2) J <| aA (cI (((j + 1 : Nat) : Int)) (aP J J om) om) J <| Um J J <| Wn <| aG <| ⟨⟨j + 1, rows2⟩, ⟨J, J, J, J, J, J, J, J, J, J, trivial⟩, (dK dC (aC om g0) (aC om (g1 (by decide) g0)) (aC om (g1 (by decide) (g1 (by decide) g0)))), ⟨om, hl4, (by have := lS (A := vX rows2) (M := M) (j := j) om (by rw [hMl]; exact hst) (nS (.inr (by rw [← hej, ← iB]; exact fH.1 om))).symm; rwa [hMl] at this), om⟩, by show rows.length - (j + 1) < rows.length - j; omega⟩
  refine aA (bL J J) J <| Nk [6,7,8,9,10,11,14,18,19,87,88,95,96,97,98,99,100,101,102,103,104] J <| bW J ?_
  have hen2 : ent M j c ≠ 0 := by rw [← hej, ← iB]; exact fun k => h103 (fH.2 k)
  have hbj : ∀ x, x ∈ (rows2.getD j default).2 → Bd (2 * β + 1) x.1 := by
   intro x hx
   have := hMb.row j
   rw [← hj1, dE] at this
   exact this _ (List.mem_map.2 ⟨x, hx, rfl⟩)
  have hbl : ∀ x, x ∈ (rows2.getD leads.length default).2 → Bd (2 * β + 1) x.1 := by
   intro x hx
   have := hMb.row leads.length
   rw [← hj2, dE] at this
   exact this _ (List.mem_map.2 ⟨x, hx, rfl⟩)
  have hbe := hbj _ (bJ (show c < (rows2.getD j default).2.length by omega))
  obtain ⟨r, hr, nw, rfl, hnw⟩ := mV (rows2.getD j default).1 (rows2.getD leads.length default).1 (rows2.getD j default).2 (rows2.getD leads.length default).2 (xneg ((rows2.getD j default).2.getD c default)) om om (fun x hx => (hbj x hx).mono om) (fun x hx => (hbl x hx).mono om) (hbe.neg.mono om)
  refine dN (z := 21) J kR <| Dm J J <| Dm J J <| Dm J J <| Dm J J <| aD (cH (j := j) J J J J om om J) J <| aD (eK (f := fX) (us := rows2) (j := j) J J (aC om g0) (fun _ => rfl) J (by decide) om J) J <| Dm J J <| Dm J J <| aD (cH (j := j) J J J J om om J) J <| aD (eK (f := fX) (us := rows2) (j := j) J J (aC om g0) (fun _ => rfl) J (by decide) om J) J <| Dm J J <| aD (bS J J J J J om J) J <| aD (dH (l := .agg [_, _, _, _]) J J J) J <| aD (aJ J (jB ((rows2.getD j default).2.getD c default)) (by first | (simp [-cE]; done) | simp)) J <| Dm J J <| Dm J J <| aD (cH (j := leads.length) J J J J om om J) J <| aD (eK (f := fX) (us := rows2) (j := leads.length) J J (aC om g0) (fun _ => rfl) J (by decide) om J) J <| aD (aJ J (hr) (by first | (simp [-cE]; done) | simp)) J <| aD (cH (j := j) J J J J om om J) J <| bX (eE (f := fX) (us := rows2) (1, nw) J J J (aC om g0) (fun _ => rfl) J J om J) <| bE (aQ kR) J <| aH ?_
  refine Ck [6,7,8,9,10,11,18,19,87,88,95,96,97,98,99,100,101,102,103] J <| aI (z := 2) J <| aA (cI (((j + 1 : Nat) : Int)) (aP J J om) om) J <| Um J J <| Wn <| aG <| ⟨⟨j + 1, rows2.set j (1, nw)⟩, ⟨rfl, congrArg some (by rw [List.length_set]), rfl, rfl, rfl, rfl, rfl, rfl, rfl, rfl, trivial⟩, dK (fun hu => g1 om (dC hu)) g0 (g1 (by decide) (aC om (g1 (by decide) g0))) (g1 (by decide) (aC om (g1 (by decide) (g1 (by decide) g0)))), ⟨om, by rw [List.length_set]; exact hl4, by rw [pQ]; exact (by have := elim_next (A := vX rows2) (M := M) (j := j) (by rw [dA]; omega) om (by rw [hMl]; exact hst) (x := nw.map (·.1)) (by rw [elr_pos om hen2, ← hej, ← hj1, ← hj2, dE, dE, ← iB, hnw]; rfl); rwa [hMl] at this), om⟩, by show rows.length - (j + 1) < rows.length - j; omega⟩
 refine Nk [6,7,8,9,10,11,12,18,19,30,31,32,33,34,35,36,37,38,48] J <| aS J <| aB <| bG (z := 16) J kR <| Dm J J <| Dm J J <| Dm J J <| Dm J J <| Dm J J <| Dm J J <| aD (cH (j := leads.length) J J J J om om J) J <| aD (eK (f := fX) (us := rows) (j := leads.length) J J (aC om g0) (fun _ => rfl) J (by decide) om J) J <| Dm J J <| Dm J J <| aD (cH (j := a) J J J J om om J) J <| aD (eK (f := fX) (us := rows) (j := a) J J (aC om g0) (fun _ => rfl) J (by decide) om J) J <| aD (cH (j := a) J J J J om om J) J <| bX (eE (f := fX) (us := rows) (rows.getD leads.length default) J J J (aC om g0) (fun _ => rfl) J J om J) <| aD (cH (j := leads.length) J J J J om om J) J <| bX (eE (f := fX) (us := (rows.set a (rows.getD leads.length default))) (rows.getD a default) J J J g0 (fun _ => rfl) J J (by rw [List.length_set]; omega) J) <| bE (aQ kR) J <| Ck [6,7,8,9,10,11,18,19,30,31,32,33,34,35,36,37,38] J <| Rg 3 J ?_
 refine aA (aM (l := .agg [_, _, _, _]) J J (g1 om (g1 om (aC om (g1 (by decide) g0)))) J J) J <| aA (aJ J (jB d) (by first | (simp [-cE]; done) | simp)) J <| aU (cA (cs' := [_, _, _, _]) J J J (g1 om (g1 om (aC om (g1 (by decide) g0)))) J J J J) <| Nk [6,7,8,9,10,11,18,19,30,31,32,33,34,35,36,37,38] J ?_
 obtain ⟨rows1, hr1⟩ : ∃ z, z = ((rows.set a (rows.getD leads.length default)).set leads.length (rows.getD a default)) := ⟨_, rfl⟩
 obtain ⟨d1, hd1e⟩ : ∃ z, z = xneg d := ⟨_, rfl⟩
 rw [← hr1]
 have hd1 : d1.1 = -d.1 := by rw [hd1e]; rfl
 have hv1 : vX rows1 = sw (vX rows) a leads.length := by rw [hr1, pQ, pQ, ← dE, ← dE]; exact sw_comm om
 have hl1 : rows1.length = rows.length := by simp [hr1]
 have hp1 : ((rows1.getD leads.length default).2.getD c default).1 ≠ 0 := by rw [iB, hv1]; exact hsp
 have hb1 : BdL (β) (vX rows1) := by rw [hv1]; exact hbv.sw _ _
 have hbr : ∀ x, x ∈ (rows1.getD leads.length default).2 → Bd (β) x.1 := by
  intro x hx
  have := hb1.row leads.length
  rw [dE] at this
  exact this _ (List.mem_map.2 ⟨x, hx, rfl⟩)
 have hwr : (rows1.getD leads.length default).2.length = w := by
  have := ((show Wid w (vX rows) by rw [hv]; exact GI.wid).sw (i := a) (r := leads.length) (by rw [dA]; omega) (by rw [dA]; omega)).row (i := leads.length) (by rw [jJ, dA]; omega)
  rw [← hv1, dE, List.length_map] at this; exact this
 have hbpp := hbr _ (bJ (show c < (rows1.getD leads.length default).2.length by omega))
 have hb1p := Bd1.div hbpp hp1
 obtain ⟨p, hpe⟩ : ∃ p, p = (rows1.getD leads.length default).2.getD c default := ⟨_, rfl⟩
 have hpv1 : p.1 = ent (vX rows) a c := by rw [hpe, iB, hv1, lD (by rw [dA]; omega) (by rw [dA]; omega)]
 have hd1b : Bd (β) d1.1 := by rw [hd1]; exact hdb.neg
 have hd2v : (xmul d1 p).1 = gjd (vX rows0) (c + 1) := by
  rw [nU hpv hal, ← hv, ← hld]
  show d1.1 * p.1 = _
  rw [hpv1, hd1, if_pos om, hdv]
 refine eZ (outH q 1 3 (leads.map d64) [((0 + 3 + 1), { cells := (rows1.map fX).flatten, sz := 1, elem := 104, st := 0 }), ((0 + 3 + 3 + 1), { cells := xc d1, sz := 4, elem := 102, st := 0 }), (2, { cells := [.v (.int .i64 0), .sl 0 [], .v (.int .i64 0), .sl 0 []], sz := 4, elem := 102, st := 0 })]) (dK (fun hu => (g1 om (g1 om (g1 om (dC hu))))) (g1 (by decide) g0) (g0.trans (by rw [hd1e]; rfl)) (g1 om (g1 om (g1 om (aC om (g1 (by decide) (g1 (by decide) g0))))))) <| Rg 9 J <| Um J J <| Um J J <| aA (cH (j := leads.length) J J J J om om J) J <| aA (eK (f := fX) (us := rows1) (j := leads.length) J J (aC om g0) (fun _ => rfl) J (by decide) om J) J <| Um J J <| aA (bS J J J J J om J) J <| aA (bK (b := lvX p) (dH (l := .agg [_, _, _, _]) J J J) (by rw [hpe]; rfl)) J <| aY (dU J) J <| aU (cA (cs' := xc p) J J J g0 J J J J) <| Nk [6,7,8,9,10,11,13,18,19,30,31,32,33,34,35,36,37,38] J <| Rg 4 J <| aA (aM (l := .agg [_, _, _, _]) J J (g1 om (g1 om (aC om (g1 (by decide) g0)))) J J) J <| aA (aM (l := lvX p) J J g0 J J) J <| aA (aJ J (jA d1 p (hd1b.mono om) (by rw [hpe]; exact hbpp.mono om)) (by first | (simp [-cE]; done) | simp)) J <| aU (cA (cs' := [_, _, _, _]) J J J (g1 om (g1 om (aC om (g1 (by decide) g0)))) J J J J) <| Nk [6,7,8,9,10,11,13,18,19,30,31,32,33,34,35,36,37,38] J ?_
 obtain ⟨r, hr, np, rfl, hnp⟩ := qC (rows1.getD leads.length default).1 (rows1.getD leads.length default).2 (xdiv (xint 1) p) om (fun x hx => (hbr x hx).mono om) (by rw [hpe]; exact hb1p.mono om)
 refine bG (z := 12) J kR <| Dm J J <| Dm J J <| Dm J J <| Dm J J <| aD (cH (j := leads.length) J J J J om om J) J <| aD (eK (f := fX) (us := rows1) (j := leads.length) J J (g1 om (g1 om (g1 om (aC om g0)))) (fun _ => rfl) J (by decide) om J) J <| aD (aJ J (gQ 1 (by unfold I64; omega)) (by first | (simp [-cE]; done) | simp)) J <| aD (aM (l := lvX p) J J (g1 om g0) J J) J <| aD (aJ J (rdiv_run (xint 1) p (by rw [hpe]; exact hp1) (Bd1.mono om) (by rw [hpe]; exact hbpp.mono om)) (by first | (simp [-cE]; done) | simp)) J <| aD (aJ J (hr) (by first | (simp [-cE]; done) | simp)) J <| aD (cH (j := leads.length) J J J J om om J) J <| bX (eE (f := fX) (us := rows1) (1, np) J J J (g1 om (g1 om (g1 om (aC om g0)))) (fun _ => rfl) J J om J) <| bE (aQ kR) J <| Ck [6,7,8,9,10,11,18,19,30,31,32,33,34,35,36,37,38] J <| aB ?_
 obtain ⟨rowsM, hr2⟩ : ∃ z, z = rows1.set leads.length (1, np) := ⟨_, rfl⟩
 rw [← hr2]
 have hl2 : rowsM.length = rows.length := by rw [hr2, List.length_set]; exact hl1
 have hv2 : vX rowsM = M := by
  rw [hr2, pQ, hv1, hM]; unfold mid
  rw [hnp, ← dE, hv1]
  have : (xdiv (xint 1) p).1 = 1 / ent (sw (vX rows) a leads.length) leads.length c := by show (1 : Rat) / p.1 = _; rw [hpv1, lD (by rw [dA]; omega) (by rw [dA]; omega)]
  rw [this]
 refine Rg 3 J <| Um J J <| aA (lI J J) J <| Um J J <| Nk [6,7,8,9,10,11,18,19,30,31,32,33,34,35,36,37,38,87,88] J <| aL <| bB (α := Nat × (List X1)) (fun ⟨j, rows2⟩ => [(6, .ptr (0 + (0 + 1 + 1)) 0), (7, .ref (0 + 3 + 1) 1 0 rows2.length), (8, .ptr (0 + 3 + 3 + 1) 0), (9, outV q 1 (leads.map d64)), (10, .v (.int .i64 (c : Int))), (11, .v (.int .i64 (leads.length : Int))), (18, .v (.int .i64 (cols : Int))), (19, .v (.int .i64 (c : Int))), (87, .v (.int .i64 (rows.length : Int))), (88, .v (.int .i64 (j : Int)))]) (fun ⟨j, rows2⟩ => outH q 1 3 (leads.map d64) [((0 + 3 + 1), { cells := (rows2.map fX).flatten, sz := 1, elem := 104, st := 0 }), ((0 + 3 + 3 + 1), { cells := xc (xmul d1 p), sz := 4, elem := 102, st := 0 }), (2, { cells := [.v (.int .i64 0), .sl 0 [], .v (.int .i64 0), .sl 0 []], sz := 4, elem := 102, st := 0 })]) (fun ⟨j, rows2⟩ n => j ≤ rows.length ∧ rows2.length = rows.length ∧ (∀ k, k < rows.length → (vX rows2).getD k default = if k < j then elr M leads.length c k else M.getD k default) ∧ q < n) (fun ⟨j, rows2⟩ => rows.length - j) (0, rowsM) ⟨rfl, congrArg some (by rw [hl2]), rfl, rfl, rfl, rfl, rfl, rfl, rfl, rfl, trivial⟩ (dK (fun hu => (g1 om (g1 om (g1 om (g1 om (dC hu)))))) g0 (g1 om g0) (g1 om (g1 om (g1 om (g1 om (aC om (g1 (by decide) (g1 (by decide) g0)))))))) ⟨Nat.zero_le _, hl2, by intro k hk; rw [if_neg om, hv2], om⟩ ?_
 rintro ⟨j, rows2⟩ n hJ
 change WC _ _ _ _ _ (_ :: _) (outH _ _ _ _ _) n _
 obtain ⟨hjl, hl4, hst, hqn4⟩ := hJ
 refine Rg 1 J <| aA (bR J J) J <| aX (fun h89 => ?_) (fun h89 => ?_)
 rotate_left
 ·refine Wn <| aT J <| aV <| aR <| aO J ?_
  have hfin : vX rows2 = elim M leads.length c := elim_eq (j := j) (by rw [dA]; omega) om (by rw [hMl]; exact hst)
  refine aI (z := 5) J <| Um J J <| Um J J <| aA (cQ (cs := [_]) (rows := [[_]]) J J (by decide) J J J) J <| cU (te := ti3) (f := d64) (q := q) (us := leads) (u := c) J J J J J (fun _ => rfl) (by decide) (by show (2 * (leads.length + 1) + 256) * 8 ≤ _; omega) om (gN om (gN om (gN om J))) (gN om (gN om (gN om J))) J <| Ua J J <| Wn <| aH <| Ck [6,7,8,9,18,19] J <| aI (z := 2) J <| aA (cI (((c + 1 : Nat) : Int)) (aP J J om) om) J <| Um J J <| Wn <| aG <| ⟨⟨c + 1, _, rows2, leads ++ [c], xmul d1 p⟩, ⟨J, J, J, J, J, J, trivial⟩, (dK dC (aC om g0) (aC om (g1 (by decide) g0)) (aC om (g1 (by decide) (g1 (by decide) g0)))), ⟨om, by rw [hgy, hfin, hM, hv, hld], by rw [hgy, hld], om, om, hd2v⟩, by show cols - (c + 1) < cols - c; omega⟩
 refine Wn <| aS J <| aF <| aL <| Rg 2 J <| Um J J <| Ua J J <| cK ?_
 have hrj : vX rows2 = vX rows2 := rfl
 have hj1 : (vX rows2).getD j default = M.getD j default := by rw [hst j om, if_neg om]
 have hj2 : (vX rows2).getD leads.length default = M.getD leads.length default := elim_row om (by rw [hMl]; exact hst)
 have hej : ent (vX rows2) j c = ent M j c := by unfold ent; rw [hj1]
 have hwj : (rows2.getD j default).2.length = w := by have := hMw.row (i := j) om; rw [← hj1, dE] at this; simpa using this
 have hwl : (rows2.getD leads.length default).2.length = w := by have := hMw.row (i := leads.length) om; rw [← hj2, dE] at this; simpa using this
 refine Rg 14 J <| Um J J <| Um J J <| aA (dZ J J) J <| aX (fun h93 => ?_) (fun h93 => ?_)
 rotate_left
 ·refine Um J J <| K1 J J <| K1 J J <| K1 J J <| K1 J J <| K1 J J <| K1 J J <| K1 J J <| K1 J J <| K1 J J <| aA (bP J J) J <| Nk [6,7,8,9,10,11,14,18,19,87,88,95,96,97,98,99,100,101,102,103,104] J <| bZ J <| cV <| aH <| Ck [6,7,8,9,10,11,18,19,87,88,95,96,97,98,99,100,101,102,103] J <| aI (z := 2) J <| aA (cI (((j + 1 : Nat) : Int)) (aP J J om) om) J <| Um J J <| Wn <| aG <| ⟨⟨j + 1, rows2⟩, ⟨J, J, J, J, J, J, J, J, J, J, trivial⟩, (dK dC (aC om g0) (aC om (g1 (by decide) g0)) (aC om (g1 (by decide) (g1 (by decide) g0)))), ⟨om, hl4, (by have := lS (A := vX rows2) (M := M) (j := j) om (by rw [hMl]; exact hst) (nS (.inl om)).symm; rwa [hMl] at this), om⟩, by show rows.length - (j + 1) < rows.length - j; omega⟩
 refine Um J J <| aK J (eF J) J <| aK J (eF J) J <| aK J (cH (j := j) J J J J om om J) J <| aK J (eK (f := fX) (us := rows2) (j := j) J J (aC om g0) (fun _ => rfl) J (by decide) om J) J <| aK J (eF J) J <| aK J (bS J J J J J om J) J <| aK J (dH (l := .agg [_, _, _, _]) J J J) J <| aK J (aJ J (gP ((rows2.getD j default).2.getD c default)) (by first | (simp [-cE]; done) | simp)) J <| aK J (dZ J J) J <| aX (fun h103 => ?_) (fun h103 => ?_)
 rotate_left
 ·refine aA (bL J J) J <| Nk [6,7,8,9,10,11,14,18,19,87,88,95,96,97,98,99,100,101,102,103,104] J <| bZ J <| cV <| aH <| Ck [6,7,8,9,10,11,18,19,87,88,95,96,97,98,99,100,101,102,103] J <| aI (z := 2) J <| aA (cI (((j + 1 : Nat) : Int)) (aP J J om) om) J <| Um J J <| Wn <| aG <| ⟨⟨j + 1, rows2⟩, ⟨J, J, J, J, J, J, J, J, J, J, trivial⟩, (dK dC (aC om g0) (aC om (g1 (by decide) g0)) (aC om (g1 (by decide) (g1 (by decide) g0)))), ⟨om, hl4, (by have := lS (A := vX rows2) (M := M) (j := j) om (by rw [hMl]; exact hst) (nS (.inr (by rw [← hej, ← iB]; exact fH.1 om))).symm; rwa [hMl] at this), om⟩, by show rows.length - (j + 1) < rows.length - j; omega⟩
 refine aA (bL J J) J <| Nk [6,7,8,9,10,11,14,18,19,87,88,95,96,97,98,99,100,101,102,103,104] J <| bW J ?_
 have hen2 : ent M j c ≠ 0 := by rw [← hej, ← iB]; exact fun k => h103 (fH.2 k)
 have hbj : ∀ x, x ∈ (rows2.getD j default).2 → Bd (2 * β + 1) x.1 := by
  intro x hx
  have := hMb.row j
  rw [← hj1, dE] at this
  exact this _ (List.mem_map.2 ⟨x, hx, rfl⟩)
 have hbl : ∀ x, x ∈ (rows2.getD leads.length default).2 → Bd (2 * β + 1) x.1 := by
  intro x hx
  have := hMb.row leads.length
  rw [← hj2, dE] at this
  exact this _ (List.mem_map.2 ⟨x, hx, rfl⟩)
 have hbe := hbj _ (bJ (show c < (rows2.getD j default).2.length by omega))
 obtain ⟨r, hr, nw, rfl, hnw⟩ := mV (rows2.getD j default).1 (rows2.getD leads.length default).1 (rows2.getD j default).2 (rows2.getD leads.length default).2 (xneg ((rows2.getD j default).2.getD c default)) om om (fun x hx => (hbj x hx).mono om) (fun x hx => (hbl x hx).mono om) (hbe.neg.mono om)
 refine dN (z := 21) J kR <| Dm J J <| Dm J J <| Dm J J <| Dm J J <| aD (cH (j := j) J J J J om om J) J <| aD (eK (f := fX) (us := rows2) (j := j) J J (aC om g0) (fun _ => rfl) J (by decide) om J) J <| Dm J J <| Dm J J <| aD (cH (j := j) J J J J om om J) J <| aD (eK (f := fX) (us := rows2) (j := j) J J (aC om g0) (fun _ => rfl) J (by decide) om J) J <| Dm J J <| aD (bS J J J J J om J) J <| aD (dH (l := .agg [_, _, _, _]) J J J) J <| aD (aJ J (jB ((rows2.getD j default).2.getD c default)) (by first | (simp [-cE]; done) | simp)) J <| Dm J J <| Dm J J <| aD (cH (j := leads.length) J J J J om om J) J <| aD (eK (f := fX) (us := rows2) (j := leads.length) J J (aC om g0) (fun _ => rfl) J (by decide) om J) J <| aD (aJ J (hr) (by first | (simp [-cE]; done) | simp)) J <| aD (cH (j := j) J J J J om om J) J <| bX (eE (f := fX) (us := rows2) (1, nw) J J J (aC om g0) (fun _ => rfl) J J om J) <| bE (aQ kR) J <| aH ?_
 refine Ck [6,7,8,9,10,11,18,19,87,88,95,96,97,98,99,100,101,102,103] J <| aI (z := 2) J <| aA (cI (((j + 1 : Nat) : Int)) (aP J J om) om) J <| Um J J <| Wn <| aG <| ⟨⟨j + 1, rows2.set j (1, nw)⟩, ⟨rfl, congrArg some (by rw [List.length_set]), rfl, rfl, rfl, rfl, rfl, rfl, rfl, rfl, trivial⟩, dK (fun hu => g1 om (dC hu)) g0 (g1 (by decide) (aC om (g1 (by decide) g0))) (g1 (by decide) (aC om (g1 (by decide) (g1 (by decide) g0)))), ⟨om, by rw [List.length_set]; exact hl4, by rw [pQ]; exact (by have := elim_next (A := vX rows2) (M := M) (j := j) (by rw [dA]; omega) om (by rw [hMl]; exact hst) (x := nw.map (·.1)) (by rw [elr_pos om hen2, ← hej, ← hj1, ← hj2, dE, dE, ← iB, hnw]; rfl); rwa [hMl] at this), om⟩, by show rows.length - (j + 1) < rows.length - j; omega⟩
theorem mreduced_runB (rows0 : List X1) (cols w : Nat) (hne : 0 < rows0.length) (ln : rows0.length < 1000000) (hw : Wid w (vX rows0)) (hcw : cols ≤ w) (lw : w < 1000000) (β : Nat) (hβ : β ≤ 268435456) (hgb : GB (vX rows0) cols β) : ∃ r, Run Tryz.prog T E0 (.call 129 [.sl 1 (rows0.map fX), .v (.int .i64 (cols : Int))] r) ∧ ∃ (rows : List X1) (d : X), r = .tup [.sl 1 (rows.map fX), .sl (kd (gjn (vX rows0) cols).2.length) ((gjn (vX rows0) cols).2.map d64), lvX d] ∧ vX rows = (gjn (vX rows0) cols).1 ∧ d.1 = gjd (vX rows0) cols := by
 refine eP Tryz.func129 J J (dL J) ((mreduced_wcB rows0 cols w hne ln hw hcw lw β hβ hgb).mono ?_)
 rintro x e h n ⟨hx, q, rows, d, h1, h2, h3, h4, h5⟩
 refine ⟨.tup [.sl 1 (rows.map fX), .sl (kd (gjn (vX rows0) cols).2.length) ((gjn (vX rows0) cols).2.map d64), lvX d], ⟨rows, d, rfl, h1, h2⟩, ?_⟩
 rw [← iH]
 exact postRO (n := n) hx h3 (by simp) h4 (by show (0 : Nat) ≠ 2; decide) J (by decide) J (cJ (n := 1) (fun _ => rfl)) (bN dfX) h5 (by decide) (cJ (n := 1) (fun _ => rfl)) dB (by simp)
theorem oA (al : List X1) (kb : Nat) (bl : List X) (w : Nat) (hne : 0 < al.length) (ln : al.length < 100000) (hw : ∀ r, r ∈ al → r.2.length = w) (hk : ∀ r, r ∈ al → r.1 = kd r.2.length) (hbl : bl.length = al.length) (hw9 : w ≤ 60) (β : Nat) (hβ : β ≤ 268435456) (hgb : GB (wR (vX al) (bl.map (·.1))) w β) : ∃ r, Run Tryz.prog T E0 (.call 108 [.sl 1 (al.map fX), .sl kb (bl.map xc), .v (.int .i64 (w : Int))] r) ∧ (if nosol (gjn (wR (vX al) (bl.map (·.1))) w) w = true then r = .tup [.v (.int .i64 0), .sl 0 []] else ∃ xs : List X, r = .tup [.v (.int .i64 (solk (gjn (wR (vX al) (bl.map (·.1))) w) w)), .sl 1 (xs.map xc)] ∧ xs.map (·.1) = solv (gjn (wR (vX al) (bl.map (·.1))) w) w (gjn (wR (vX al) (bl.map (·.1))) w).2.length) := by
 refine eP Tryz.func108 J J (dL J) <| Rg 2 J <| Ua J J <| Ua J J <| Wn <| Rg 1 J <| Ua J J <| Wn <| aB <| Rg 3 J <| Um J J <| aA (aZ J J) J <| Um J J <| Wn <| aL <| bB (α := Nat × Nat × (List X1)) (fun ⟨i, q, ds⟩ => [(1, .sl kb (bl.map xc)), (2, .v (.int .i64 (w : Int))), (8, outV q 1 (ds.map fX)), (19, .sl 1 (al.map fX)), (20, .v (.int .i64 (al.length : Int))), (21, .v (.int .i64 (i : Int)))]) (fun ⟨i, q, ds⟩ => outH q 1 104 (ds.map fX) []) (fun ⟨i, q, ds⟩ n => i ≤ al.length ∧ ds = (List.range i).map (wX al bl) ∧ ds.length = i ∧ q < n) (fun ⟨i, q, ds⟩ => al.length - i) (0, 0, []) ⟨J, J, J, J, J, J, trivial⟩ trivial ⟨Nat.zero_le _, rfl, rfl, om⟩ ?_
 rintro ⟨i, q, ds⟩ n hF
 change WC _ _ _ _ _ (_ :: _) (outH _ _ _ _ _) n _
 obtain ⟨hi, hds, hdl, hq⟩ := hF
 refine Rg 1 J <| aA (bR J J) J <| aX (fun h22 => ?_) (fun h22 => ?_)
 ·refine Wn <| aS J <| aF <| aL <| Rg 5 J <| Um J J <| aA (bS J J J J J om J) J <| aA (dH J J J) J <| Ua J J <| Ua J J <| cK ?_
  have hm := bJ (us := al) (i := i) om
  have hrw := hw _ hm
  have hrk := hk _ hm
  have hc0 : ((al.getD i default).2.map xc) = [] → Run Tryz.prog T E0 (.call 128 [.sl (al.getD i default).1 ((al.getD i default).2.map xc)] (.sl 0 [])) := fun h => by
   rw [hrk, xc_nil h]; exact clone1_nil
  have hc1 : ((al.getD i default).2.map xc) ≠ [] → Run Tryz.prog T E0 (.callO 128 [.sl (al.getD i default).1 ((al.getD i default).2.map xc)] (.ref 0 4 0 ((al.getD i default).2.map xc).length) { cells := ((al.getD i default).2.map xc).flatten, sz := 4, elem := 102, st := 0 }) := fun h => by
   have h2 : 0 < (al.getD i default).2.length := by
    rcases Nat.eq_zero_or_pos (al.getD i default).2.length with h3 | h3
    ·exact absurd (by rw [List.length_eq_zero_iff.1 h3]; rfl) h
    ·exact h3
   obtain ⟨_, _, _, h4, rfl, rfl, rfl⟩ := clone1_own (al.getD i default).1 (al.getD i default).2 (by rw [hrk, kd, if_neg om]; decide) h2 om
   rw [List.length_map]; exact h4
  refine oS (z := 12) J kR <| Dm J J <| Dm J J <| WD.callV (us := (al.getD i default).2.map xc) (sz := 4) (el := 102) J hc0 hc1 dD J <| Dm J J <| Dm J J <| aD (bS J J J J J om J) J <| aD (dH (l := .agg [_, _, _, _]) J J J) J <| aD (cQ (cs := [_, _, _, _]) (rows := [[_, _, _, _]]) J J (by decide) J J J) J <| WD.ap (te := ti102) (k0 := 0) (us := (al.getD i default).2.map xc) (rows := [xc (bl.getD i default)]) (.inl J) J J J J J (by decide) (by intro r hr; rw [List.mem_singleton] at hr; subst hr; rfl) (cJ (n := 4) (fun _ => rfl)) (by simp) (by rw [List.length_map, hrw]; show (2 * (w + 1) + 256) * 64 ≤ _; omega) (by rw [List.length_map, hrw]; show w + 1 < _; omega) (aC om J) J <| aD (cQ (cs := [_]) (rows := [[_]]) J J (by decide) J J J) J <| jN _ (outH_swap om) <| WD.ap (te := ti104) (k0 := 0) (us := ds.map fX) (rows := [[_]]) (.inl J) J J J (by rw [jU]; rfl) J (by decide) (by intro r hr; rw [List.mem_singleton] at hr; subst hr; rfl) (cJ (n := 1) (fun _ => rfl)) (by simp) (by rw [List.length_map]; show (2 * (ds.length + 1) + 256) * 24 ≤ _; omega) (by rw [List.length_map]; show ds.length + 1 < _; omega) (g1 om J) J <| aD (iA J) J <| bE (fE (rn n) (by simp only [List.reverse_cons, List.reverse_nil, List.nil_append, List.cons_append, List.map_cons, List.map_nil, ren, Nat.add_assoc, mZ, rn_lt hq]; kernel_rfl)) J <| Fz.rows (d := 8) ds (wX al bl i) (ys := ((al.getD i default).2 ++ [bl.getD i default]).map xc) [(1, _), (2, _), (19, _), (20, _), (21, _)] ⟨J, J, J, J, J, trivial⟩ J (by simp) J om (by simp) (by decide) (by simp) (cJ (n := 4) (fun _ => rfl)) (bN pW) <| aH <| aI (z := 2) J <| aA (cI (((i + 1 : Nat) : Int)) (aP J J om) om) J <| Um J J <| Wn <| aG <| ⟨⟨i + 1, _, ds ++ [wX al bl i]⟩, ⟨J, J, J, J, J, J, trivial⟩, cO, ⟨om, by rw [List.range_succ, List.map_append, hds]; rfl, by simp; omega, om⟩, by show al.length - (i + 1) < al.length - i; omega⟩
 refine Wn <| aT J <| aV <| aR <| aO J ?_
 obtain ⟨d0, dt, rfl⟩ : ∃ d0 dt, ds = d0 :: dt := by
  cases ds with
  | nil => simp at hdl; omega
  | cons d dt => exact ⟨d, dt, rfl⟩
 obtain rfl : i = al.length := by omega
 have hvw : vX (d0 :: dt) = (wR (vX al) (bl.map (·.1))) := by rw [hds]; exact vX_w al bl
 have hwid : Wid (w + 1) (wR (vX al) (bl.map (·.1))) := wR_wid (fun r hr => by obtain ⟨s, hs, rfl⟩ := List.mem_map.1 hr; rw [List.length_map]; exact hw s hs)
 obtain ⟨r, hr, rows, d, rfl, hrows, _⟩ := mreduced_runB (d0 :: dt) w (w + 1) (by simp) om (by rw [hvw]; exact hwid) om om β hβ (by rw [hvw]; exact hgb)
 rw [hvw] at hr hrows
 obtain ⟨_, gw, gl, gc⟩ := hgb.all hwid om w (Nat.le_refl _)
 have hrl : rows.length = al.length := by
  have := congrArg List.length hrows
  rw [cY, nD] at this; simpa [vX] using this
 rw [nD] at gl
 have gl : (gjn (wR (vX al) (bl.map (·.1))) w).2.length ≤ rows.length := by simpa [vX, hrl] using gl
 generalize gjn (wR (vX al) (bl.map (·.1))) w = S at *
 have hwr := wid_vX gw hrows
 refine Rg 11 J <| Um J J <| Um J J <| aY (iY [.sl 1 ((d0 :: dt).map fX), .v (.int .i64 (w : Int))] [(q, { cells := ((d0 :: dt).map fX).flatten, sz := 1, elem := 104, st := 1 })] J hr (.own (ob := { cells := ((d0 :: dt).map fX).flatten, sz := 1, elem := 104, st := 0 }) ((d0 :: dt).map fX) (by simp) g0 (by show (0 : Nat) ≠ 2; decide) J (by decide) (by simp [keys]) J (cJ (n := 1) (fun _ => rfl)) (bN dfX) (.data (.v _) .nil)) (by intro p hp; rw [List.mem_singleton] at hp; subst hp; exact ⟨_, g0, by show (0 : Nat) ≠ 2; decide, rfl⟩)) J <| Um J J <| aA (dF J J) J <| aA (dF J J) J <| aA (dF J J) J <| aY (dU J) J <| Ua J J <| Ua J J <| aU (cA (cs' := [_, _, _, _]) J J J g0 J J J J) <| Nk [2,11,12] J <| aB <| Rg 6 J <| Um J J <| Um J J <| aA (aZ J J) J <| aA (bK (b := .sl 1 ((rows.drop S.2.length).map fX)) (oSlLo (i := S.2.length) J J J (cJ (f := fX) (n := 1) (fun _ => rfl)) J J (by rw [List.length_map]; omega)) (by rw [List.map_drop])) J <| aA (aZ J J) J <| Um J J <| Wn <| aL ?_
 refine bB (α := Nat) (fun i => [(2, .v (.int .i64 (w : Int))), (11, .sl 1 (rows.map fX)), (12, .sl (kd S.2.length) (S.2.map d64)), (48, .sl 1 ((rows.drop S.2.length).map fX)), (49, .v (.int .i64 ((rows.drop S.2.length).length : Int))), (50, .v (.int .i64 (i : Int)))]) (fun i => []) (fun i n => i ≤ (rows.drop S.2.length).length ∧ ∀ k, S.2.length ≤ k → k < S.2.length + i → ent S.1 k w = 0) (fun i => (rows.drop S.2.length).length - i) (0) ⟨J, J, J, J, J, J, trivial⟩ trivial ⟨Nat.zero_le _, by intro k h1 h2; omega⟩ ?_
 rintro i n hF
 change WC _ _ _ _ _ (_ :: _) ([]) n _
 obtain ⟨hi2, hz⟩ := hF
 refine Rg 1 J <| aA (bR J J) J <| aX (fun h51 => ?_) (fun h51 => ?_)
 ·refine Wn <| aS J <| aF <| aL <| Rg 3 J <| aA (bS J J J J J om J) J <| aA (dH J J J) J <| Ua J J <| cK ?_
  have hdm : S.2.length + i < rows.length := by rw [List.length_drop] at h51; omega
  have hrl2 : (((rows.drop S.2.length).getD i default).2).length = w + 1 := by rw [dropD]; exact hwr _ (bJ hdm)
  have he : ent S.1 (S.2.length + i) w = (((rows.drop S.2.length).getD i default).2.getD w default).1 := by rw [← hrows, ent_vX hdm, dropD]
  refine Rg 6 J <| Um J J <| Um J J <| aA (bS (j := w) J J J J om om J) J <| aA (dH (l := .agg [_, _, _, _]) J J J) J <| aA (aJ J (gP (((rows.drop S.2.length).getD i default).2.getD w default)) dD) J <| aA (dZ J J) J <| aX (fun h59 => ?_) (fun h59 => ?_)
  ·refine Nk [2,11,12,48,49,50,59] J <| bW J <| Rg 2 J <| Ua J J <| Ua J J <| Wn <| aN <| aW <| bY <| aW ?_
   have hsl : S.1.length = rows.length := by rw [← hrows]; simp [vX]
   have hns : nosol S w = true := nosol_yes (k := S.2.length + i) om om (by rw [he]; intro h0; exact h59 (fH.2 h0))
   exact ⟨.tup [.v (.int .i64 0), .sl 0 []], by rw [if_pos hns], post (n := 0) (.inr J) J J dD⟩
  refine Nk [2,11,12,48,49,50,59] J <| bZ J <| cV <| aH <| aI (z := 2) J <| aA (cI (((i + 1 : Nat) : Int)) (aP J J om) om) J <| Um J J <| Wn <| aG <| ⟨i + 1, ⟨J, J, J, J, J, J, trivial⟩, trivial, ⟨om, fun k h1 h2 => ?_⟩, by show (rows.drop S.2.length).length - (i + 1) < (rows.drop S.2.length).length - i; omega⟩
  by_cases hk : k < S.2.length + i
  ·exact hz k h1 hk
  ·obtain rfl : k = S.2.length + i := by omega
   rw [he]; exact fH.1 om
 refine Wn <| aT J <| aV <| aR <| aO J ?_
 have hns : nosol S w = false := by
  have hsl : S.1.length = rows.length := by rw [← hrows]; simp [vX]
  rw [List.length_drop] at h51 hi2
  exact nosol_no om (fun k h1 h2 => hz k h1 om)
 refine Rg 3 J <| Um J J <| aY (oMk (a := w) (b := w) J J J J om om (by decide) om (by show 64 * w ≤ _; omega) om) J <| Ua J J <| Wn <| aB <| Rg 3 J <| Um J J <| aA (aZ J J) J <| Um J J <| Wn <| aL <| bB (α := Nat × Nat × (List X)) (fun ⟨i, q2, xs⟩ => [(2, .v (.int .i64 (w : Int))), (11, .sl 1 (rows.map fX)), (12, .sl (kd S.2.length) (S.2.map d64)), (16, .ref q2 4 0 w), (63, .sl (kd S.2.length) (S.2.map d64)), (64, .v (.int .i64 (S.2.length : Int))), (65, .v (.int .i64 (i : Int)))]) (fun ⟨i, q2, xs⟩ => [(q2, { cells := (xs.map xc).flatten, sz := 4, elem := 102, st := 0 })]) (fun ⟨i, q2, xs⟩ n => i ≤ S.2.length ∧ xs.length = w ∧ xs.map (·.1) = solv S w i) (fun ⟨i, q2, xs⟩ => S.2.length - i) (0, _, List.replicate w x0) ⟨J, J, J, J, J, J, J, trivial⟩ ⟨g0.trans (by rw [List.map_replicate]; rfl), trivial⟩ ⟨Nat.zero_le _, by simp, by rw [List.map_replicate]; rfl⟩ ?_
 rintro ⟨i, q2, xs⟩ n hF
 change WC _ _ _ _ _ (_ :: _) (_ :: _) n _
 obtain ⟨hi4, hxl, hxs⟩ := hF
 refine Rg 1 J <| aA (bR J J) J <| aX (fun h66 => ?_) (fun h66 => ?_)
 ·refine Wn <| aS J <| aF <| aL <| Rg 5 J <| Um J J <| aA (bS J J J J J om J) J <| aA (dH J J J) J <| Ua J J <| Ua J J <| cK ?_
  have hld := gc _ (bJ (us := S.2) (i := i) om)
  have hrl4 : ((rows.getD i default).2).length = w + 1 := hwr _ (bJ om)
  have he4 : ent S.1 i w = ((rows.getD i default).2.getD w default).1 := by rw [← hrows, ent_vX om]
  refine aI (z := 11) J <| Um J J <| Um J J <| Um J J <| Um J J <| aA (bS J J J J J om J) J <| aA (dH J J J) J <| Um J J <| aA (bS (j := w) J J J J om om J) J <| aA (dH (l := .agg [_, _, _, _]) J J J) J <| aA (cH J J J J J om J) J <| aU (eE (f := xc) (us := xs) ((rows.getD i default).2.getD w default) J J J g0 (fun _ => rfl) J J om J) <| Wn <| aH <| Ck [2,11,12,16,63,64,65] J <| aI (z := 2) J <| aA (cI (((i + 1 : Nat) : Int)) (aP J J om) om) J <| Um J J <| Wn <| aG <| ⟨⟨i + 1, _, xs.set (S.2.getD i default) ((rows.getD i default).2.getD w default)⟩, ⟨J, J, J, J, J, J, J, trivial⟩, ⟨g0, trivial⟩, ⟨om, by rw [List.length_set]; exact hxl, ?_⟩, by show S.2.length - (i + 1) < S.2.length - i; omega⟩
  rw [List.map_set, hxs, solv, he4]
 refine Wn <| aT J <| aV <| aR <| aO J <| aB ?_
 have hxs' : xs.map (·.1) = solv S w S.2.length := by rw [hxs, show i = S.2.length by omega]
 refine Rg 4 J <| Um J J <| aA (aZ J J) J <| Um J J <| aA (bR J J) J <| aX (fun h84 => ?_) (fun h84 => ?_)
 ·refine Wn <| aS J <| aB <| Rg 3 J <| Um J J <| Ua J J <| Ua J J <| Nk [6,7] J <| bA <| ⟨.tup [.v (.int .i64 2), .sl 1 (xs.map xc)], by rw [if_neg (by rw [hns]; decide)]; exact ⟨xs, by unfold solk; rw [if_pos om], hxs'⟩, ?_⟩
  exact lL (n := 0) [(q2, { cells := (xs.map xc).flatten, sz := 4, elem := 102, st := 1 })] (.inr J) J (.data (.v _) (.own (ob := { cells := (xs.map xc).flatten, sz := 4, elem := 102, st := 0 }) _ (by rw [List.length_map, hxl]) g0 (by show (0 : Nat) ≠ 2; decide) J (by decide) (List.mem_singleton.2 J) J (cJ (n := 4) (fun _ => rfl)) (bN pW) .nil)) (by intro p hp; rw [List.mem_singleton] at hp; subst hp; exact ⟨_, g0, by show (0 : Nat) ≠ 2; decide, rfl⟩)
 refine Wn <| aT J <| aF <| Rg 3 J <| Um J J <| Ua J J <| Ua J J <| Nk [6,7] J <| aN <| ⟨.tup [.v (.int .i64 1), .sl 1 (xs.map xc)], by rw [if_neg (by rw [hns]; decide)]; exact ⟨xs, by unfold solk; rw [if_neg om], hxs'⟩, ?_⟩
 exact lL (n := 0) [(q2, { cells := (xs.map xc).flatten, sz := 4, elem := 102, st := 1 })] (.inr J) J (.data (.v _) (.own (ob := { cells := (xs.map xc).flatten, sz := 4, elem := 102, st := 0 }) _ (by rw [List.length_map, hxl]) g0 (by show (0 : Nat) ≠ 2; decide) J (by decide) (List.mem_singleton.2 J) J (cJ (n := 4) (fun _ => rfl)) (bN pW) .nil)) (by intro p hp; rw [List.mem_singleton] at hp; subst hp; exact ⟨_, g0, by show (0 : Nat) ≠ 2; decide, rfl⟩)
end Go.Proofs.YtahljdjhhapngaaGreat
namespace Go.Proofs.YtahljdjhhapngaaGreat
open Go.Ab Go.RowKit
theorem mean_run (c : CH) (kv : Nat) (vx : List X) (n0 : Nat) (hc : VB n0 c.2.2) (hl : vx.length = n0) (β : Nat) (h1β : 1 ≤ β) (hβ : β ≤ 2147483648) (hv : ∀ x, x ∈ vx → Bd β x.1) : Run Tryz.prog T E0 (.call 113 [lvC c, .sl kv (vx.map xc)] (lvX (xmean c.2.2 vx c.2.2.length))) := by
 have hcl := hc.len
 refine bI Tryz.func113 J J (dL J) <| Rg 2 J <| aY (dY J J) J <| aY (dU J) J <| Wn <| Rg 1 J <| aY (dU J) J <| Wn <| aB <| Rg 4 J <| aA (bD J J J J J) J <| aA (aM J J gG J J) J ?_
 refine aA (aZ J J) J <| Um J J <| Wn <| aL <| bB (α := Nat) (fun i => [(1, .sl kv (vx.map xc)), (4, .ptr (0 + 1) 0), (5, .ptr (0 + 2) 0), (9, .sl c.2.1 (c.2.2.map brc)), (10, .v (.int .i64 (c.2.2.length : Int))), (11, .v (.int .i64 (i : Int)))]) (fun i => [((0 + 2), { cells := xc ((xmean c.2.2 vx i)), sz := 4, elem := (102), st := 0 }), ((0 + 1), { cells := xc (x0), sz := 4, elem := (102), st := 0 })]) (fun i n => i ≤ c.2.2.length ∧ 4 ≤ n) (fun i => c.2.2.length - i) (0) ⟨J, J, J, J, J, J, trivial⟩ ⟨gG, gG, trivial⟩ ⟨Nat.zero_le _, om⟩ ?_
 rintro i n hF
 change WC _ _ _ _ _ (_ :: _) (_ :: _) n _
 obtain ⟨hi, hn⟩ := hF
 refine Rg 1 J <| aA (bR J J) J <| aX (fun h12 => ?_) (fun h12 => ?_)
 rotate_left
 ·refine Wn <| aT J <| aV <| aR <| aO J <| Rg 2 J <| aA (aM (l := lvX (xmean c.2.2 vx i)) J J gG J J) J ?_
  refine aU (cA (cs' := xc (xmean c.2.2 vx i)) J J J gG J J J J) ?_
  refine Wn <| aN ?_
  have hin : i = c.2.2.length := by omega
  rw [← hin]
  refine post (n := 0) (.inr J) J ?_ dD
  rfl
 refine Wn <| aS J <| aF <| aL ?_
 have hto := hc.to i om
 have hvn := hc.vn i om
 have hi3 := hvn.all3
 have hm1 := oR hc h1β hv i hi
 have hm2 : i * (β + 3) ≤ 8 * (β + 3) := Nat.mul_le_mul_right _ om
 have hg := kK h1β hv (c.2.2.getD i default).1.toNat
 refine Rg 4 J <| aA (bS J J J J J om J) J <| aA (dH (l := .agg (brc (c.2.2.getD i default))) J J J) J <| aY (dU J) J <| aU (cA (cs' := brc (c.2.2.getD i default)) J J J g0 J J J J) <| Wn <| dN (z := 12) J kR <| aD (aM (l := lvX (xmean c.2.2 vx i)) J J gG J J) J ?_
 refine aD (bD J J J J J) J <| aD (aM (l := lvM (c.2.2.getD i default).2) J J gG J J) J ?_
 refine aD (bK (b := lvX (nx (c.2.2.getD i default).2)) (aJ J (eR (c.2.2.getD i default).2 hi3.1 hi3.2.1 hi3.2.2) dD) J) J <| Dm J J <| aD (bD J J J J J) J <| aD (aM J J gG J J) J ?_
 refine aD (bS (j := (c.2.2.getD i default).1.toNat) J J J J om om J) J <| aD (dH (l := lvX (vx.getD (c.2.2.getD i default).1.toNat default)) J J J) J <| aD (aJ J (jA (nx (c.2.2.getD i default).2) (vx.getD (c.2.2.getD i default).1.toNat default) (hvn.bd.mono om) (hg.mono om)) dD) J <| aD (bK (b := lvX (xmean c.2.2 vx (i + 1))) (aJ J (iZ (xmean c.2.2 vx i) (xmul (nx (c.2.2.getD i default).2) (vx.getD (c.2.2.getD i default).1.toNat default)) (hm1.mono om) ((hvn.bd.mul hg).mono om)) dD) J) J <| bX (cA (cs' := xc (xmean c.2.2 vx (i + 1))) J J J gG J J J J) ?_
 refine bE (aQ kR) J <| aH <| Ck [1,4,5,9,10,11] J <| aI (z := 2) J <| aA (cI (((i + 1 : Nat) : Int)) (aP J J om) om) J <| Um J J <| Wn <| aG <| ⟨i + 1, ⟨J, J, J, J, J, J, trivial⟩, ⟨gG, gG, trivial⟩, ⟨om, om⟩, by show c.2.2.length - (i + 1) < c.2.2.length - i; omega⟩
theorem mM (c : CH) (d : X) (kv : Nat) (vx : List X) (n0 : Nat) (hr : VN c.1) (hc : VB n0 c.2.2) (hd : Bd 2 d.1) (hl : vx.length = n0) (β : Nat) (h1β : 1 ≤ β) (hβ : β ≤ 2147483648) (hv : ∀ x, x ∈ vx → Bd β x.1) : Run Tryz.prog T E0 (.call 80 [lvC c, lvX d, .sl kv (vx.map xc)] (lvX (xyl c d vx))) := by
 have hcl := hc.len
 have hi3 := hr.all3
 have hm1 := oR hc h1β hv c.2.2.length (Nat.le_refl _)
 have hm2 : c.2.2.length * (β + 3) ≤ 8 * (β + 3) := Nat.mul_le_mul_right _ om
 refine bI Tryz.func80 J J (dL J) <| Rg 3 J <| aY (dY J J) J <| aY (dY J J) J <| aY (dU J) J <| Wn <| bG (z := 10) J kR <| aD (bD J J J J J) J <| aD (aM (l := lvM c.1) J J gG J J) J ?_
 refine aD (bK (b := lvX (nx c.1)) (aJ J (eR c.1 hi3.1 hi3.2.1 hi3.2.2) dD) J) J <| aD (aM (l := lvX d) J J gG J J) J ?_
 refine aD (aM (l := lvC c) J J gG J J) J ?_
 refine Dm J J <| aD (aJ J (mean_run c kv vx n0 hc hl β h1β hβ hv) (bO (by intro c hc; simp only [List.mem_cons, List.not_mem_nil, or_false] at hc; rcases hc with rfl | rfl; exact lQ; exact (.sl _ _ fun row hr => bN pW row hr)))) J <| aD (aJ J (jA d (xmean c.2.2 vx c.2.2.length) (hd.mono om) (hm1.mono om)) dD) J <| aD (bK (b := lvX (xyl c d vx)) (aJ J (iZ (nx c.1) (xmul d (xmean c.2.2 vx c.2.2.length)) (hr.bd.mono om) ((hd.mul hm1).mono om)) dD) J) J <| bX (cA (cs' := xc (xyl c d vx)) J J J gG J J J J) ?_
 refine bE (aQ kR) J <| Ck [6] J <| aN <| post (n := 0) (.inr J) J ?_ dD
 rfl
theorem wants1_run (a b : X) (ha : Bd 34359738368 a.1) (hb : Bd 34359738368 b.1) : Run Tryz.prog T E0 (.call 122 [lvX a, lvX b] (.v (.int .i64 (b.1 - a.1).num.sign))) := by
 refine bI Tryz.func122 J J (dL J) <| Rg 3 J <| aY (dY J J) J <| aY (dY J J) J <| Ua J J <| Wn <| Rg 4 J <| aA (aM (l := lvX b) J J gG J J) J ?_
 refine aA (aM (l := lvX a) J J gG J J) J ?_
 refine aA (aJ J (jW b a hb ha) dD) J <| Ua J J <| Wn <| aN <| post (n := 0) (.inr J) J ?_ dD
 rfl
theorem wants_run (pl : Int) : Run Tryz.prog T E0 (.call 98 [.v (.int .i64 pl)] (.fn (.func (if pl = 1 then 122 else 76)) [] [])) := by
 refine bI Tryz.func98 J J (dL J) <| Rg 1 J <| Ua J J <| Wn <| Rg 1 J <| Um J J <| Wn <| cR <| Rg 2 J <| aA (eY J J) J <| aX (fun h5 => ?_) (fun h5 => ?_)
 ·refine Ua J J <| Wn <| bW J <| Rg 1 J <| Ua J J <| Wn <| aN <| fB ?_
  rw [if_pos (show pl = 1 by omega)]
  refine post (n := 0) (.inr J) J ?_ dD
  rfl
 refine Ua J J <| Wn <| bZ J <| Rg 1 J <| Ua J J <| Wn <| aN <| fB ?_
 rw [if_neg (show ¬ pl = 1 by omega)]
 refine post (n := 0) (.inr J) J ?_ dD
 rfl
theorem cmpf_run (pl : Int) (a b : X) (ha : Bd 34359738368 a.1) (hb : Bd 34359738368 b.1) : Run Tryz.prog T E0 (.call (if pl = 1 then 122 else 76) [lvX a, lvX b] (.v (.int .i64 (sgnF pl a.1 b.1)))) := by
 unfold sgnF
 by_cases h : pl = 1
 ·rw [if_pos h, if_pos h]; exact wants1_run a b ha hb
 ·rw [if_neg h, if_neg h]; exact jW a b ha hb
end Go.Proofs.YtahljdjhhapngaaGreat
namespace Go.Proofs.YtahljdjhhapngaaGreat
open Go.Ab Go.RowKit
theorem lG (n0 : Nat) (H : Hp) (k kv : Nat) (ss : List Go.Ab.ST) (d : X) (vx : List X) (st : List Int) (pl : Int) (qs : Nat) (hnd : subsM H H) (hlt : ∀ q o, getH H q = some o → q < n0) (hq : getH H qs = some { cells := ((st).map ic).flatten, sz := 1, elem := (3), st := 0 }) (hV : VMo ss = true) (hd : Bd 2 d.1) (hl : vx.length = ss.length) (hst : st.length = ss.length) (β : Nat) (h1β : 1 ≤ β) (hβ : β ≤ 2147483648) (hv : ∀ x, x ∈ vx → Bd β x.1) : WC Tryz.prog T E0 Tryz.f97.ntmps (codeOf Tryz.f97) (argsEnv 0 [lvMo k ss, lvX d, .sl kv (vx.map xc), .ref qs 1 0 ss.length, .v (.int .i64 pl)]) H n0 (fun x e' h' n' => (x = .normal ∨ x = .ret) ∧ n0 ≤ n' ∧ ((resE e' T h' Tryz.f97.results.toList = some [.v (.bool false)] ∧ NoImp ss d.1 pl (vl vx) ∧ ∀ q o, getH H q = some o → getH h' q = some o) ∨ ∃ i j, resE e' T h' Tryz.f97.results.toList = some [.v (.bool true)] ∧ i < ss.length ∧ (ss.getD i default).1.1 = pl ∧ j < (ss.getD i default).2.2.length ∧ btr pl (yl d.1 (ch ss i j) (vl vx)) (vl vx i) ∧ getH h' qs = some { cells := ((st.set i (j : Int)).map ic).flatten, sz := 1, elem := (3), st := 0 } ∧ ∀ q o, q ≠ qs → getH H q = some o → getH h' q = some o)) := by
 have hV1 := kW hV
 have hn40 := hV1.wt.len
 have hql := hlt qs _ hq
 change WC _ _ _ _ _ [(0, lvMo k ss), (1, lvX d), (2, .sl kv (vx.map xc)), (3, .ref qs 1 0 ss.length), (4, .v (.int .i64 pl))] _ _ _
 refine Rg 3 J <| aY (dY J J) J <| aY (dY J J) J <| Ua J J <| Wn <| Rg 3 J <| Um J J <| aA (aJ J (wants_run pl) (bO (by intro c hc; simp only [List.mem_cons, List.not_mem_nil, or_false] at hc; rcases hc with rfl; exact .v _))) J <| Ua J J <| Wn <| aB <| Rg 4 J <| aA (bD J J J J J) J <| aA (aM J J gG J J) J ?_
 refine aA (aZ J J) J <| Um J J <| Nk [2,3,4,6,11,19,20,21] J <| aL <| bB (α := Nat) (fun i => [(2, .sl kv (vx.map xc)), (3, .ref qs 1 0 ss.length), (4, .v (.int .i64 pl)), (6, .ptr (n0 + 1) 0), (11, .fn (.func (if pl = 1 then 122 else 76)) [] []), (19, .sl k (ss.map stc)), (20, .v (.int .i64 (ss.length : Int))), (21, .v (.int .i64 (i : Int)))]) (fun i => (n0 + 1, { cells := xc (d), sz := 4, elem := (102), st := 0 }) :: H) (fun i n => i ≤ ss.length ∧ (∀ a, a < i → (ss.getD a default).1.1 = pl → ∀ b, b < (ss.getD a default).2.2.length → ¬ btr pl (yl d.1 (ch ss a b) (vl vx)) (vl vx a)) ∧ n0 + 3 ≤ n) (fun i => ss.length - i) (0) ⟨J, J, J, J, J, J, J, J, trivial⟩ ⟨gG, cS hnd (by intro q o hq'; have := hlt q o hq'; repeat (first | exact hq' | refine g1 om ?_))⟩ ⟨Nat.zero_le _, fun a ha => absurd ha om, om⟩ ?_
 rintro i n hF
 change WC _ _ _ _ _ [(2, .sl kv (vx.map xc)), (3, .ref qs 1 0 ss.length), (4, .v (.int .i64 pl)), (6, .ptr (n0 + 1) 0), (11, .fn (.func (if pl = 1 then 122 else 76)) [] []), (19, .sl k (ss.map stc)), (20, .v (.int .i64 (ss.length : Int))), (21, .v (.int .i64 (i : Int)))] ((n0 + 1, { cells := xc (d), sz := 4, elem := (102), st := 0 }) :: H) n _
 obtain ⟨hi, hA, hn⟩ := hF
 refine Rg 1 J <| aA (bR J J) J <| aX (fun h22 => ?_) (fun h22 => ?_)
 rotate_left
 ·refine Wn <| aT J <| aV <| aR <| aO J <| Rg 1 J <| Ua J J <| Wn <| aN <| ⟨.inr J, om, .inl ⟨rfl, fun a ha ho b hb => hA a om ho b hb, (by intro q o hq'; have := hlt q o hq'; repeat (first | exact hq' | refine g1 om ?_))⟩⟩
 refine Wn <| aS J <| aF <| aL ?_
 have hm := bJ (us := ss) (i := i) om
 have hcl := hV1.cs _ hm
 refine Rg 6 J <| Um J J <| aA (bS J J J J J om J) J <| aA (dH (l := .agg (stc (ss.getD i default))) J J J) J <| aY (dU J) J <| Ua J J <| aU (cA (cs' := stc (ss.getD i default)) J J J g0 J J J J) <| Wn <| aB <| Rg 4 J <| aA (bD J J J J J) J <| aA (aM J J gG J J) J ?_
 refine Um J J <| aA (dZ J J) J <| aX (fun h29 => ?_) (fun h29 => ?_)
 ·refine Nk [2,3,4,6,11,12,13,19,20,21,29] J <| aS J <| aV <| aO J <| aI (z := 2) J <| aA (cI (((i + 1 : Nat) : Int)) (aP J J om) om) J <| Um J J <| Wn <| aG <| ⟨i + 1, ⟨J, J, J, J, J, J, J, J, trivial⟩, ⟨gG, cS hnd (by intro q o hq'; have := hlt q o hq'; repeat (first | exact hq' | refine g1 om ?_))⟩, ⟨om, fun a ha ho => ?_, om⟩, by show ss.length - (i + 1) < ss.length - i; omega⟩
  by_cases e : a = i
  ·subst e; exact absurd ho om
  ·exact hA a om ho
 refine Nk [2,3,4,6,11,12,13,19,20,21,29] J <| aT J <| aF <| Rg 4 J <| aA (bD J J J J J) J <| aA (aM J J gG J J) J ?_
 refine aA (aZ J J) J <| Um J J <| Nk [2,3,4,6,11,12,19,20,21,31,32,33] J <| cR <| bB (α := Nat) (fun j => [(2, .sl kv (vx.map xc)), (3, .ref qs 1 0 ss.length), (4, .v (.int .i64 pl)), (6, .ptr (n0 + 1) 0), (11, .fn (.func (if pl = 1 then 122 else 76)) [] []), (12, .v (.int .i64 (i : Int))), (19, .sl k (ss.map stc)), (20, .v (.int .i64 (ss.length : Int))), (21, .v (.int .i64 (i : Int))), (31, .sl (ss.getD i default).2.1 ((ss.getD i default).2.2.map chc)), (32, .v (.int .i64 ((ss.getD i default).2.2.length : Int))), (33, .v (.int .i64 (j : Int)))]) (fun j => (n0 + 1, { cells := xc (d), sz := 4, elem := (102), st := 0 }) :: H) (fun j n => j ≤ (ss.getD i default).2.2.length ∧ (∀ b, b < j → ¬ btr pl (yl d.1 (ch ss i b) (vl vx)) (vl vx i)) ∧ n0 + 3 ≤ n) (fun j => (ss.getD i default).2.2.length - j) (0) ⟨J, J, J, J, J, J, J, J, J, J, J, J, trivial⟩ ⟨gG, cS hnd (by intro q o hq'; have := hlt q o hq'; repeat (first | exact hq' | refine g1 om ?_))⟩ ⟨Nat.zero_le _, fun a ha => absurd ha om, om⟩ ?_
 rintro j n hF
 change WC _ _ _ _ _ [(2, .sl kv (vx.map xc)), (3, .ref qs 1 0 ss.length), (4, .v (.int .i64 pl)), (6, .ptr (n0 + 1) 0), (11, .fn (.func (if pl = 1 then 122 else 76)) [] []), (12, .v (.int .i64 (i : Int))), (19, .sl k (ss.map stc)), (20, .v (.int .i64 (ss.length : Int))), (21, .v (.int .i64 (i : Int))), (31, .sl (ss.getD i default).2.1 ((ss.getD i default).2.2.map chc)), (32, .v (.int .i64 ((ss.getD i default).2.2.length : Int))), (33, .v (.int .i64 (j : Int)))] ((n0 + 1, { cells := xc (d), sz := 4, elem := (102), st := 0 }) :: H) n _
 obtain ⟨hj, hB, hn2⟩ := hF
 refine Rg 1 J <| aA (bR J J) J <| aX (fun h34 => ?_) (fun h34 => ?_)
 rotate_left
 ·refine Wn <| aT J <| aV <| aR <| kY J <| aH <| aI (z := 2) J <| aA (cI (((i + 1 : Nat) : Int)) (aP J J om) om) J <| Um J J <| Wn <| aG <| ⟨i + 1, ⟨J, J, J, J, J, J, J, J, trivial⟩, ⟨gG, cS hnd (by intro q o hq'; have := hlt q o hq'; repeat (first | exact hq' | refine g1 om ?_))⟩, ⟨om, fun a ha ho b hb => ?_, om⟩, by show ss.length - (i + 1) < ss.length - i; omega⟩
  by_cases e : a = i
  ·subst e; exact hB b om
  ·exact hA a om ho b hb
 refine Wn <| aS J <| aF <| aL ?_
 have hmc := bJ (us := (ss.getD i default).2.2) (i := j) om
 obtain ⟨hrw, hvb⟩ := jI hV hm hmc
 have hyb := xyl_bd hrw hvb hd h1β hv
 have hgb := kK h1β hv i
 refine Rg 6 J <| Um J J <| aA (bS J J J J J om J) J <| aA (dH (l := lvC ((ss.getD i default).2.2.getD j default)) J J J) J <| aY (dU J) J <| Ua J J <| aU (cA (cs' := chc ((ss.getD i default).2.2.getD j default)) J J J g0 J J J J) <| Nk [2,3,4,6,11,12,14,15,19,20,21,31,32,33] J <| bG (z := 11) J kR <| Dm J J <| aD (aM (l := lvC ((ss.getD i default).2.2.getD j default)) J J g0 J J) J <| aD (aM (l := lvX d) J J gG J J) J ?_
 refine Dm J J <| aD (aJ J (mM ((ss.getD i default).2.2.getD j default) d kv vx ss.length hrw hvb hd hl β h1β hβ hv) (bO (by intro c hc; simp only [List.mem_cons, List.not_mem_nil, or_false] at hc; rcases hc with rfl | rfl | rfl; exact lQ; exact lQ; exact (.sl _ _ fun row hr => bN pW row hr)))) J <| Dm J J <| Dm J J <| aD (bS (j := i) J J J J om om J) J <| aD (dH (l := lvX (vx.getD i default)) J J J) J <| aD (oCallVD J J (cmpf_run pl (xyl ((ss.getD i default).2.2.getD j default) d vx) (vx.getD i default) (hyb.mono om) (hgb.mono om)) (data3 d0 (by intro c hc; simp only [List.mem_cons, List.not_mem_nil, or_false] at hc; rcases hc with rfl | rfl; exact lQ; exact lQ) d0)) J <| aD (eJ J J) J <| rK (fun h48 => ?_) (fun h48 => ?_)
 rotate_left
 ·refine bE (aQ kR) J <| Ck [2,3,4,6,11,12,14,19,20,21,31,32,33,48] J <| bZ J <| cV <| aH <| aI (z := 2) J <| aA (cI (((j + 1 : Nat) : Int)) (aP J J om) om) J <| Um J J <| Wn <| aG <| ⟨j + 1, ⟨J, J, J, J, J, J, J, J, J, J, J, J, trivial⟩, ⟨gG, cS hnd (by intro q o hq'; have := hlt q o hq'; repeat (first | exact hq' | refine g1 om ?_))⟩, ⟨om, fun b hb => ?_, om⟩, by show (ss.getD i default).2.2.length - (j + 1) < (ss.getD i default).2.2.length - j; omega⟩
  by_cases e : b = j
  ·subst e; exact fun hb2 => h48 (oL.2 (by rw [xyl_v, jK]; exact hb2))
  ·exact hB b om
 refine bE (aQ kR) J <| Ck [2,3,4,6,11,12,14,19,20,21,31,32,33,48] J <| bW J <| Rg 5 J <| Um J J <| Um J J <| Um J J <| aA (cH (j := i) J J J J om om J) J <| aU (eE (f := ic) (us := st) (j : Int) J J J (by have := hlt qs _ hq; repeat (first | exact hq | refine g1 om ?_)) (fun _ => rfl) J J om J) ?_
 refine Nk [] J <| Rg 1 J <| Ua J J <| Wn <| aN <| aW <| bY <| fB <| aW <| bY <| aW <| ⟨.inr J, om, .inr ⟨i, j, rfl, om, om, om, by have := oL.1 h48; rwa [xyl_v, jK] at this, g0, fun q o hne hq' => ?_⟩⟩
 have := hlt q o hq'
 repeat (first | exact hq' | refine g1 om ?_)
end Go.Proofs.YtahljdjhhapngaaGreat
namespace Go.Proofs.YtahljdjhhapngaaGreat
open Go.Ab Go.RowKit
theorem worth_share (n0 : Nat) (H : Hp) (k : Nat) (ss : List Go.Ab.ST) (d : X) (st : List Int) (qs : Nat) (hnd : subsM H H) (hlt : ∀ q o, getH H q = some o → q < n0) (hq : getH H qs = some { cells := ((st).map ic).flatten, sz := 1, elem := (3), st := 0 }) (hV : VMo ss = true) (hd : Bd 2 d.1) (hd0 : 0 < d.1) (hd1 : d.1 < 1) (hst : vSt ss st = true) : WC Tryz.prog T E0 Tryz.f71.ntmps (codeOf Tryz.f71) (argsEnv 0 [lvMo k ss, lvX d, .ref qs 1 0 ss.length]) H n0 (fun x e' h' n' => (x = .normal ∨ x = .ret) ∧ n0 ≤ n' ∧ ∃ xs : List X, resE e' T h' Tryz.f71.results.toList = some [.sl 1 (xs.map xc)] ∧ xs.length = ss.length ∧ WV ss d.1 st (vl xs) ∧ (∀ x, x ∈ xs → Bd 268435456 x.1) ∧ ∀ q o, getH H q = some o → getH h' q = some o) := by
 have hV1 := kW hV
 have hn40 := hV1.wt.len
 have hpos := hV1.pos
 have hsl := gU hst
 have hD := iP hV hd0 hd1
 have hql := hlt qs _ hq
 have hfr : ∀ q, n0 ≤ q → getH H q = none := fun q hq => by
  cases h : getH H q with
  | none => rfl
  | some o => have := hlt q o h; omega
 change WC _ _ _ _ _ [(0, lvMo k ss), (1, lvX d), (2, .ref qs 1 0 ss.length)] _ _ _
 refine Rg 3 J <| aY (dY J J) J <| aY (dY J J) J <| Ua J J <| Wn <| Rg 4 J <| aA (bD J J J J J) J <| aA (aM J J gG J J) J ?_
 refine aA (aZ J J) J <| Ua J J <| Wn <| Rg 1 J <| Ua J J <| Wn <| Rg 1 J <| Ua J J <| Wn <| aB <| Rg 4 J <| aA (bD J J J J J) J <| aA (aM J J gG J J) J ?_
 refine aA (aZ J J) J <| Um J J <| Nk [2,4,7,8,9,22,23,24] J <| aL <| bB (α := Nat × Nat × Nat × (List X1) × (List X)) (fun ⟨i, qa, qb, al, bl⟩ => [(2, .ref qs 1 0 ss.length), (4, .ptr (n0 + 1) 0), (7, .v (.int .i64 (ss.length : Int))), (8, outV qa 1 (al.map fX)), (9, outV qb 4 (bl.map xc)), (22, .sl k (ss.map stc)), (23, .v (.int .i64 (ss.length : Int))), (24, .v (.int .i64 (i : Int)))]) (fun ⟨i, qa, qb, al, bl⟩ => outH qa 1 104 (al.map fX) (outH qb 4 102 (bl.map xc) ((n0 + 1, { cells := xc (d), sz := 4, elem := (102), st := 0 }) :: H))) (fun ⟨i, qa, qb, al, bl⟩ n => i ≤ ss.length ∧ al.length = i ∧ bl.length = i ∧ (∀ a, a < i → RowOk ss.length d.1 (ch ss a (st.getD a default).toNat).2.2 a ((al.getD a default).2.map (·.1)) ∧ (al.getD a default).1 = kd (al.getD a default).2.length ∧ (bl.getD a default).1 = nq (ch ss a (st.getD a default).toNat).1) ∧ (∀ r, r ∈ al → ∀ x, x ∈ r.2 → Bd 8 x.1) ∧ (∀ x, x ∈ bl → Bd 8 x.1) ∧ n0 + 1 < qa ∧ n0 + 1 < qb ∧ qa ≠ qb ∧ qa < n ∧ qb < n ∧ n0 + 6 ≤ n) (fun ⟨i, qa, qb, al, bl⟩ => ss.length - i) (0, n0 + 2, n0 + 3, [], []) ⟨J, J, J, J, J, J, J, J, trivial⟩ ⟨gG, cS hnd (by intro q o hq'; have := hlt q o hq'; repeat (first | exact hq' | refine g1 om ?_))⟩ ⟨Nat.zero_le _, rfl, rfl, fun a ha => absurd ha om, by simp, by simp, om, om, om, om, om, om⟩ ?_
 rintro ⟨i, qa, qb, al, bl⟩ n hF
 change WC _ _ _ _ _ (_ :: _) (outH _ _ _ _ _) n _
 obtain ⟨hi, hal, hbl, hrows, hba, hbb, hqa, hqb, hqab, hqa3, hqb3, hn⟩ := hF
 obtain ⟨nK, hnK⟩ : ∃ z, z = n := ⟨n, rfl⟩
 subst hnK
 refine Rg 1 J <| aA (bR J J) J <| aX (fun h25 => ?_) (fun h25 => ?_)
 rotate_left
 ·refine Wn <| aT J <| aV <| aR <| aO J ?_
  obtain ⟨a0, at', rfl⟩ : ∃ a t, al = a :: t := by
   cases al with
   | nil => simp at hal; omega
   | cons a t => exact ⟨a, t, rfl⟩
  obtain ⟨b0, bt, rfl⟩ : ∃ a t, bl = a :: t := by
   cases bl with
   | nil => simp at hbl; omega
   | cons a t => exact ⟨a, t, rfl⟩
  obtain rfl : i = ss.length := by omega
  obtain ⟨hg1, _, hns, hsvl, hwv, hsb⟩ := worth_sys hD hn40 hst (A := vX (a0 :: at')) (b := (b0 :: bt).map (·.1)) (by rw [dA]; exact hal) (by rw [List.length_map]; exact hbl) (fun a ha => by rw [dE]; exact (hrows a ha).1) (fun a ha => by show fn_ ((b0 :: bt).map (·.1)) a = _; exact (jK (b0 :: bt) a).symm.trans (hrows a ha).2.2) (fun r hr x hx => by obtain ⟨y, hy, rfl⟩ := List.mem_map.1 hr; obtain ⟨z, hz, rfl⟩ := List.mem_map.1 hx; exact hba y hy z hz) (fun x hx => by obtain ⟨y, hy, rfl⟩ := List.mem_map.1 hx; exact hbb y hy)
  have hrow2 : ∀ r, r ∈ a0 :: at' → r.2.length = ss.length ∧ r.1 = kd r.2.length := fun r hr => by
   obtain ⟨a, ha, rfl⟩ := List.getElem_of_mem hr
   have h1 := hrows a om
   rw [show (a0 :: at').getD a default = (a0 :: at')[a] by rw [List.getD_eq_getElem?_getD, List.getElem?_eq_getElem ha]; rfl] at h1
   have h2 := h1.1.1
   rw [List.length_map] at h2
   exact ⟨h2, h1.2.1⟩
  obtain ⟨r, hr, hphi⟩ := oA (a0 :: at') 1 (b0 :: bt) ss.length (by simp) om (fun r hr => (hrow2 r hr).1) (fun r hr => (hrow2 r hr).2) om om 268435456 (Nat.le_refl _) hg1
  rw [if_neg (by rw [hns]; decide)] at hphi
  obtain ⟨xs, rfl, hxs⟩ := hphi
  have hxl : xs.length = ss.length := by have := congrArg List.length hxs; rw [hsvl, List.length_map] at this; exact this
  refine Rg 9 J <| Um J J <| Um J J <| Um J J <| aY (iY [.sl 1 ((a0 :: at').map fX), .sl 1 ((b0 :: bt).map xc), .v (.int .i64 (ss.length : Int))] [(qa, { cells := ((a0 :: at').map fX).flatten, sz := 1, elem := 104, st := 1 }), (qb, { cells := ((b0 :: bt).map xc).flatten, sz := 4, elem := 102, st := 1 })] J hr (.own (ob := { cells := ((a0 :: at').map fX).flatten, sz := 1, elem := 104, st := 0 }) ((a0 :: at').map fX) (by simp) g0 (by show (0 : Nat) ≠ 2; decide) J (by decide) (by simp [keys]) J (cJ (f := fX) (n := 1) (fun _ => rfl)) (bN dfX) (.own (ob := { cells := ((b0 :: bt).map xc).flatten, sz := 4, elem := 102, st := 0 }) ((b0 :: bt).map xc) (by simp) (g1 om g0) (by show (0 : Nat) ≠ 2; decide) J (by decide) (by simp [keys]) J (cJ (f := xc) (n := 4) (fun _ => rfl)) (bN pW) (.data (.v _) .nil))) (by intro p hp; simp only [List.mem_cons, List.not_mem_nil, or_false] at hp; rcases hp with rfl | rfl; exact ⟨_, g0, (by show (0 : Nat) ≠ 2; decide), rfl⟩; exact ⟨_, g1 om g0, (by show (0 : Nat) ≠ 2; decide), rfl⟩)) J <| Um J J <| aA (dF J J) J <| aA (dF J J) J <| Ua J J <| Ua J J <| Nk [17] J <| Rg 2 J <| Um J J <| Ua J J <| Wn <| aN <| ⟨.inr J, om, xs, rfl, hxl, by unfold vl; rw [hxs]; exact hwv, fun x hx => hsb _ (by rw [← hxs]; exact List.mem_map.2 ⟨x, hx, rfl⟩), (by intro q o hq'; have := hlt q o hq'; repeat (first | exact hq' | refine g1 om ?_))⟩
 refine Wn <| aS J <| aF <| aL ?_
 have hm := bJ (us := ss) (i := i) om
 obtain ⟨hs0, hs1⟩ := nC hst (i := i) om
 have hmc := bJ (us := (ss.getD i default).2.2) (i := (st.getD i default).toNat) om
 obtain ⟨hrw, hvb⟩ : VN (ch ss i (st.getD i default).toNat).1 ∧ VB ss.length (ch ss i (st.getD i default).toNat).2.2 := jI hV hm hmc
 have hr3 := hrw.all3
 have hcl := hV1.cs _ hm
 have hqsn : qs < nK := by omega
 refine Rg 6 J <| Um J J <| aA (bS J J J J J om J) J <| aA (dH (l := .agg (stc (ss.getD i default))) J J J) J <| aY (dU J) J <| Ua J J <| aU (cA (cs' := stc (ss.getD i default)) J J J g0 J J J J) <| Wn <| bG (z := 10) J kR <| aD (bD J J J J J) J <| aD (aM J J gG J J) J ?_
 refine Dm J J <| Dm J J <| aD (cH (j := i) J J J J om om J) J <| aD (eK (f := ic) (us := st) (j := i) J J (by have := hlt qs _ hq; repeat (first | exact hq | refine g1 om ?_ | refine aC om ?_)) (fun _ => rfl) J (by decide) om J) J ?_
 refine aD (bS (j := (st.getD i default).toNat) J J J J om om J) J <| aD (dH (l := lvC (ch ss i (st.getD i default).toNat)) J J J) J <| mN (dU J) J <| bX (cA (cs' := chc (ch ss i (st.getD i default).toNat)) J J J g0 J J J J) <| bE (fE (rn nK) (by simp only [List.reverse_cons, List.reverse_nil, List.nil_append, List.cons_append, List.map_cons, List.map_nil, ren, keys, Nat.add_assoc, mZ, rn_lt hqsn]; kernel_rfl)) J <| Ck [2,4,7,8,9,10,12,22,23,24] J <| Rg 3 J <| Um J J <| aY (oMk (a := ss.length) (b := ss.length) J J J J om om (by decide) om (by show 64 * ss.length ≤ _; omega) om) J <| Ua J J <| Wn <| aB <| Rg 4 J <| aA (bD J J J J J) J <| aA (aM J J gG J J) J ?_
 refine aA (aZ J J) J <| Um J J <| Nk [2,4,7,8,9,10,12,13,22,23,24,40,41,42] J <| aL <| bB (α := Nat × (List X)) (fun ⟨j, row⟩ => [(2, .ref qs 1 0 ss.length), (4, .ptr (n0 + 1) 0), (7, .v (.int .i64 (ss.length : Int))), (8, outV qa 1 (al.map fX)), (9, outV qb 4 (bl.map xc)), (10, .v (.int .i64 (i : Int))), (12, .ptr (nK + 1 + 6 + 8) 0), (13, .ref (nK + 1 + 6 + 10 + 1) 4 0 ss.length), (22, .sl k (ss.map stc)), (23, .v (.int .i64 (ss.length : Int))), (24, .v (.int .i64 (i : Int))), (40, .sl (ch ss i (st.getD i default).toNat).2.1 ((ch ss i (st.getD i default).toNat).2.2.map brc)), (41, .v (.int .i64 ((ch ss i (st.getD i default).toNat).2.2.length : Int))), (42, .v (.int .i64 (j : Int)))]) (fun ⟨j, row⟩ => ((nK + 1 + 6 + 10 + 1), { cells := (row.map xc).flatten, sz := 4, elem := (102), st := 0 }) :: ((nK + 1 + 6 + 8), { cells := chc (ch ss i (st.getD i default).toNat), sz := 3, elem := (57), st := 0 }) :: outH qa 1 104 (al.map fX) (outH qb 4 102 (bl.map xc) ((n0 + 1, { cells := xc (d), sz := 4, elem := (102), st := 0 }) :: H))) (fun ⟨j, row⟩ n => j ≤ (ch ss i (st.getD i default).toNat).2.2.length ∧ RowP ss.length d.1 (ch ss i (st.getD i default).toNat).2.2 j (row.map (·.1)) ∧ nK + 24 ≤ n) (fun ⟨j, row⟩ => (ch ss i (st.getD i default).toNat).2.2.length - j) (0, List.replicate ss.length x0) ⟨J, J, J, J, J, J, J, J, J, J, J, J, J, J, trivial⟩ ⟨g0.trans (by rw [List.map_replicate]; rfl), gG, bC (fun hne => by rw [bQ hne]; repeat (first | exact g0 | refine g1 om ?_ | refine aC om ?_)) (bC (fun hne => by rw [bQ hne]; repeat (first | exact g0 | refine g1 om ?_ | refine aC om ?_)) ⟨(by repeat (first | exact g0 | refine g1 om ?_ | refine aC om ?_)), cS hnd (by intro q o hq'; have := hlt q o hq'; repeat (first | exact hq' | refine g1 om ?_ | refine aC om ?_))⟩)⟩ ⟨Nat.zero_le _, by rw [List.map_replicate]; exact RowP.init _ _ _, om⟩ ?_
 rintro ⟨j, row⟩ n hF
 change WC _ _ _ _ _ [(2, .ref qs 1 0 ss.length), (4, .ptr (n0 + 1) 0), (7, .v (.int .i64 (ss.length : Int))), (8, outV qa 1 (al.map fX)), (9, outV qb 4 (bl.map xc)), (10, .v (.int .i64 (i : Int))), (12, .ptr (nK + 1 + 6 + 8) 0), (13, .ref (nK + 1 + 6 + 10 + 1) 4 0 ss.length), (22, .sl k (ss.map stc)), (23, .v (.int .i64 (ss.length : Int))), (24, .v (.int .i64 (i : Int))), (40, .sl (ch ss i (st.getD i default).toNat).2.1 ((ch ss i (st.getD i default).toNat).2.2.map brc)), (41, .v (.int .i64 ((ch ss i (st.getD i default).toNat).2.2.length : Int))), (42, .v (.int .i64 (j : Int)))] (((nK + 1 + 6 + 10 + 1), { cells := (row.map xc).flatten, sz := 4, elem := (102), st := 0 }) :: ((nK + 1 + 6 + 8), { cells := chc (ch ss i (st.getD i default).toNat), sz := 3, elem := (57), st := 0 }) :: outH qa 1 104 (al.map fX) (outH qb 4 102 (bl.map xc) ((n0 + 1, { cells := xc (d), sz := 4, elem := (102), st := 0 }) :: H))) n _
 obtain ⟨hj, hR, hn2⟩ := hF
 have hrl : row.length = ss.length := by have := hR.1; rwa [List.length_map] at this
 refine Rg 1 J <| aA (bR J J) J <| aX (fun h43 => ?_) (fun h43 => ?_)
 ·refine Nk [2,4,7,8,9,10,12,13,22,23,24,40,41,42,43] J <| aS J <| aF <| aL ?_
  have hto := hvb.to j om
  have hvn := hvb.vn j om
  have hi3 := hvn.all3
  have hbl8 := hvb.len
  refine Rg 4 J <| aA (bS J J J J J om J) J <| aA (dH (l := .agg (brc ((ch ss i (st.getD i default).toNat).2.2.getD j default))) J J J) J <| aY (dU J) J <| aU (cA (cs' := brc ((ch ss i (st.getD i default).toNat).2.2.getD j default)) J J J g0 J J J J) <| Nk [2,4,7,8,9,10,12,13,15,22,23,24,40,41,42] J <| dN (z := 11) J kR <| Dm J J <| aD (bD J J J J J) J <| aD (aM J J gG J J) J ?_
  refine aD (aM (l := lvX d) J J (by repeat (first | exact g0 | refine g1 om ?_ | refine aC om ?_)) J J) J ?_
  refine aD (bD J J J J J) J <| aD (aM (l := lvM ((ch ss i (st.getD i default).toNat).2.2.getD j default).2) J J gG J J) J ?_
  refine aD (bK (b := lvX (nx ((ch ss i (st.getD i default).toNat).2.2.getD j default).2)) (aJ J (eR ((ch ss i (st.getD i default).toNat).2.2.getD j default).2 hi3.1 hi3.2.1 hi3.2.2) dD) J) J <| aD (aJ J (jA d (nx ((ch ss i (st.getD i default).toNat).2.2.getD j default).2) (hd.mono om) (hvn.bd.mono om)) dD) J <| aD (aJ J (jB (xmul d (nx ((ch ss i (st.getD i default).toNat).2.2.getD j default).2))) dD) J <| aD (cH (j := ((ch ss i (st.getD i default).toNat).2.2.getD j default).1.toNat) J J J J om om J) J <| bX (eE (f := xc) (us := row) (xneg (xmul d (nx ((ch ss i (st.getD i default).toNat).2.2.getD j default).2))) J J J gG (fun _ => rfl) J J om J) ?_
  refine bE (aQ kR) J <| aH <| Ck [2,4,7,8,9,10,12,13,22,23,24,40,41,42] J <| aI (z := 2) J <| aA (cI (((j + 1 : Nat) : Int)) (aP J J om) om) J <| Um J J <| Wn <| aG <| ⟨⟨j + 1, row.set ((ch ss i (st.getD i default).toNat).2.2.getD j default).1.toNat (xneg (xmul d (nx ((ch ss i (st.getD i default).toNat).2.2.getD j default).2)))⟩, ⟨J, J, J, J, J, J, J, J, J, J, J, J, J, J, trivial⟩, ⟨gG, gG, bC (fun hne => by rw [bQ hne]; repeat (first | exact g0 | refine g1 om ?_ | refine aC om ?_)) (bC (fun hne => by rw [bQ hne]; repeat (first | exact g0 | refine g1 om ?_ | refine aC om ?_)) ⟨(by repeat (first | exact g0 | refine g1 om ?_ | refine aC om ?_)), cS hnd (by intro q o hq'; have := hlt q o hq'; repeat (first | exact hq' | refine g1 om ?_ | refine aC om ?_))⟩)⟩, ⟨om, by rw [List.map_set]; exact hR.step hvb om hd, om⟩, by show (ch ss i (st.getD i default).toNat).2.2.length - (j + 1) < (ch ss i (st.getD i default).toNat).2.2.length - j; omega⟩
 refine Nk [2,4,7,8,9,10,12,13,22,23,24,40,41,42,43] J <| aT J <| aV <| aR <| aO J <| Ck [2,4,7,8,9,10,12,13,22,23,24] J ?_
 have hjn : j = (ch ss i (st.getD i default).toNat).2.2.length := by have := hvb.len; omega
 subst hjn
 have hgi : Bd 4 (row.getD i default).1 := kK (by decide) (fun x hx => hR.2.2.2 _ (List.mem_map.2 ⟨x, hx, rfl⟩)) i
 have hrowok := hR.done (i := i) om
 rw [show (row.map (·.1)).set i ((row.map (·.1)).getD i default + 1) = (row.set i (xadd (row.getD i default) (xint 1))).map (·.1) by rw [List.map_set]; congr 1; show _ = (row.getD i default).1 + 1; rw [jK]; rfl] at hrowok
 have hov : outV (nK + 1 + 6 + 10 + 1) 4 ((row.set i (xadd (row.getD i default) (xint 1))).map xc) = .ref (nK + 1 + 6 + 10 + 1) 4 0 ss.length := by
  rw [rG (fun h => by have := congrArg List.length h; rw [List.length_map, List.length_set, List.length_nil] at this; omega), List.length_map, List.length_set, hrl]
 have hqa2 : qa < n := by omega
 have hqb2 : qb < n := by omega
 have h12 : nK + (1 + (6 + 8)) < n := by omega
 have h12b : nK + (1 + (6 + 8)) ≠ qb := by omega
 have h12a : nK + (1 + (6 + 8)) ≠ qa := by omega
 have hqba : qb ≠ qa := by omega
 refine bG (z := 10) J kR <| Dm J J <| Dm J J <| Dm J J <| Dm J J <| aD (cH (j := i) J J J J om om J) J <| aD (eK (f := xc) (us := row) (j := i) (l := lvX (row.getD i default)) J J gG (fun _ => rfl) J (by decide) om J) J ?_
 refine aD (aJ J (gQ 1 (by unfold I64; omega)) dD) J <| aD (aJ J (iZ (row.getD i default) (xint 1) (hgi.mono om) (Bd1.mono om)) dD) J <| aD (cH (j := i) J J J J om om J) J <| bX (eE (f := xc) (us := row) (xadd (row.getD i default) (xint 1)) J J J gG (fun _ => rfl) J J om J) ?_
 refine bE (aQ kR) J <| Ck [2,4,7,8,9,12,13,22,23,24] J <| oS (z := 12) J kR <| Dm J J <| Dm J J <| aD (cQ (cs := [_]) (rows := [[_]]) J J (by decide) J J J) J <| jN _ (subsM.get (bC (q := qa) (sz := 1) (el := 104) (us := al.map fX) (h := ((nK + 1 + 6 + 10 + 1), { cells := ((row.set i (xadd (row.getD i default) (xint 1))).map xc).flatten, sz := 4, elem := (102), st := 0 }) :: ((nK + 1 + 6 + 8), { cells := chc (ch ss i (st.getD i default).toNat), sz := 3, elem := (57), st := 0 }) :: outH qb 4 102 (bl.map xc) ((n0 + 1, { cells := xc (d), sz := 4, elem := (102), st := 0 }) :: H)) (fun hne => by rw [bQ hne]; repeat (first | exact g0 | refine g1 om ?_ | refine aC om ?_)) ⟨(by repeat (first | exact g0 | refine g1 om ?_ | refine aC om ?_)), (by repeat (first | exact g0 | refine g1 om ?_ | refine aC om ?_)), bC (fun hne => by rw [bQ hne]; repeat (first | exact g0 | refine g1 om ?_ | refine aC om ?_)) ⟨(by repeat (first | exact g0 | refine g1 om ?_ | refine aC om ?_)), cS hnd (by intro q o hq'; have := hlt q o hq'; repeat (first | exact hq' | refine g1 om ?_ | refine aC om ?_))⟩⟩)) ?_
 refine WD.ap (te := ti104) (k0 := 0) (us := al.map fX) (rows := [[_]]) (.inl J) J J J (by rw [jU]; rfl) J (by decide) (by intro r hr; rw [List.mem_singleton] at hr; subst hr; rfl) (cJ (f := fX) (n := 1) fun _ => rfl) (by simp) (by rw [List.length_map]; show (2 * (al.length + 1) + 256) * 24 ≤ _; omega) (by rw [List.length_map]; show al.length + 1 < _; omega) (gN om (gN om (cM om (gN om (hfr qa om))))) J <| Dm J J <| aD (bD J J J J J) J <| aD (aM (l := lvM (ch ss i (st.getD i default).toNat).1) J J (by repeat (first | exact g0 | refine g1 om ?_ | refine aC om ?_)) J J) J ?_
 refine aD (bK (b := lvX (nx (ch ss i (st.getD i default).toNat).1)) (aJ J (eR (ch ss i (st.getD i default).toNat).1 hr3.1 hr3.2.1 hr3.2.2) dD) J) J <| aD (cQ (cs := [_, _, _, _]) (rows := [[_, _, _, _]]) J J (by decide) J J J) J <| jN _ (subsM.get (bC (q := qb) (sz := 4) (el := 102) (us := bl.map xc) (h := ((n + 1 + 10 + 3), { cells := (al.map fX).flatten ++ [[LV.ref (nK + 1 + 6 + 10 + 1) 4 0 ss.length]].flatten, sz := 1, elem := 104, st := 0 }) :: ((nK + 1 + 6 + 10 + 1), { cells := ((row.set i (xadd (row.getD i default) (xint 1))).map xc).flatten, sz := 4, elem := (102), st := 0 }) :: (n0 + 1, { cells := xc (d), sz := 4, elem := (102), st := 0 }) :: H) (fun hne => by rw [bQ hne]; repeat (first | exact g0 | refine g1 om ?_ | refine aC om ?_)) ⟨(by repeat (first | exact g0 | refine g1 om ?_ | refine aC om ?_)), (by repeat (first | exact g0 | refine g1 om ?_ | refine aC om ?_)), (by repeat (first | exact g0 | refine g1 om ?_ | refine aC om ?_)), cS hnd (by intro q o hq'; have := hlt q o hq'; repeat (first | exact hq' | refine g1 om ?_ | refine aC om ?_))⟩)) ?_
 refine WD.ap (te := ti102) (k0 := 0) (us := bl.map xc) (rows := [xc (nx (ch ss i (st.getD i default).toNat).1)]) (.inl J) J J J (by rw [jU]; rfl) J (by decide) (by intro r hr; rw [List.mem_singleton] at hr; subst hr; rfl) (cJ (f := xc) (n := 4) fun _ => rfl) (by simp) (by rw [List.length_map]; show (2 * (bl.length + 1) + 256) * 64 ≤ _; omega) (by rw [List.length_map]; show bl.length + 1 < _; omega) (gN om (gN om (gN om (hfr qb om)))) J <| aD (iA J) J <| aD (iA J) J <| bE (fE (rq2 qa qb n) (by simp only [List.reverse_cons, List.reverse_nil, List.nil_append, List.cons_append, List.map_cons, List.map_nil, ren, keys, Nat.add_assoc, rq2_a, rq2_b hqba, rq2_lt h12 h12a h12b, rq2_add hqa2 hqb2]; kernel_rfl)) J <| Fz.weakH (outH (nK + 1 + 6 + 10 + 1) 4 (102) ((row.set i (xadd (row.getD i default) (xint 1))).map xc) (((n + 1 + 10 + 3), { cells := (al.map fX).flatten ++ [outV (nK + 1 + 6 + 10 + 1) 4 ((row.set i (xadd (row.getD i default) (xint 1))).map xc)], sz := 1, elem := 104, st := 0 }) :: ((n + 1 + 10 + 9), { cells := (bl.map xc).flatten ++ [xc (nx (ch ss i (st.getD i default).toNat).1)].flatten, sz := 4, elem := 102, st := 0 }) :: (n0 + 1, { cells := xc (d), sz := 4, elem := (102), st := 0 }) :: H)) (subsM.get (bC (fun _ => (by repeat (first | exact g0 | refine g1 om ?_ | refine aC om ?_))) ⟨by rw [hov]; exact (by repeat (first | exact g0 | refine g1 om ?_ | refine aC om ?_)), (by repeat (first | exact g0 | refine g1 om ?_ | refine aC om ?_)), (by repeat (first | exact g0 | refine g1 om ?_ | refine aC om ?_)), cS hnd (by intro q o hq'; have := hlt q o hq'; repeat (first | exact hq' | refine g1 om ?_ | refine aC om ?_))⟩)) ?_
 refine Fz.cellR [(2, _), (4, _), (7, _), (8, _), (9, _), (22, _), (23, _), (24, _)] ⟨J, J, J, J, J, J, J, J, trivial⟩ om (by decide) (cJ (f := xc) (n := 4) fun _ => rfl) (bN pW) (gN om (gN om (hfr _ om))) ?_
 rw [iH]
 refine aH <| aI (z := 2) J <| aA (cI (((i + 1 : Nat) : Int)) (aP J J om) om) J <| Um J J <| Wn <| aG <| ⟨⟨i + 1, (n + 1 + 10 + 3), (n + 1 + 10 + 9), al ++ [(kd (row.set i (xadd (row.getD i default) (xint 1))).length, (row.set i (xadd (row.getD i default) (xint 1))))], bl ++ [nx (ch ss i (st.getD i default).toNat).1]⟩, ⟨rfl, rfl, rfl, congrArg some (by rw [List.map_append]; exact outV_snoc.symm), congrArg some (by rw [List.map_append]; exact outV_snoc.symm), rfl, rfl, rfl, trivial⟩, by dsimp only; rw [List.map_append, List.map_append]; simp only [List.map_cons, List.map_nil]; rw [jT, jT]; exact ⟨gG, gG, gG, cS hnd (by intro q o hq'; have := hlt q o hq'; repeat (first | exact hq' | refine g1 om ?_))⟩, ⟨om, by rw [List.length_append]; show al.length + 1 = _; omega, by rw [List.length_append]; show bl.length + 1 = _; omega, fun a ha => ?_, fun r hr => ?_, fun x hx => ?_, om, om, om, om, om, om⟩, by show ss.length - (i + 1) < ss.length - i; omega⟩
 ·by_cases e : a = i
  ·subst e
   rw [show (al ++ [(kd (row.set a (xadd (row.getD a default) (xint 1))).length, (row.set a (xadd (row.getD a default) (xint 1))))]).getD a default = (kd (row.set a (xadd (row.getD a default) (xint 1))).length, (row.set a (xadd (row.getD a default) (xint 1)))) by rw [← hal]; simp [List.getD_eq_getElem?_getD], show (bl ++ [nx (ch ss a (st.getD a default).toNat).1]).getD a default = nx (ch ss a (st.getD a default).toNat).1 by rw [← hbl]; simp [List.getD_eq_getElem?_getD]]
   exact ⟨hrowok.1, rfl, rfl⟩
  ·rw [show (al ++ [(kd (row.set i (xadd (row.getD i default) (xint 1))).length, (row.set i (xadd (row.getD i default) (xint 1))))]).getD a default = al.getD a default by simp only [List.getD_eq_getElem?_getD]; rw [List.getElem?_append_left om], show (bl ++ [nx (ch ss i (st.getD i default).toNat).1]).getD a default = bl.getD a default by simp only [List.getD_eq_getElem?_getD]; rw [List.getElem?_append_left om]]
   exact hrows a om
 ·rcases List.mem_append.1 hr with h | h
  ·exact hba r h
  ·rw [List.mem_singleton] at h; subst h
   exact fun x hx => hrowok.2 _ (List.mem_map.2 ⟨x, hx, rfl⟩)
 ·rcases List.mem_append.1 hx with h | h
  ·exact hbb x h
  ·rw [List.mem_singleton] at h; subst h
   exact hrw.bd.mono (by decide)
theorem worth_wc (n0 : Nat) (H : Hp) (k ks : Nat) (ss : List Go.Ab.ST) (d : X) (st : List Int) (hnd : subsM H H) (hlt : ∀ q o, getH H q = some o → q < n0) (hV : VMo ss = true) (hd : Bd 2 d.1) (hd0 : 0 < d.1) (hd1 : d.1 < 1) (hst : vSt ss st = true) : WC Tryz.prog T E0 Tryz.f71.ntmps (codeOf Tryz.f71) (argsEnv 0 [lvMo k ss, lvX d, .sl ks (st.map ic)]) H n0 (fun x e' h' n' => (x = .normal ∨ x = .ret) ∧ n0 ≤ n' ∧ ∃ xs : List X, resE e' T h' Tryz.f71.results.toList = some [.sl 1 (xs.map xc)] ∧ xs.length = ss.length ∧ WV ss d.1 st (vl xs) ∧ (∀ x, x ∈ xs → Bd 268435456 x.1) ∧ ∀ q o, getH H q = some o → getH h' q = some o) := by
 have hV1 := kW hV
 have hn40 := hV1.wt.len
 have hpos := hV1.pos
 have hsl := gU hst
 have hD := iP hV hd0 hd1
 have hfr : ∀ q, n0 ≤ q → getH H q = none := fun q hq => by
  cases h : getH H q with
  | none => rfl
  | some o => have := hlt q o h; omega
 change WC _ _ _ _ _ [(0, lvMo k ss), (1, lvX d), (2, .sl ks (st.map ic))] _ _ _
 refine Rg 3 J <| aY (dY J J) J <| aY (dY J J) J <| Ua J J <| Wn <| Rg 4 J <| aA (bD J J J J J) J <| aA (aM J J gG J J) J ?_
 refine aA (aZ J J) J <| Ua J J <| Wn <| Rg 1 J <| Ua J J <| Wn <| Rg 1 J <| Ua J J <| Wn <| aB <| Rg 4 J <| aA (bD J J J J J) J <| aA (aM J J gG J J) J ?_
 refine aA (aZ J J) J <| Um J J <| Nk [2,4,7,8,9,22,23,24] J <| aL <| bB (α := Nat × Nat × Nat × (List X1) × (List X)) (fun ⟨i, qa, qb, al, bl⟩ => [(2, .sl ks (st.map ic)), (4, .ptr (n0 + 1) 0), (7, .v (.int .i64 (ss.length : Int))), (8, outV qa 1 (al.map fX)), (9, outV qb 4 (bl.map xc)), (22, .sl k (ss.map stc)), (23, .v (.int .i64 (ss.length : Int))), (24, .v (.int .i64 (i : Int)))]) (fun ⟨i, qa, qb, al, bl⟩ => outH qa 1 104 (al.map fX) (outH qb 4 102 (bl.map xc) ((n0 + 1, { cells := xc (d), sz := 4, elem := (102), st := 0 }) :: H))) (fun ⟨i, qa, qb, al, bl⟩ n => i ≤ ss.length ∧ al.length = i ∧ bl.length = i ∧ (∀ a, a < i → RowOk ss.length d.1 (ch ss a (st.getD a default).toNat).2.2 a ((al.getD a default).2.map (·.1)) ∧ (al.getD a default).1 = kd (al.getD a default).2.length ∧ (bl.getD a default).1 = nq (ch ss a (st.getD a default).toNat).1) ∧ (∀ r, r ∈ al → ∀ x, x ∈ r.2 → Bd 8 x.1) ∧ (∀ x, x ∈ bl → Bd 8 x.1) ∧ n0 + 1 < qa ∧ n0 + 1 < qb ∧ qa ≠ qb ∧ qa < n ∧ qb < n ∧ n0 + 6 ≤ n) (fun ⟨i, qa, qb, al, bl⟩ => ss.length - i) (0, n0 + 2, n0 + 3, [], []) ⟨J, J, J, J, J, J, J, J, trivial⟩ ⟨gG, cS hnd (by intro q o hq'; have := hlt q o hq'; repeat (first | exact hq' | refine g1 om ?_))⟩ ⟨Nat.zero_le _, rfl, rfl, fun a ha => absurd ha om, by simp, by simp, om, om, om, om, om, om⟩ ?_
 rintro ⟨i, qa, qb, al, bl⟩ n hF
 change WC _ _ _ _ _ (_ :: _) (outH _ _ _ _ _) n _
 obtain ⟨hi, hal, hbl, hrows, hba, hbb, hqa, hqb, hqab, hqa3, hqb3, hn⟩ := hF
 obtain ⟨nK, hnK⟩ : ∃ z, z = n := ⟨n, rfl⟩
 subst hnK
 refine Rg 1 J <| aA (bR J J) J <| aX (fun h25 => ?_) (fun h25 => ?_)
 rotate_left
 ·refine Wn <| aT J <| aV <| aR <| aO J ?_
  obtain ⟨a0, at', rfl⟩ : ∃ a t, al = a :: t := by
   cases al with
   | nil => simp at hal; omega
   | cons a t => exact ⟨a, t, rfl⟩
  obtain ⟨b0, bt, rfl⟩ : ∃ a t, bl = a :: t := by
   cases bl with
   | nil => simp at hbl; omega
   | cons a t => exact ⟨a, t, rfl⟩
  obtain rfl : i = ss.length := by omega
  obtain ⟨hg1, _, hns, hsvl, hwv, hsb⟩ := worth_sys hD hn40 hst (A := vX (a0 :: at')) (b := (b0 :: bt).map (·.1)) (by rw [dA]; exact hal) (by rw [List.length_map]; exact hbl) (fun a ha => by rw [dE]; exact (hrows a ha).1) (fun a ha => by show fn_ ((b0 :: bt).map (·.1)) a = _; exact (jK (b0 :: bt) a).symm.trans (hrows a ha).2.2) (fun r hr x hx => by obtain ⟨y, hy, rfl⟩ := List.mem_map.1 hr; obtain ⟨z, hz, rfl⟩ := List.mem_map.1 hx; exact hba y hy z hz) (fun x hx => by obtain ⟨y, hy, rfl⟩ := List.mem_map.1 hx; exact hbb y hy)
  have hrow2 : ∀ r, r ∈ a0 :: at' → r.2.length = ss.length ∧ r.1 = kd r.2.length := fun r hr => by
   obtain ⟨a, ha, rfl⟩ := List.getElem_of_mem hr
   have h1 := hrows a om
   rw [show (a0 :: at').getD a default = (a0 :: at')[a] by rw [List.getD_eq_getElem?_getD, List.getElem?_eq_getElem ha]; rfl] at h1
   have h2 := h1.1.1
   rw [List.length_map] at h2
   exact ⟨h2, h1.2.1⟩
  obtain ⟨r, hr, hphi⟩ := oA (a0 :: at') 1 (b0 :: bt) ss.length (by simp) om (fun r hr => (hrow2 r hr).1) (fun r hr => (hrow2 r hr).2) om om 268435456 (Nat.le_refl _) hg1
  rw [if_neg (by rw [hns]; decide)] at hphi
  obtain ⟨xs, rfl, hxs⟩ := hphi
  have hxl : xs.length = ss.length := by have := congrArg List.length hxs; rw [hsvl, List.length_map] at this; exact this
  refine Rg 9 J <| Um J J <| Um J J <| Um J J <| aY (iY [.sl 1 ((a0 :: at').map fX), .sl 1 ((b0 :: bt).map xc), .v (.int .i64 (ss.length : Int))] [(qa, { cells := ((a0 :: at').map fX).flatten, sz := 1, elem := 104, st := 1 }), (qb, { cells := ((b0 :: bt).map xc).flatten, sz := 4, elem := 102, st := 1 })] J hr (.own (ob := { cells := ((a0 :: at').map fX).flatten, sz := 1, elem := 104, st := 0 }) ((a0 :: at').map fX) (by simp) g0 (by show (0 : Nat) ≠ 2; decide) J (by decide) (by simp [keys]) J (cJ (f := fX) (n := 1) (fun _ => rfl)) (bN dfX) (.own (ob := { cells := ((b0 :: bt).map xc).flatten, sz := 4, elem := 102, st := 0 }) ((b0 :: bt).map xc) (by simp) (g1 om g0) (by show (0 : Nat) ≠ 2; decide) J (by decide) (by simp [keys]) J (cJ (f := xc) (n := 4) (fun _ => rfl)) (bN pW) (.data (.v _) .nil))) (by intro p hp; simp only [List.mem_cons, List.not_mem_nil, or_false] at hp; rcases hp with rfl | rfl; exact ⟨_, g0, (by show (0 : Nat) ≠ 2; decide), rfl⟩; exact ⟨_, g1 om g0, (by show (0 : Nat) ≠ 2; decide), rfl⟩)) J <| Um J J <| aA (dF J J) J <| aA (dF J J) J <| Ua J J <| Ua J J <| Nk [17] J <| Rg 2 J <| Um J J <| Ua J J <| Wn <| aN <| ⟨.inr J, om, xs, rfl, hxl, by unfold vl; rw [hxs]; exact hwv, fun x hx => hsb _ (by rw [← hxs]; exact List.mem_map.2 ⟨x, hx, rfl⟩), (by intro q o hq'; have := hlt q o hq'; repeat (first | exact hq' | refine g1 om ?_))⟩
 refine Wn <| aS J <| aF <| aL ?_
 have hm := bJ (us := ss) (i := i) om
 obtain ⟨hs0, hs1⟩ := nC hst (i := i) om
 have hmc := bJ (us := (ss.getD i default).2.2) (i := (st.getD i default).toNat) om
 obtain ⟨hrw, hvb⟩ : VN (ch ss i (st.getD i default).toNat).1 ∧ VB ss.length (ch ss i (st.getD i default).toNat).2.2 := jI hV hm hmc
 have hr3 := hrw.all3
 have hcl := hV1.cs _ hm
 refine Rg 6 J <| Um J J <| aA (bS J J J J J om J) J <| aA (dH (l := .agg (stc (ss.getD i default))) J J J) J <| aY (dU J) J <| Ua J J <| aU (cA (cs' := stc (ss.getD i default)) J J J g0 J J J J) <| Wn <| bG (z := 10) J kR <| aD (bD J J J J J) J <| aD (aM J J gG J J) J ?_
 refine Dm J J <| Dm J J <| aD (bS (j := i) J J J J om om J) J <| aD (dH J J J) J <| aD (bS (j := (st.getD i default).toNat) J J J J om om J) J <| aD (dH (l := lvC (ch ss i (st.getD i default).toNat)) J J J) J <| mN (dU J) J <| bX (cA (cs' := chc (ch ss i (st.getD i default).toNat)) J J J g0 J J J J) <| bE (fE (rn nK) (by simp only [List.reverse_cons, List.reverse_nil, List.nil_append, List.cons_append, List.map_cons, List.map_nil, ren, keys, Nat.add_assoc, mZ]; kernel_rfl)) J <| Ck [2,4,7,8,9,10,12,22,23,24] J <| Rg 3 J <| Um J J <| aY (oMk (a := ss.length) (b := ss.length) J J J J om om (by decide) om (by show 64 * ss.length ≤ _; omega) om) J <| Ua J J <| Wn <| aB <| Rg 4 J <| aA (bD J J J J J) J <| aA (aM J J gG J J) J ?_
 refine aA (aZ J J) J <| Um J J <| Nk [2,4,7,8,9,10,12,13,22,23,24,40,41,42] J <| aL <| bB (α := Nat × (List X)) (fun ⟨j, row⟩ => [(2, .sl ks (st.map ic)), (4, .ptr (n0 + 1) 0), (7, .v (.int .i64 (ss.length : Int))), (8, outV qa 1 (al.map fX)), (9, outV qb 4 (bl.map xc)), (10, .v (.int .i64 (i : Int))), (12, .ptr (nK + 1 + 6 + 8) 0), (13, .ref (nK + 1 + 6 + 10 + 1) 4 0 ss.length), (22, .sl k (ss.map stc)), (23, .v (.int .i64 (ss.length : Int))), (24, .v (.int .i64 (i : Int))), (40, .sl (ch ss i (st.getD i default).toNat).2.1 ((ch ss i (st.getD i default).toNat).2.2.map brc)), (41, .v (.int .i64 ((ch ss i (st.getD i default).toNat).2.2.length : Int))), (42, .v (.int .i64 (j : Int)))]) (fun ⟨j, row⟩ => ((nK + 1 + 6 + 10 + 1), { cells := (row.map xc).flatten, sz := 4, elem := (102), st := 0 }) :: ((nK + 1 + 6 + 8), { cells := chc (ch ss i (st.getD i default).toNat), sz := 3, elem := (57), st := 0 }) :: outH qa 1 104 (al.map fX) (outH qb 4 102 (bl.map xc) ((n0 + 1, { cells := xc (d), sz := 4, elem := (102), st := 0 }) :: H))) (fun ⟨j, row⟩ n => j ≤ (ch ss i (st.getD i default).toNat).2.2.length ∧ RowP ss.length d.1 (ch ss i (st.getD i default).toNat).2.2 j (row.map (·.1)) ∧ nK + 24 ≤ n) (fun ⟨j, row⟩ => (ch ss i (st.getD i default).toNat).2.2.length - j) (0, List.replicate ss.length x0) ⟨J, J, J, J, J, J, J, J, J, J, J, J, J, J, trivial⟩ ⟨g0.trans (by rw [List.map_replicate]; rfl), gG, bC (fun hne => by rw [bQ hne]; repeat (first | exact g0 | refine g1 om ?_ | refine aC om ?_)) (bC (fun hne => by rw [bQ hne]; repeat (first | exact g0 | refine g1 om ?_ | refine aC om ?_)) ⟨(by repeat (first | exact g0 | refine g1 om ?_ | refine aC om ?_)), cS hnd (by intro q o hq'; have := hlt q o hq'; repeat (first | exact hq' | refine g1 om ?_ | refine aC om ?_))⟩)⟩ ⟨Nat.zero_le _, by rw [List.map_replicate]; exact RowP.init _ _ _, om⟩ ?_
 rintro ⟨j, row⟩ n hF
 change WC _ _ _ _ _ [(2, .sl ks (st.map ic)), (4, .ptr (n0 + 1) 0), (7, .v (.int .i64 (ss.length : Int))), (8, outV qa 1 (al.map fX)), (9, outV qb 4 (bl.map xc)), (10, .v (.int .i64 (i : Int))), (12, .ptr (nK + 1 + 6 + 8) 0), (13, .ref (nK + 1 + 6 + 10 + 1) 4 0 ss.length), (22, .sl k (ss.map stc)), (23, .v (.int .i64 (ss.length : Int))), (24, .v (.int .i64 (i : Int))), (40, .sl (ch ss i (st.getD i default).toNat).2.1 ((ch ss i (st.getD i default).toNat).2.2.map brc)), (41, .v (.int .i64 ((ch ss i (st.getD i default).toNat).2.2.length : Int))), (42, .v (.int .i64 (j : Int)))] (((nK + 1 + 6 + 10 + 1), { cells := (row.map xc).flatten, sz := 4, elem := (102), st := 0 }) :: ((nK + 1 + 6 + 8), { cells := chc (ch ss i (st.getD i default).toNat), sz := 3, elem := (57), st := 0 }) :: outH qa 1 104 (al.map fX) (outH qb 4 102 (bl.map xc) ((n0 + 1, { cells := xc (d), sz := 4, elem := (102), st := 0 }) :: H))) n _
 obtain ⟨hj, hR, hn2⟩ := hF
 have hrl : row.length = ss.length := by have := hR.1; rwa [List.length_map] at this
 refine Rg 1 J <| aA (bR J J) J <| aX (fun h43 => ?_) (fun h43 => ?_)
 ·refine Nk [2,4,7,8,9,10,12,13,22,23,24,40,41,42,43] J <| aS J <| aF <| aL ?_
  have hto := hvb.to j om
  have hvn := hvb.vn j om
  have hi3 := hvn.all3
  have hbl8 := hvb.len
  refine Rg 4 J <| aA (bS J J J J J om J) J <| aA (dH (l := .agg (brc ((ch ss i (st.getD i default).toNat).2.2.getD j default))) J J J) J <| aY (dU J) J <| aU (cA (cs' := brc ((ch ss i (st.getD i default).toNat).2.2.getD j default)) J J J g0 J J J J) <| Nk [2,4,7,8,9,10,12,13,15,22,23,24,40,41,42] J <| dN (z := 11) J kR <| Dm J J <| aD (bD J J J J J) J <| aD (aM J J gG J J) J ?_
  refine aD (aM (l := lvX d) J J (by repeat (first | exact g0 | refine g1 om ?_ | refine aC om ?_)) J J) J ?_
  refine aD (bD J J J J J) J <| aD (aM (l := lvM ((ch ss i (st.getD i default).toNat).2.2.getD j default).2) J J gG J J) J ?_
  refine aD (bK (b := lvX (nx ((ch ss i (st.getD i default).toNat).2.2.getD j default).2)) (aJ J (eR ((ch ss i (st.getD i default).toNat).2.2.getD j default).2 hi3.1 hi3.2.1 hi3.2.2) dD) J) J <| aD (aJ J (jA d (nx ((ch ss i (st.getD i default).toNat).2.2.getD j default).2) (hd.mono om) (hvn.bd.mono om)) dD) J <| aD (aJ J (jB (xmul d (nx ((ch ss i (st.getD i default).toNat).2.2.getD j default).2))) dD) J <| aD (cH (j := ((ch ss i (st.getD i default).toNat).2.2.getD j default).1.toNat) J J J J om om J) J <| bX (eE (f := xc) (us := row) (xneg (xmul d (nx ((ch ss i (st.getD i default).toNat).2.2.getD j default).2))) J J J gG (fun _ => rfl) J J om J) ?_
  refine bE (aQ kR) J <| aH <| Ck [2,4,7,8,9,10,12,13,22,23,24,40,41,42] J <| aI (z := 2) J <| aA (cI (((j + 1 : Nat) : Int)) (aP J J om) om) J <| Um J J <| Wn <| aG <| ⟨⟨j + 1, row.set ((ch ss i (st.getD i default).toNat).2.2.getD j default).1.toNat (xneg (xmul d (nx ((ch ss i (st.getD i default).toNat).2.2.getD j default).2)))⟩, ⟨J, J, J, J, J, J, J, J, J, J, J, J, J, J, trivial⟩, ⟨gG, gG, bC (fun hne => by rw [bQ hne]; repeat (first | exact g0 | refine g1 om ?_ | refine aC om ?_)) (bC (fun hne => by rw [bQ hne]; repeat (first | exact g0 | refine g1 om ?_ | refine aC om ?_)) ⟨(by repeat (first | exact g0 | refine g1 om ?_ | refine aC om ?_)), cS hnd (by intro q o hq'; have := hlt q o hq'; repeat (first | exact hq' | refine g1 om ?_ | refine aC om ?_))⟩)⟩, ⟨om, by rw [List.map_set]; exact hR.step hvb om hd, om⟩, by show (ch ss i (st.getD i default).toNat).2.2.length - (j + 1) < (ch ss i (st.getD i default).toNat).2.2.length - j; omega⟩
 refine Nk [2,4,7,8,9,10,12,13,22,23,24,40,41,42,43] J <| aT J <| aV <| aR <| aO J <| Ck [2,4,7,8,9,10,12,13,22,23,24] J ?_
 have hjn : j = (ch ss i (st.getD i default).toNat).2.2.length := by have := hvb.len; omega
 subst hjn
 have hgi : Bd 4 (row.getD i default).1 := kK (by decide) (fun x hx => hR.2.2.2 _ (List.mem_map.2 ⟨x, hx, rfl⟩)) i
 have hrowok := hR.done (i := i) om
 rw [show (row.map (·.1)).set i ((row.map (·.1)).getD i default + 1) = (row.set i (xadd (row.getD i default) (xint 1))).map (·.1) by rw [List.map_set]; congr 1; show _ = (row.getD i default).1 + 1; rw [jK]; rfl] at hrowok
 have hov : outV (nK + 1 + 6 + 10 + 1) 4 ((row.set i (xadd (row.getD i default) (xint 1))).map xc) = .ref (nK + 1 + 6 + 10 + 1) 4 0 ss.length := by
  rw [rG (fun h => by have := congrArg List.length h; rw [List.length_map, List.length_set, List.length_nil] at this; omega), List.length_map, List.length_set, hrl]
 have hqa2 : qa < n := by omega
 have hqb2 : qb < n := by omega
 have h12 : nK + (1 + (6 + 8)) < n := by omega
 have h12b : nK + (1 + (6 + 8)) ≠ qb := by omega
 have h12a : nK + (1 + (6 + 8)) ≠ qa := by omega
 have hqba : qb ≠ qa := by omega
 refine bG (z := 10) J kR <| Dm J J <| Dm J J <| Dm J J <| Dm J J <| aD (cH (j := i) J J J J om om J) J <| aD (eK (f := xc) (us := row) (j := i) (l := lvX (row.getD i default)) J J gG (fun _ => rfl) J (by decide) om J) J ?_
 refine aD (aJ J (gQ 1 (by unfold I64; omega)) dD) J <| aD (aJ J (iZ (row.getD i default) (xint 1) (hgi.mono om) (Bd1.mono om)) dD) J <| aD (cH (j := i) J J J J om om J) J <| bX (eE (f := xc) (us := row) (xadd (row.getD i default) (xint 1)) J J J gG (fun _ => rfl) J J om J) ?_
 refine bE (aQ kR) J <| Ck [2,4,7,8,9,12,13,22,23,24] J <| oS (z := 12) J kR <| Dm J J <| Dm J J <| aD (cQ (cs := [_]) (rows := [[_]]) J J (by decide) J J J) J <| jN _ (subsM.get (bC (q := qa) (sz := 1) (el := 104) (us := al.map fX) (h := ((nK + 1 + 6 + 10 + 1), { cells := ((row.set i (xadd (row.getD i default) (xint 1))).map xc).flatten, sz := 4, elem := (102), st := 0 }) :: ((nK + 1 + 6 + 8), { cells := chc (ch ss i (st.getD i default).toNat), sz := 3, elem := (57), st := 0 }) :: outH qb 4 102 (bl.map xc) ((n0 + 1, { cells := xc (d), sz := 4, elem := (102), st := 0 }) :: H)) (fun hne => by rw [bQ hne]; repeat (first | exact g0 | refine g1 om ?_ | refine aC om ?_)) ⟨(by repeat (first | exact g0 | refine g1 om ?_ | refine aC om ?_)), (by repeat (first | exact g0 | refine g1 om ?_ | refine aC om ?_)), bC (fun hne => by rw [bQ hne]; repeat (first | exact g0 | refine g1 om ?_ | refine aC om ?_)) ⟨(by repeat (first | exact g0 | refine g1 om ?_ | refine aC om ?_)), cS hnd (by intro q o hq'; have := hlt q o hq'; repeat (first | exact hq' | refine g1 om ?_ | refine aC om ?_))⟩⟩)) ?_
 refine WD.ap (te := ti104) (k0 := 0) (us := al.map fX) (rows := [[_]]) (.inl J) J J J (by rw [jU]; rfl) J (by decide) (by intro r hr; rw [List.mem_singleton] at hr; subst hr; rfl) (cJ (f := fX) (n := 1) fun _ => rfl) (by simp) (by rw [List.length_map]; show (2 * (al.length + 1) + 256) * 24 ≤ _; omega) (by rw [List.length_map]; show al.length + 1 < _; omega) (gN om (gN om (cM om (gN om (hfr qa om))))) J <| Dm J J <| aD (bD J J J J J) J <| aD (aM (l := lvM (ch ss i (st.getD i default).toNat).1) J J (by repeat (first | exact g0 | refine g1 om ?_ | refine aC om ?_)) J J) J ?_
 refine aD (bK (b := lvX (nx (ch ss i (st.getD i default).toNat).1)) (aJ J (eR (ch ss i (st.getD i default).toNat).1 hr3.1 hr3.2.1 hr3.2.2) dD) J) J <| aD (cQ (cs := [_, _, _, _]) (rows := [[_, _, _, _]]) J J (by decide) J J J) J <| jN _ (subsM.get (bC (q := qb) (sz := 4) (el := 102) (us := bl.map xc) (h := ((n + 1 + 10 + 3), { cells := (al.map fX).flatten ++ [[LV.ref (nK + 1 + 6 + 10 + 1) 4 0 ss.length]].flatten, sz := 1, elem := 104, st := 0 }) :: ((nK + 1 + 6 + 10 + 1), { cells := ((row.set i (xadd (row.getD i default) (xint 1))).map xc).flatten, sz := 4, elem := (102), st := 0 }) :: (n0 + 1, { cells := xc (d), sz := 4, elem := (102), st := 0 }) :: H) (fun hne => by rw [bQ hne]; repeat (first | exact g0 | refine g1 om ?_ | refine aC om ?_)) ⟨(by repeat (first | exact g0 | refine g1 om ?_ | refine aC om ?_)), (by repeat (first | exact g0 | refine g1 om ?_ | refine aC om ?_)), (by repeat (first | exact g0 | refine g1 om ?_ | refine aC om ?_)), cS hnd (by intro q o hq'; have := hlt q o hq'; repeat (first | exact hq' | refine g1 om ?_ | refine aC om ?_))⟩)) ?_
 refine WD.ap (te := ti102) (k0 := 0) (us := bl.map xc) (rows := [xc (nx (ch ss i (st.getD i default).toNat).1)]) (.inl J) J J J (by rw [jU]; rfl) J (by decide) (by intro r hr; rw [List.mem_singleton] at hr; subst hr; rfl) (cJ (f := xc) (n := 4) fun _ => rfl) (by simp) (by rw [List.length_map]; show (2 * (bl.length + 1) + 256) * 64 ≤ _; omega) (by rw [List.length_map]; show bl.length + 1 < _; omega) (gN om (gN om (gN om (hfr qb om)))) J <| aD (iA J) J <| aD (iA J) J <| bE (fE (rq2 qa qb n) (by simp only [List.reverse_cons, List.reverse_nil, List.nil_append, List.cons_append, List.map_cons, List.map_nil, ren, keys, Nat.add_assoc, rq2_a, rq2_b hqba, rq2_lt h12 h12a h12b, rq2_add hqa2 hqb2]; kernel_rfl)) J <| Fz.weakH (outH (nK + 1 + 6 + 10 + 1) 4 (102) ((row.set i (xadd (row.getD i default) (xint 1))).map xc) (((n + 1 + 10 + 3), { cells := (al.map fX).flatten ++ [outV (nK + 1 + 6 + 10 + 1) 4 ((row.set i (xadd (row.getD i default) (xint 1))).map xc)], sz := 1, elem := 104, st := 0 }) :: ((n + 1 + 10 + 9), { cells := (bl.map xc).flatten ++ [xc (nx (ch ss i (st.getD i default).toNat).1)].flatten, sz := 4, elem := 102, st := 0 }) :: (n0 + 1, { cells := xc (d), sz := 4, elem := (102), st := 0 }) :: H)) (subsM.get (bC (fun _ => (by repeat (first | exact g0 | refine g1 om ?_ | refine aC om ?_))) ⟨by rw [hov]; exact (by repeat (first | exact g0 | refine g1 om ?_ | refine aC om ?_)), (by repeat (first | exact g0 | refine g1 om ?_ | refine aC om ?_)), (by repeat (first | exact g0 | refine g1 om ?_ | refine aC om ?_)), cS hnd (by intro q o hq'; have := hlt q o hq'; repeat (first | exact hq' | refine g1 om ?_ | refine aC om ?_))⟩)) ?_
 refine Fz.cellR [(2, _), (4, _), (7, _), (8, _), (9, _), (22, _), (23, _), (24, _)] ⟨J, J, J, J, J, J, J, J, trivial⟩ om (by decide) (cJ (f := xc) (n := 4) fun _ => rfl) (bN pW) (gN om (gN om (hfr _ om))) ?_
 rw [iH]
 refine aH <| aI (z := 2) J <| aA (cI (((i + 1 : Nat) : Int)) (aP J J om) om) J <| Um J J <| Wn <| aG <| ⟨⟨i + 1, (n + 1 + 10 + 3), (n + 1 + 10 + 9), al ++ [(kd (row.set i (xadd (row.getD i default) (xint 1))).length, (row.set i (xadd (row.getD i default) (xint 1))))], bl ++ [nx (ch ss i (st.getD i default).toNat).1]⟩, ⟨rfl, rfl, rfl, congrArg some (by rw [List.map_append]; exact outV_snoc.symm), congrArg some (by rw [List.map_append]; exact outV_snoc.symm), rfl, rfl, rfl, trivial⟩, by dsimp only; rw [List.map_append, List.map_append]; simp only [List.map_cons, List.map_nil]; rw [jT, jT]; exact ⟨gG, gG, gG, cS hnd (by intro q o hq'; have := hlt q o hq'; repeat (first | exact hq' | refine g1 om ?_))⟩, ⟨om, by rw [List.length_append]; show al.length + 1 = _; omega, by rw [List.length_append]; show bl.length + 1 = _; omega, fun a ha => ?_, fun r hr => ?_, fun x hx => ?_, om, om, om, om, om, om⟩, by show ss.length - (i + 1) < ss.length - i; omega⟩
 ·by_cases e : a = i
  ·subst e
   rw [show (al ++ [(kd (row.set a (xadd (row.getD a default) (xint 1))).length, (row.set a (xadd (row.getD a default) (xint 1))))]).getD a default = (kd (row.set a (xadd (row.getD a default) (xint 1))).length, (row.set a (xadd (row.getD a default) (xint 1)))) by rw [← hal]; simp [List.getD_eq_getElem?_getD], show (bl ++ [nx (ch ss a (st.getD a default).toNat).1]).getD a default = nx (ch ss a (st.getD a default).toNat).1 by rw [← hbl]; simp [List.getD_eq_getElem?_getD]]
   exact ⟨hrowok.1, rfl, rfl⟩
  ·rw [show (al ++ [(kd (row.set i (xadd (row.getD i default) (xint 1))).length, (row.set i (xadd (row.getD i default) (xint 1))))]).getD a default = al.getD a default by simp only [List.getD_eq_getElem?_getD]; rw [List.getElem?_append_left om], show (bl ++ [nx (ch ss i (st.getD i default).toNat).1]).getD a default = bl.getD a default by simp only [List.getD_eq_getElem?_getD]; rw [List.getElem?_append_left om]]
   exact hrows a om
 ·rcases List.mem_append.1 hr with h | h
  ·exact hba r h
  ·rw [List.mem_singleton] at h; subst h
   exact fun x hx => hrowok.2 _ (List.mem_map.2 ⟨x, hx, rfl⟩)
 ·rcases List.mem_append.1 hx with h | h
  ·exact hbb x h
  ·rw [List.mem_singleton] at h; subst h
   exact hrw.bd.mono (by decide)
theorem worth_run (k ks : Nat) (ss : List Go.Ab.ST) (d : X) (st : List Int) (hV : VMo ss = true) (hd : Bd 2 d.1) (hd0 : 0 < d.1) (hd1 : d.1 < 1) (hst : vSt ss st = true) :
  ∃ r, Run Tryz.prog T E0 (.call 71 [lvMo k ss, lvX d, .sl ks (st.map ic)] r) ∧ ∃ xs : List X, r = .sl 1 (xs.map xc) ∧ xs.length = ss.length ∧ WV ss d.1 st (vl xs) ∧ ∀ x, x ∈ xs → Bd 268435456 x.1 := by
 refine eP Tryz.func71 J J (dL J) <| (worth_wc 0 [] k ks ss d st trivial (by intro q o hq; simp [getH] at hq) hV hd hd0 hd1 hst).mono ?_
 rintro x e h n ⟨hx, _, xs, hr, hl, hw, hb, _⟩
 exact ⟨.sl 1 (xs.map xc), ⟨xs, rfl, hl, hw, hb⟩, post (n := n) hx hr J (.sl _ _ fun row hr => bN pW row hr)⟩
end Go.Proofs.YtahljdjhhapngaaGreat
namespace Go.Proofs.YtahljdjhhapngaaGreat
open Go.Ab Go.RowKit
theorem g0' {h : Hp} {q : Nat} {a b : Ob} (h1 : getH h q = some a) (h2 : a = b) : getH h q = some b := by rw [h1, h2]
theorem four_set {a b c d : Nat} {o1 o2 o2' o3 o4 : Ob} {h' : Hp} (hq : getH h' b = some o2') (hf : ∀ q o, q ≠ b → getH [(a, o1), (b, o2), (c, o3), (d, o4)] q = some o → getH h' q = some o) (h1 : a ≠ b) (h3 : c ≠ b) (h4 : d ≠ b) : ∀ q o, getH [(a, o1), (b, o2'), (c, o3), (d, o4)] q = some o → getH h' q = some o := by
 intro q o h
 by_cases e : b = q
 ·subst e
  rw [g1 h1 g0] at h
  rw [hq]; exact h
 ·refine hf q o (fun h => e h.symm) ?_
  by_cases e1 : a = q
  ·subst e1; rw [g0] at h ⊢; exact h
  ·rw [g1 e1 rfl, g1 e rfl] at h ⊢; exact h
theorem answer_share (n0 : Nat) (hn0 : 9 ≤ n0) (k : Nat) (ss : List Go.Ab.ST) (d : X) (st : List Int) (hV : VMo ss = true) (hd : Bd 2 d.1) (hd0 : 0 < d.1) (hd1 : d.1 < 1) (hst : vSt ss st = true) : WC Tryz.prog T E0 Tryz.f96.ntmps (codeOf Tryz.f96) (argsEnv 0 ([] ++ [] ++ [.ptr 0 0, .ptr (0 + 1) 0, .ptr (0 + 3 + 4) 0])) [((0 + 3 + 4), { cells := [.ref (0 + 3 + 3) 1 0 ss.length], sz := 1, elem := (33), st := 0 }), ((0 + 3 + 3), { cells := ((st).map ic).flatten, sz := 1, elem := (3), st := 0 }), ((0 + 1), { cells := xc (d), sz := 4, elem := (102), st := 0 }), (0, { cells := [.sl k (ss.map stc)], sz := 1, elem := (24), st := 0 })] n0 (fun x e' h' n' => (x = .normal ∨ x = .ret) ∧ n0 ≤ n' ∧ ∃ (s' : List Int) (xs : List X), resE e' T h' Tryz.f96.results.toList = some [.sl 1 (xs.map xc)] ∧ vSt ss s' = true ∧ xs.length = ss.length ∧ WV ss d.1 s' (vl xs) ∧ NoImp ss d.1 1 (vl xs) ∧ (∀ j, j < ss.length → (ss.getD j default).1.1 ≠ 1 → s'.getD j default = st.getD j default) ∧ (∀ x, x ∈ xs → Bd 268435456 x.1) ∧ ∀ q o, getH [((0 + 3 + 4), { cells := [.ref (0 + 3 + 3) 1 0 ss.length], sz := 1, elem := (33), st := 0 }), ((0 + 3 + 3), { cells := ((s').map ic).flatten, sz := 1, elem := (3), st := 0 }), ((0 + 1), { cells := xc (d), sz := 4, elem := (102), st := 0 }), (0, { cells := [.sl k (ss.map stc)], sz := 1, elem := (24), st := 0 })] q = some o → getH h' q = some o) := by
 have hD := iP hV hd0 hd1
 have hn40 := (kW hV).wt.len
 obtain ⟨μ, M, hM, hμ⟩ := rank1 hD
 change WC _ _ _ _ _ [(0, .ptr 0 0), (1, .ptr (0 + 1) 0), (2, .ptr (0 + 3 + 4) 0)] _ _ _
 refine Rg 1 J <| Ua J J <| Wn <| cR <| bB (α := (List Int)) (fun s => [(0, .ptr 0 0), (1, .ptr (0 + 1) 0), (2, .ptr (0 + 3 + 4) 0)]) (fun s => [((0 + 3 + 4), { cells := [.ref (0 + 3 + 3) 1 0 ss.length], sz := 1, elem := (33), st := 0 }), ((0 + 3 + 3), { cells := ((s).map ic).flatten, sz := 1, elem := (3), st := 0 }), ((0 + 1), { cells := xc (d), sz := 4, elem := (102), st := 0 }), (0, { cells := [.sl k (ss.map stc)], sz := 1, elem := (24), st := 0 })]) (fun s n => vSt ss s = true ∧ (∀ j, j < ss.length → (ss.getD j default).1.1 ≠ 1 → s.getD j default = st.getD j default) ∧ n0 ≤ n) (fun s => μ s) (st) ⟨J, J, J, trivial⟩ ⟨gG, gG, gG, gG, trivial⟩ ⟨hst, fun _ _ _ => rfl, om⟩ ?_
 rintro s n hF
 change WC _ _ _ _ _ (_ :: _) (_ :: _) n _
 obtain ⟨hs, hsame, hn⟩ := hF
 refine cR <| nE (z := 5) J <| gK (aM (l := lvMo k ss) J J gG J J) J ?_
 refine gK (aM (l := lvX d) J J gG J J) J ?_
 refine gK (aM (l := .ref (0 + 3 + 3) 1 0 ss.length) J J gG J J) J ?_
 refine WN.G (ls := [lvMo k ss, lvX d, .ref (0 + 3 + 3) 1 0 ss.length]) (Φ := fun r h' n' => ∃ xs : List X, r = .sl 1 (xs.map xc) ∧ xs.length = ss.length ∧ WV ss d.1 s (vl xs) ∧ (∀ x, x ∈ xs → Bd 268435456 x.1) ∧ n + 5 ≤ n' ∧ ∀ q o, getH [((0 + 3 + 4), { cells := [.ref (0 + 3 + 3) 1 0 ss.length], sz := 1, elem := (33), st := 0 }), ((0 + 3 + 3), { cells := ((s).map ic).flatten, sz := 1, elem := (3), st := 0 }), ((0 + 1), { cells := xc (d), sz := 4, elem := (102), st := 0 }), (0, { cells := [.sl k (ss.map stc)], sz := 1, elem := (24), st := 0 })] q = some o → getH h' q = some o) J Tryz.func71 J J (dL J) J ((worth_share (n + 5) [((0 + 3 + 4), { cells := [.ref (0 + 3 + 3) 1 0 ss.length], sz := 1, elem := (33), st := 0 }), ((0 + 3 + 3), { cells := ((s).map ic).flatten, sz := 1, elem := (3), st := 0 }), ((0 + 1), { cells := xc (d), sz := 4, elem := (102), st := 0 }), (0, { cells := [.sl k (ss.map stc)], sz := 1, elem := (24), st := 0 })] k ss d s (0 + 3 + 3) ⟨gG, gG, gG, gG, trivial⟩ (four_lt om om om om) gG hV hd hd0 hd1 hs).mono (by rintro x e h n' ⟨hx, h1, xs, hr, h2, h3, h4, h5⟩; exact ⟨hx, _, hr, xs, rfl, h2, h3, h4, h1, h5⟩)) ?_
 rintro r' h' n' ⟨xs, rfl, hxl, hwv, hxb, hn', hH⟩
 refine nG [((0 + 3 + 4), { cells := [.ref (0 + 3 + 3) 1 0 ss.length], sz := 1, elem := (33), st := 0 }), ((0 + 3 + 3), { cells := ((s).map ic).flatten, sz := 1, elem := (3), st := 0 }), ((0 + 1), { cells := xc (d), sz := 4, elem := (102), st := 0 }), (0, { cells := [.sl k (ss.map stc)], sz := 1, elem := (24), st := 0 })] ⟨hH _ _ gG, hH _ _ gG, hH _ _ gG, hH _ _ gG, trivial⟩ ?_
 refine gK (iA J) J <| mS <| nE (z := 6) J <| gK (aM (l := lvMo k ss) J J gG J J) J ?_
 refine gK (aM (l := lvX d) J J gG J J) J ?_
 refine gK (eF J) J <| gK (aM (l := .ref (0 + 3 + 3) 1 0 ss.length) J J gG J J) J ?_
 refine WN.G (ls := [lvMo k ss, lvX d, .sl 1 (xs.map xc), .ref (0 + 3 + 3) 1 0 ss.length, .v (.int .i64 1)]) (Φ := fun r h' m' => ∃ (b : Bool) (s2 : List Int), r = .v (.bool b) ∧ (∀ q o, getH [((0 + 3 + 4), { cells := [.ref (0 + 3 + 3) 1 0 ss.length], sz := 1, elem := (33), st := 0 }), ((0 + 3 + 3), { cells := ((s2).map ic).flatten, sz := 1, elem := (3), st := 0 }), ((0 + 1), { cells := xc (d), sz := 4, elem := (102), st := 0 }), (0, { cells := [.sl k (ss.map stc)], sz := 1, elem := (24), st := 0 })] q = some o → getH h' q = some o) ∧ m' ≥ n' + 6 ∧ (b = false → s2 = s ∧ NoImp ss d.1 1 (vl xs)) ∧ (b = true → ∃ i j : Nat, i < ss.length ∧ (ss.getD i default).1.1 = 1 ∧ j < (ss.getD i default).2.2.length ∧ btr 1 (yl d.1 (ch ss i j) (vl xs)) (vl xs i) ∧ s2 = s.set i (j : Int))) J Tryz.func97 J J (dL J) J ((lG (n' + 6) [((0 + 3 + 4), { cells := [.ref (0 + 3 + 3) 1 0 ss.length], sz := 1, elem := (33), st := 0 }), ((0 + 3 + 3), { cells := ((s).map ic).flatten, sz := 1, elem := (3), st := 0 }), ((0 + 1), { cells := xc (d), sz := 4, elem := (102), st := 0 }), (0, { cells := [.sl k (ss.map stc)], sz := 1, elem := (24), st := 0 })] k 1 ss d xs s 1 (0 + 3 + 3) ⟨gG, gG, gG, gG, trivial⟩ (four_lt om om om om) gG hV hd hxl (gU hs) 268435456 (by decide) (by decide) hxb).mono (by
  rintro x e h n' ⟨hx, h1, (⟨hr, hni, h2⟩ | ⟨i, j, hr, hi, ho, hj, hb, hq, h2⟩)⟩
  ·exact ⟨hx, _, hr, false, s, rfl, h2, h1, fun _ => ⟨rfl, hni⟩, fun h => by cases h⟩
  ·exact ⟨hx, _, hr, true, _, rfl, four_set hq (fun q o hq => h2 q o hq) om om om, h1, fun h => (by cases h), fun _ => ⟨i, j, hi, ho, hj, hb, rfl⟩⟩)) ?_
 rintro r' h' m' ⟨b, s2, rfl, hH, hm', hbF, hbT⟩
 refine nG [((0 + 3 + 4), { cells := [.ref (0 + 3 + 3) 1 0 ss.length], sz := 1, elem := (33), st := 0 }), ((0 + 3 + 3), { cells := ((s2).map ic).flatten, sz := 1, elem := (3), st := 0 }), ((0 + 1), { cells := xc (d), sz := 4, elem := (102), st := 0 }), (0, { cells := [.sl k (ss.map stc)], sz := 1, elem := (24), st := 0 })] ⟨hH _ _ gG, hH _ _ gG, hH _ _ gG, hH _ _ gG, trivial⟩ ?_
 refine WN.B (fun h13 => ?_) (fun h13 => ?_)
 rotate_left
 ·refine gK (fT J) J <| mS <| bW J <| Rg 2 J <| Um J J <| Ua J J <| Nk [3] J <| aN <| fB <| bY <| fB ?_
  obtain ⟨rfl, hni⟩ := hbF h13
  exact ⟨.inr J, om, s2, xs, rfl, hs, hxl, hwv, hni, hsame, hxb, fun q o hq => hq⟩
 refine gK (fT J) J <| mS <| bZ J <| cV <| cC <| aG ?_
 obtain ⟨i, j, hi, ho, hj, hb, rfl⟩ := hbT h13
 unfold btr at hb
 rw [if_pos rfl] at hb
 have hs2 := vSt_set hs hj
 obtain ⟨_, _, ys, _, _, hys, _⟩ := worth_run k 0 ss d _ hV hd hd0 hd1 hs2
 obtain ⟨h5, h6⟩ := imp1 hD hs hi hj hwv hb hys
 refine ⟨s.set i (j : Int), ⟨J, J, J, trivial⟩, ⟨gG, gG, gG, gG, trivial⟩, ⟨hs2, fun a ha hoa => ?_, om⟩, hμ _ _ _ _ i hs2 hs hys hwv h5 hi h6⟩
 rw [lM (by rw [gU hs]; exact hi), if_neg (fun e => hoa (by rw [← e]; exact ho))]
 exact hsame a ha hoa
theorem values_run (k : Nat) (ss : List Go.Ab.ST) (d : X) (hV : VMo ss = true) (hd : Bd 2 d.1) (hd0 : 0 < d.1) (hd1 : d.1 < 1) : ∃ r, Run Tryz.prog T E0 (.call 60 [lvMo k ss, lvX d] r) ∧ ∃ (st : List Int) (xs : List X), r = .sl 1 (xs.map xc) ∧ vSt ss st = true ∧ xs.length = ss.length ∧ WV ss d.1 st (vl xs) ∧ Val ss d.1 (vl xs) ∧ ∀ x, x ∈ xs → Bd 268435456 x.1 := by
 have hD := iP hV hd0 hd1
 have hV1 := kW hV
 have hn40 := hV1.wt.len
 obtain ⟨μ, M, hM, hμ⟩ := rank0 hD
 have hz0 : vSt ss (List.replicate ss.length 0) = true := by
  unfold vSt
  rw [decide_eq_true (by simp), Bool.true_and]
  refine gS fun i hi => ?_
  rw [List.length_replicate] at hi
  have := hV1.cs _ (bJ (us := ss) hi)
  rw [show (List.replicate ss.length (0 : Int)).getD i default = 0 by rw [List.getD_eq_getElem?_getD, List.getElem?_replicate, if_pos hi]; rfl, decide_eq_true (by decide), decide_eq_true om]; rfl
 refine eP Tryz.func60 J J (dL J) <| Rg 3 J <| aY (dY J J) J <| aY (dY J J) J <| Ua J J <| Wn <| Rg 6 J <| aA (bD J J J J J) J <| aA (aM J J gG J J) J ?_
 refine aA (aZ J J) J <| aY (oMk (a := ss.length) (b := ss.length) J J J J (by simp) (by simp) (by decide) om (by show 8 * ss.length ≤ _; omega) om) J <| aY (dU J) J <| aU (cA (cs' := [_]) J J J g0 J J J J) <| Wn <| Rg 2 J <| aA (oMf J) J <| Ua J J <| Wn <| cR <| bB (α := (List Int) × Nat) (fun ⟨s, g⟩ => [(2, .ptr 0 0), (3, .ptr (0 + 1) 0), (5, .ptr (0 + 3 + 4) 0), (6, .fn (.func 96) [] [.ptr 0 0, .ptr (0 + 1) 0, .ptr (0 + 3 + 4) 0])]) (fun ⟨s, g⟩ => [((0 + 3 + 4), { cells := [.ref (0 + 3 + 3) 1 0 ss.length], sz := 1, elem := (33), st := 0 }), ((0 + 3 + 3), { cells := ((s).map ic).flatten, sz := 1, elem := (3), st := 0 }), ((0 + 1), { cells := xc (d), sz := 4, elem := (102), st := 0 }), (0, { cells := [.sl k (ss.map stc)], sz := 1, elem := (24), st := 0 })]) (fun ⟨s, g⟩ n => vSt ss s = true ∧ (∀ (s2 : List Int) (u : Nat → Rat), vSt ss s2 = true → WV ss d.1 s2 u → NoImp ss d.1 1 u → (∀ j, j < ss.length → (ss.getD j default).1.1 ≠ 1 → s2.getD j default = s.getD j default) → μ s2 < g) ∧ 9 ≤ n) (fun ⟨s, g⟩ => g) (List.replicate ss.length 0, M) ⟨J, J, J, J, trivial⟩ ⟨gG, g0' gG (by rw [List.map_replicate]; rfl), gG, gG, trivial⟩ ⟨hz0, fun s2 _ _ _ _ _ => hM s2, om⟩ ?_
 rintro ⟨s, g⟩ n hF
 change WC _ _ _ _ _ (_ :: _) (_ :: _) n _
 obtain ⟨hs, hfu, hn⟩ := hF
 refine cR <| nE (z := 3) J <| gK (eF J) J <| WN.Gv (first := []) (cap := [.ptr 0 0, .ptr (0 + 1) 0, .ptr (0 + 3 + 4) 0]) (ls := []) (Φ := fun r h' n' => ∃ (s' : List Int) (xs : List X), r = .sl 1 (xs.map xc) ∧ vSt ss s' = true ∧ xs.length = ss.length ∧ WV ss d.1 s' (vl xs) ∧ NoImp ss d.1 1 (vl xs) ∧ (∀ j, j < ss.length → (ss.getD j default).1.1 ≠ 1 → s'.getD j default = s.getD j default) ∧ (∀ x, x ∈ xs → Bd 268435456 x.1) ∧ n + 3 ≤ n' ∧ ∀ q o, getH [((0 + 3 + 4), { cells := [.ref (0 + 3 + 3) 1 0 ss.length], sz := 1, elem := (33), st := 0 }), ((0 + 3 + 3), { cells := ((s').map ic).flatten, sz := 1, elem := (3), st := 0 }), ((0 + 1), { cells := xc (d), sz := 4, elem := (102), st := 0 }), (0, { cells := [.sl k (ss.map stc)], sz := 1, elem := (24), st := 0 })] q = some o → getH h' q = some o) J J Tryz.func96 J J (dL J) J ((answer_share (n + 3) om k ss d s hV hd hd0 hd1 hs).mono (by rintro x e h n' ⟨hx, h1, s', xs, hr, h2, h3, h4, h5, h6, h7, h8⟩; exact ⟨hx, _, hr, s', xs, rfl, h2, h3, h4, h5, h6, h7, h1, h8⟩)) ?_
 rintro r' h' n' ⟨s', xs, rfl, hs', hxl, hwv, hn1, hsame, hxb, hn', hH⟩
 refine nG [((0 + 3 + 4), { cells := [.ref (0 + 3 + 3) 1 0 ss.length], sz := 1, elem := (33), st := 0 }), ((0 + 3 + 3), { cells := ((s').map ic).flatten, sz := 1, elem := (3), st := 0 }), ((0 + 1), { cells := xc (d), sz := 4, elem := (102), st := 0 }), (0, { cells := [.sl k (ss.map stc)], sz := 1, elem := (24), st := 0 })] ⟨hH _ _ gG, hH _ _ gG, hH _ _ gG, hH _ _ gG, trivial⟩ ?_
 refine gK (iA J) J <| mS <| nE (z := 6) J <| gK (aM (l := lvMo k ss) J J gG J J) J ?_
 refine gK (aM (l := lvX d) J J gG J J) J ?_
 refine gK (eF J) J <| gK (aM (l := .ref (0 + 3 + 3) 1 0 ss.length) J J gG J J) J ?_
 refine WN.G (ls := [lvMo k ss, lvX d, .sl 1 (xs.map xc), .ref (0 + 3 + 3) 1 0 ss.length, .v (.int .i64 0)]) (Φ := fun r h' m' => ∃ (b : Bool) (s2 : List Int), r = .v (.bool b) ∧ (∀ q o, getH [((0 + 3 + 4), { cells := [.ref (0 + 3 + 3) 1 0 ss.length], sz := 1, elem := (33), st := 0 }), ((0 + 3 + 3), { cells := ((s2).map ic).flatten, sz := 1, elem := (3), st := 0 }), ((0 + 1), { cells := xc (d), sz := 4, elem := (102), st := 0 }), (0, { cells := [.sl k (ss.map stc)], sz := 1, elem := (24), st := 0 })] q = some o → getH h' q = some o) ∧ m' ≥ n' + 6 ∧ (b = false → s2 = s' ∧ NoImp ss d.1 0 (vl xs)) ∧ (b = true → ∃ i j : Nat, i < ss.length ∧ (ss.getD i default).1.1 = 0 ∧ j < (ss.getD i default).2.2.length ∧ btr 0 (yl d.1 (ch ss i j) (vl xs)) (vl xs i) ∧ s2 = s'.set i (j : Int))) J Tryz.func97 J J (dL J) J ((lG (n' + 6) [((0 + 3 + 4), { cells := [.ref (0 + 3 + 3) 1 0 ss.length], sz := 1, elem := (33), st := 0 }), ((0 + 3 + 3), { cells := ((s').map ic).flatten, sz := 1, elem := (3), st := 0 }), ((0 + 1), { cells := xc (d), sz := 4, elem := (102), st := 0 }), (0, { cells := [.sl k (ss.map stc)], sz := 1, elem := (24), st := 0 })] k 1 ss d xs s' 0 (0 + 3 + 3) ⟨gG, gG, gG, gG, trivial⟩ (four_lt om om om om) gG hV hd hxl (gU hs') 268435456 (by decide) (by decide) hxb).mono (by
  rintro x e h n' ⟨hx, h1, (⟨hr, hni, h2⟩ | ⟨i, j, hr, hi, ho, hj, hb, hq, h2⟩)⟩
  ·exact ⟨hx, _, hr, false, s', rfl, h2, h1, fun _ => ⟨rfl, hni⟩, fun h => by cases h⟩
  ·exact ⟨hx, _, hr, true, _, rfl, four_set hq (fun q o hq => h2 q o hq) om om om, h1, fun h => (by cases h), fun _ => ⟨i, j, hi, ho, hj, hb, rfl⟩⟩)) ?_
 rintro r' h' m' ⟨b, s2, rfl, hH, hm', hbF, hbT⟩
 refine nG [((0 + 3 + 4), { cells := [.ref (0 + 3 + 3) 1 0 ss.length], sz := 1, elem := (33), st := 0 }), ((0 + 3 + 3), { cells := ((s2).map ic).flatten, sz := 1, elem := (3), st := 0 }), ((0 + 1), { cells := xc (d), sz := 4, elem := (102), st := 0 }), (0, { cells := [.sl k (ss.map stc)], sz := 1, elem := (24), st := 0 })] ⟨hH _ _ gG, hH _ _ gG, hH _ _ gG, hH _ _ gG, trivial⟩ ?_
 refine WN.B (fun h19 => ?_) (fun h19 => ?_)
 ·refine gK (fT J) J <| mS <| bZ J <| cV <| cC <| aG ?_
  obtain ⟨i, j, hi, ho, hj, hb, rfl⟩ := hbT h19
  unfold btr at hb
  rw [if_neg (by decide)] at hb
  refine ⟨⟨s'.set i (j : Int), μ s'⟩, ⟨J, J, J, J, trivial⟩, ⟨gG, gG, gG, gG, trivial⟩, ⟨vSt_set hs' hj, fun s2 u h1 h2 h3 h4 => ?_, om⟩, hfu s' _ hs' hwv hn1 hsame⟩
  obtain ⟨h5, h6⟩ := imp0 hD hs' h1 hi om hj hwv hn1 hb h4 h2
  exact hμ _ _ _ _ i h1 hs' h2 hwv h5 hi h6
 refine gK (fT J) J <| mS <| bW J <| Rg 2 J <| Um J J <| Ua J J <| Nk [4] J <| aN <| fB <| bY <| fB ?_
 obtain ⟨rfl, hn0⟩ := hbF h19
 exact ⟨.sl 1 (xs.map xc), ⟨s2, xs, rfl, hs', hxl, hwv, val_of (fun x hx => by have := hV1.own x hx; omega) hs' hwv hn0 hn1, hxb⟩, post (n := 0) (.inr J) J J (.sl _ _ fun row hr => bN pW row hr)⟩
end Go.Proofs.YtahljdjhhapngaaGreat
namespace Go.Proofs.YtahljdjhhapngaaGreat
open Go.Ab Go.RowKit
theorem kE {ns : List NM} (h : (ns.any fun a => !vn a) = false) : ns.all vn = true := by
 rw [← any_not, h]; rfl
theorem xyl_v' {x : Go.Ab.ST} {d : X} {vx : List X} {k : Nat} : (xyl (x.2.2.getD k default) d vx).1 = ysF x d.1 (vl vx) k := xyl_v _ _ _
theorem e86 {h : Hp} {q : Nat} {a b : Ob} (h1 : getH h q = some a) (h2 : a = b) : getH h q = some b := by rw [h1, h2]
theorem rO (x : Go.Ab.ST) (d : X) (kv : Nat) (vx : List X) (n0 : Nat) (hcs : 1 ≤ x.2.2.length ∧ x.2.2.length ≤ 8) (hvb : ∀ c, c ∈ x.2.2 → VN c.1 ∧ VB n0 c.2.2) (hd : Bd 2 d.1) (hl : vx.length = n0) (β : Nat) (h1β : 1 ≤ β) (hβ : β ≤ 2147483648) (hv : ∀ x, x ∈ vx → Bd β x.1) : Run Tryz.prog T E0 (.call 62 [.agg (stc x), lvX d, .sl kv (vx.map xc)] (.tup [lvX (xyl (x.2.2.getD (bsK x d.1 (vl vx)) default) d vx), .v (.int .i64 ((bsK x d.1 (vl vx) : Nat) : Int))])) := by
 refine bI Tryz.func62 J J (dL J) <| Rg 4 J <| aY (dY J J) J <| aY (dY J J) J <| aY (dU J) J <| Ua J J <| Wn <| Rg 4 J <| aA (bD J J J J J) J <| aA (aM J J gG J J) J ?_
 refine aA (aJ J (wants_run x.1.1) (bO (by intro c hc; simp only [List.mem_cons, List.not_mem_nil, or_false] at hc; rcases hc with rfl; exact .v _))) J <| Ua J J <| cK ?_
 have h0m := bJ (us := x.2.2) (i := 0) om
 obtain ⟨hr0, hb0⟩ := hvb _ h0m
 refine bG (z := 10) J kR <| aD (bD J J J J J) J <| aD (aM J J gG J J) J ?_
 refine aD (bS (j := 0) J J J J J om J) J <| aD (dH (l := lvC (x.2.2.getD 0 default)) J J J) J <| aD (aM (l := lvX d) J J gG J J) J ?_
 refine Dm J J <| aD (aJ J (mM (x.2.2.getD 0 default) d kv vx n0 hr0 hb0 hd hl β h1β hβ hv) (bO (by intro c hc; simp only [List.mem_cons, List.not_mem_nil, or_false] at hc; rcases hc with rfl | rfl | rfl; exact lQ; exact lQ; exact (.sl _ _ fun row hr => bN pW row hr)))) J <| mN (dU J) J <| bX (cA (cs' := xc (xyl (x.2.2.getD 0 default) d vx)) J J J g0 J J J J) <| aD (iA J) J <| bE (aQ kR) J <| Ck [2,3,4,6,8,9,10] J <| aB <| Rg 4 J <| aA (bD J J J J J) J <| aA (aM J J gG J J) J ?_
 refine aA (aZ J J) J <| Um J J <| Wn <| aL <| bB (α := Nat) (fun i => [(2, .sl kv (vx.map xc)), (4, .ptr (0 + 1) 0), (6, .ptr (0 + 2) 0), (8, .fn (.func (if x.1.1 = 1 then 122 else 76)) [] []), (9, .ptr (0 + 4 + 4 + 7) 0), (10, .v (.int .i64 (((bkF x.1.1 (ysF x d.1 (vl vx)) i) : Nat) : Int))), (26, .sl x.2.1 (x.2.2.map chc)), (27, .v (.int .i64 (x.2.2.length : Int))), (28, .v (.int .i64 (i : Int)))]) (fun i => [((0 + 4 + 4 + 7), { cells := xc (xyl (x.2.2.getD (bkF x.1.1 (ysF x d.1 (vl vx)) i) default) d vx), sz := 4, elem := (102), st := 0 }), ((0 + 2), { cells := xc (x0), sz := 4, elem := (102), st := 0 }), ((0 + 1), { cells := xc (d), sz := 4, elem := (102), st := 0 })]) (fun i n => i ≤ x.2.2.length ∧ 20 ≤ n) (fun i => x.2.2.length - i) (0) ⟨J, J, J, J, J, J, J, J, J, trivial⟩ ⟨gG, gG, gG, trivial⟩ ⟨Nat.zero_le _, om⟩ ?_
 rintro i n hF
 change WC _ _ _ _ _ (_ :: _) (_ :: _) n _
 obtain ⟨hi, hn⟩ := hF
 refine Rg 1 J <| aA (bR J J) J <| aX (fun h29 => ?_) (fun h29 => ?_)
 rotate_left
 ·refine Wn <| aT J <| aV <| aR <| aO J <| Rg 4 J <| aA (aM (l := lvX (xyl (x.2.2.getD (bkF x.1.1 (ysF x d.1 (vl vx)) i) default) d vx)) J J gG J J) J ?_
  refine Um J J <| aU (cA (cs' := xc (xyl (x.2.2.getD (bkF x.1.1 (ysF x d.1 (vl vx)) i) default) d vx)) J J J gG J J J J) ?_
  refine Ua J J <| Wn <| aN ?_
  have hin : i = x.2.2.length := by omega
  subst hin
  refine post (n := 0) (.inr J) J J (.tup _ ?_)
  intro c hc
  simp only [List.mem_cons, List.not_mem_nil, or_false] at hc
  rcases hc with rfl | rfl
  ·exact lQ
  ·exact .v _
 refine Wn <| aS J <| aF <| aL ?_
 have him := bJ (us := x.2.2) (i := i) om
 obtain ⟨hri, hbi⟩ := hvb _ him
 have hyb := xyl_bd hri hbi hd h1β hv
 have hbl : (bkF x.1.1 (ysF x d.1 (vl vx)) i) < x.2.2.length := by
  rcases Nat.eq_zero_or_pos i with h | h
  ·rw [h]; show 0 < _; omega
  ·have := rP (p := x.1.1) (ys := (ysF x d.1 (vl vx))) i h; omega
 obtain ⟨hrb, hbb⟩ := hvb _ (bJ (us := x.2.2) hbl)
 have hyb2 := xyl_bd hrb hbb hd h1β hv
 refine Rg 6 J <| Um J J <| aA (bS J J J J J om J) J <| aA (dH (l := lvC (x.2.2.getD i default)) J J J) J <| aY (dU J) J <| Ua J J <| aU (cA (cs' := chc (x.2.2.getD i default)) J J J g0 J J J J) <| Nk [2,4,6,8,9,10,11,12,26,27,28] J <| Rg 6 J <| aA (aM (l := lvC (x.2.2.getD i default)) J J gG J J) J ?_
 refine aA (aM (l := lvX d) J J gG J J) J ?_
 refine Um J J <| aA (aJ J (mM (x.2.2.getD i default) d kv vx n0 hri hbi hd hl β h1β hβ hv) (bO (by intro c hc; simp only [List.mem_cons, List.not_mem_nil, or_false] at hc; rcases hc with rfl | rfl | rfl; exact lQ; exact lQ; exact (.sl _ _ fun row hr => bN pW row hr)))) J <| aY (dU J) J <| aU (cA (cs' := xc (xyl (x.2.2.getD i default) d vx)) J J J g0 J J J J) <| Nk [2,4,6,8,9,10,11,13,26,27,28] J <| aB <| Rg 5 J <| Um J J <| aA (aM (l := lvX (xyl (x.2.2.getD i default) d vx)) J J gG J J) J ?_
 refine aA (aM (l := lvX (xyl (x.2.2.getD (bkF x.1.1 (ysF x d.1 (vl vx)) i) default) d vx)) J J gG J J) J ?_
 refine aA (oCallVD J J (cmpf_run x.1.1 (xyl (x.2.2.getD i default) d vx) (xyl (x.2.2.getD (bkF x.1.1 (ysF x d.1 (vl vx)) i) default) d vx) (hyb.mono om) (hyb2.mono om)) (data3 d0 (by intro c hc; simp only [List.mem_cons, List.not_mem_nil, or_false] at hc; rcases hc with rfl | rfl; exact lQ; exact lQ) d0)) J <| Ua J J <| Nk [2,4,6,8,9,10,11,13,14,26,27,28] J <| aL <| aL <| cR <| aB <| aB <| Rg 3 J <| Um J J <| aA (eY J J) J <| aX (fun h43 => ?_) (fun h43 => ?_)
 ·refine Ua J J <| Nk [2,4,6,8,9,10,11,13,14,26,27,28,41] J <| aS J <| aV <| kY J <| aH <| aV <| kZ J <| aO J <| aI (z := 2) J <| aA (cI (((i + 1 : Nat) : Int)) (aP J J om) om) J <| Um J J <| Wn <| aG ?_
  have eb : (bkF x.1.1 (ysF x d.1 (vl vx)) (i + 1)) = (bkF x.1.1 (ysF x d.1 (vl vx)) i) := by rw [show i = 0 by omega, nM]; rfl
  refine ⟨i + 1, ⟨rfl, rfl, rfl, rfl, rfl, congrArg (fun z : Nat => some (LV.v (.int .i64 (z : Int)))) eb.symm, rfl, rfl, rfl, trivial⟩, ⟨e86 gG (by rw [eb]), gG, gG, trivial⟩, ⟨om, om⟩, by show x.2.2.length - (i + 1) < x.2.2.length - i; omega⟩
 refine Ua J J <| Nk [2,4,6,8,9,10,11,13,14,26,27,28,41] J <| aT J <| aF <| aB <| Rg 3 J <| Um J J <| aA (oLeq J J) J <| aX (fun h46 => ?_) (fun h46 => ?_)
 ·refine Ua J J <| Nk [2,4,6,8,9,10,11,13,26,27,28,44] J <| aS J <| aV <| gB J <| aO J <| aV <| kZ J <| aO J <| aI (z := 2) J <| aA (cI (((i + 1 : Nat) : Int)) (aP J J om) om) J <| Um J J <| Wn <| aG ?_
  have eb : (bkF x.1.1 (ysF x d.1 (vl vx)) (i + 1)) = (bkF x.1.1 (ysF x d.1 (vl vx)) i) := rQ fun hb => by have := oL.2 hb; rw [← xyl_v', ← xyl_v'] at this; omega
  refine ⟨i + 1, ⟨rfl, rfl, rfl, rfl, rfl, congrArg (fun z : Nat => some (LV.v (.int .i64 (z : Int)))) eb.symm, rfl, rfl, rfl, trivial⟩, ⟨e86 gG (by rw [eb]), gG, gG, trivial⟩, ⟨om, om⟩, by show x.2.2.length - (i + 1) < x.2.2.length - i; omega⟩
 refine Ua J J <| Nk [2,4,6,8,9,10,11,13,26,27,28,44] J <| aT J <| aF <| qO <| gB J <| kZ J <| aO J <| aI (z := 4) J <| aA (aM (l := lvX (xyl (x.2.2.getD i default) d vx)) J J gG J J) J ?_
 refine Um J J <| aU (cA (cs' := xc (xyl (x.2.2.getD i default) d vx)) J J J gG J J J J) ?_
 refine Ua J J <| Wn <| aH <| aI (z := 2) J <| aA (cI (((i + 1 : Nat) : Int)) (aP J J om) om) J <| Um J J <| Wn <| aG ?_
 have eb : (bkF x.1.1 (ysF x d.1 (vl vx)) (i + 1)) = i := bkF_yes (by have h7 : 0 < sgnF x.1.1 (xyl (x.2.2.getD i default) d vx).1 (xyl (x.2.2.getD (bkF x.1.1 (ysF x d.1 (vl vx)) i) default) d vx).1 := om; have h8 := oL.1 h7; rwa [xyl_v', xyl_v'] at h8)
 refine ⟨i + 1, ⟨rfl, rfl, rfl, rfl, rfl, congrArg (fun z : Nat => some (LV.v (.int .i64 (z : Int)))) eb.symm, rfl, rfl, rfl, trivial⟩, ⟨e86 gG (by rw [eb]), gG, gG, trivial⟩, ⟨om, om⟩, by show x.2.2.length - (i + 1) < x.2.2.length - i; omega⟩
theorem askv_run (a : NM) (h1 : I64 a.1) (h2 : I64 a.2) : Run Tryz.prog T E0 (.call 93 [lvM a] (.v (.bool (!vn a)))) := by
 refine bI Tryz.func93 J J (dL J) <| Rg 2 J <| aY (dY J J) J <| Ua J J <| Wn <| Rg 4 J <| aA (aM (l := lvM a) J J gG J J) J ?_
 refine aA (aJ J (iX a h1 h2) dD) J <| aA (fT J) J <| Ua J J <| Wn <| aN <| post (n := 0) (.inr J) J ?_ dD
 rfl
theorem chkv_run (a : NM) (h1 : I64 a.1) (h2 : I64 a.2) : Run Tryz.prog T E0 (.call 73 [lvM a] (.v (.bool (!vn a)))) := by
 refine bI Tryz.func73 J J (dL J) <| Rg 2 J <| aY (dY J J) J <| Ua J J <| Wn <| Rg 4 J <| aA (aM (l := lvM a) J J gG J J) J ?_
 refine aA (aJ J (iX a h1 h2) dD) J <| aA (fT J) J <| Ua J J <| Wn <| aN <| post (n := 0) (.inr J) J ?_ dD
 rfl
theorem kG (k kn : Nat) (ss : List Go.Ab.ST) (f : NM) (ns : List NM) (hI : ∀ s, s ∈ ss → IS s) (hf1 : I64 f.1) (hf2 : I64 f.2) (hns : IV ns) (ln : ns.length < 1099511627776) : Run Tryz.prog T E0 (.call 58 [lvMo k ss, lvM f, .sl kn (ns.map mc)] (.v (.int .i64 (eD ss f ns)))) := by
 refine bI Tryz.func58 J J (dL J) <| Rg 3 J <| aY (dY J J) J <| aY (dY J J) J <| Ua J J <| Wn <| aL <| Rg 13 J <| aA (aM (l := lvMo k ss) J J gG J J) J ?_
 refine aA (aJ J (mvmodel_run k ss hI) dD) J <| eX (fun h9 => ?_) (fun h9 => ?_)
 rotate_left
 ·refine aA (fT J) J <| Um J J <| K1 J J <| K1 J J <| K1 J J <| aA (bL J J) J <| Um J J <| K1 J J <| K1 J J <| aA (bL J J) J <| Ua J J <| Nk [4,7] J <| bW J <| Rg 1 J <| Ua J J <| Wn <| aN <| aW <| post (n := 0) (.inr J) J ?_ dD
  exact congrArg (fun z => LV.v (.int .i64 z)) (show 1 = (eD ss f ns) by unfold eD; rw [if_neg (fun h => by rw [h9] at h; cases h.1)])
 refine aA (fT J) J <| Um J J <| aK J (aM (l := lvM f) J J gG J J) J ?_
 refine aK J (aJ J (iX f hf1 hf2) dD) J <| eX (fun h13 => ?_) (fun h13 => ?_)
 rotate_left
 ·refine aK J (fT J) J <| aA (bP J J) J <| Um J J <| K1 J J <| K1 J J <| aA (bL J J) J <| Ua J J <| Nk [4,7] J <| bW J <| Rg 1 J <| Ua J J <| Wn <| aN <| aW <| post (n := 0) (.inr J) J ?_ dD
  exact congrArg (fun z => LV.v (.int .i64 z)) (show 1 = (eD ss f ns) by unfold eD; rw [if_neg (fun h => absurd h.2.1 (of_decide_eq_false h13))])
 refine aK J (fT J) J <| aA (bP J J) J <| Um J J <| aK J (eF J) J <| aK J (aJ J (con1_run kn ns 93 [] (fun a => !vn a) d0 om (fun a ha => askv_run a (hns a ha).1 (hns a ha).2)) (bO (by intro c hc; simp only [List.mem_cons, List.not_mem_nil, or_false] at hc; rcases hc with rfl | rfl; exact (.sl _ _ fun row hr => bN dmc row hr); exact dfn d0 d0))) J <| eX (fun h18 => ?_) (fun h18 => ?_)
 ·refine aA (bP J J) J <| Ua J J <| Nk [4,7] J <| bW J <| Rg 1 J <| Ua J J <| Wn <| aN <| aW <| post (n := 0) (.inr J) J ?_ dD
  exact congrArg (fun z => LV.v (.int .i64 z)) (show 1 = (eD ss f ns) by unfold eD; rw [if_neg (fun h => by have h7 := any_not vn ns; rw [h18, h.2.2] at h7; cases h7)])
 refine aA (bP J J) J <| Ua J J <| Nk [4,7] J <| bZ J <| Rg 11 J <| aA (bD J J J J J) J <| aA (aM J J gG J J) J ?_
 refine aA (oLeq J J) J <| aX (fun h23 => ?_) (fun h23 => ?_)
 ·refine Um J J <| K1 J J <| K1 J J <| K1 J J <| K1 J J <| K1 J J <| aA (bL J J) J <| Ua J J <| Wn <| bW J <| Rg 1 J <| Ua J J <| Wn <| aN <| aW <| post (n := 0) (.inr J) J ?_ dD
  exact congrArg (fun z => LV.v (.int .i64 z)) (show 6 = (eD ss f ns) by unfold eD; rw [if_pos ⟨h9, of_decide_eq_true h13, kE h18⟩, if_neg om])
 refine Um J J <| aK J (bD J J J J J) J <| aK J (aM J J gG J J) J ?_
 refine aK J (bD J J J J J) J <| aK J (aM J J gG J J) J ?_
 refine aK J (iG J J) J <| aX (fun h29 => ?_) (fun h29 => ?_)
 ·refine aA (bP J J) J <| Ua J J <| Wn <| bW J <| Rg 1 J <| Ua J J <| Wn <| aN <| aW <| post (n := 0) (.inr J) J ?_ dD
  exact congrArg (fun z => LV.v (.int .i64 z)) (show 6 = (eD ss f ns) by unfold eD; rw [if_pos ⟨h9, of_decide_eq_true h13, kE h18⟩, if_neg om])
 refine aA (bP J J) J <| Ua J J <| Wn <| bZ J <| cV <| aH <| Rg 1 J <| Ua J J <| Wn <| aN <| post (n := 0) (.inr J) J ?_ dD
 exact congrArg (fun z => LV.v (.int .i64 z)) (show 0 = (eD ss f ns) by unfold eD; rw [if_pos ⟨h9, of_decide_eq_true h13, kE h18⟩, if_pos om])
end Go.Proofs.YtahljdjhhapngaaGreat
namespace Go.Proofs.YtahljdjhhapngaaGreat
open Go.Ab Go.RowKit
theorem dchk_run (k kn : Nat) (ss : List Go.Ab.ST) (f : NM) (ns : List NM) (hI : ∀ s, s ∈ ss → IS s) (hf1 : I64 f.1) (hf2 : I64 f.2) (hns : IV ns) (ln : ns.length < 1000000) : Run Tryz.prog T E0 (.call 42 [lvMo k ss, lvM f, .sl kn (ns.map mc)] (chkO ss f ns)) := by
 refine bI Tryz.func42 J J (dL J) <| Rg 4 J <| aY (dY J J) J <| aY (dY J J) J <| Ua J J <| Ua J J <| Wn <| aB <| Rg 4 J <| aA (aM (l := lvMo k ss) J J gG J J) J ?_
 refine aA (aM (l := lvM f) J J gG J J) J ?_
 refine aA (aJ J (kG k 0 ss f [] hI hf1 hf2 (by intro a ha; cases ha) (by decide)) (bO (by intro c hc; simp only [List.mem_cons, List.not_mem_nil, or_false] at hc; rcases hc with rfl | rfl | rfl; exact lQ; exact lQ; exact (.sl 0 [] (by simp))))) J <| Ua J J <| Wn <| aB <| Rg 2 J <| Um J J <| aA (dZ J J) J <| aX (fun h19 => ?_) (fun h19 => ?_)
 ·refine Wn <| aS J <| aB <| Rg 3 J <| Um J J <| Ua J J <| Ua J J <| Wn <| bA <| post (n := 0) (.inr J) J ?_ jP
  show _ = chkO ss f ns
  unfold chkO; rw [if_neg h19]; rfl
 refine Wn <| aT J <| aF <| aB <| Rg 10 J <| Um J J <| aA (aZ J J) J <| aA (bD J J J J J) J <| aA (aM J J gG J J) J ?_
 refine aA (aZ J J) J <| aA (dZ J J) J <| aX (fun h26 => ?_) (fun h26 => ?_)
 ·refine Um J J <| K1 J J <| K1 J J <| aA (bL J J) J <| Nk [2,3,4,30] J <| aS J <| aB <| Rg 2 J <| Ua J J <| Ua J J <| Wn <| bA <| post (n := 0) (.inr J) J ?_ jP
  show _ = chkO ss f ns
  unfold chkO; rw [if_pos (Classical.not_not.1 h19), decide_eq_false (fun e => h26 (congrArg Int.ofNat e))]; rfl
 refine Um J J <| aK J (eF J) J <| aK J (aJ J (con1_run kn ns 73 [] (fun a => !vn a) d0 om (fun a ha => chkv_run a (hns a ha).1 (hns a ha).2)) (bO (by intro c hc; simp only [List.mem_cons, List.not_mem_nil, or_false] at hc; rcases hc with rfl | rfl; exact (.sl _ _ fun row hr => bN dmc row hr); exact dfn d0 d0))) J <| eX (fun h29 => ?_) (fun h29 => ?_)
 ·refine aA (bP J J) J <| Nk [2,3,4,30] J <| aS J <| aB <| Rg 2 J <| Ua J J <| Ua J J <| Wn <| bA <| post (n := 0) (.inr J) J ?_ jP
  show _ = chkO ss f ns
  unfold chkO; rw [if_pos (Classical.not_not.1 h19), ← any_not, h29]; cases decide (ns.length = ss.length) <;> rfl
 refine aA (bP J J) J <| Nk [2,3,4,30] J <| aT J <| aF ?_
 obtain ⟨hV, hvf, hall, hf0, hf3⟩ := eD_ok (ns := ns) (eD_full (Classical.not_not.1 h19) (kE h29))
 have hva := vn_all hall
 have hV1 := kW hV
 have hn40 := hV1.wt.len
 have hD := iP hV (lE hvf hf0 hf3).1 (lE hvf hf0 hf3).2
 have hxb := nx_bd hva
 have hvl := vl_nx ns
 have hxl : (ns.map nx).length = ss.length := by rw [List.length_map]; exact (Int.ofNat.inj (Classical.not_not.1 h26))
 refine bG (z := 7) J kR <| Dm J J <| aD (aJ J (pI kn ns om hns (fun a ha => (hva a ha).all3.2.2)) dD) J <| aD (aM (l := lvM f) J J gG J J) J ?_
 refine aD (bK (b := lvX (nx f)) (aJ J (eR f hf1 hf2 hvf.all3.2.2) dD) J) J <| mN (dU J) J <| aD (iA J) J <| bX (cA (cs' := xc (nx f)) J J J g0 J J J J) <| bE (aQ kR) J <| aB <| Rg 4 J <| aA (bD J J J J J) J <| aA (aM J J gG J J) J ?_
 refine aA (aZ J J) J <| Um J J <| Wn <| aL <| bB (α := Nat) (fun i => [(9, .sl (kd (ns.map nx).length) ((ns.map nx).map xc)), (10, .ptr (0 + 4 + 4 + 2 + 10 + 4) 0), (36, .sl k (ss.map stc)), (37, .v (.int .i64 (ss.length : Int))), (38, .v (.int .i64 (i : Int)))]) (fun i => [((0 + 4 + 4 + 2 + 10 + 4), { cells := xc (nx f), sz := 4, elem := (102), st := 0 })]) (fun i n => i ≤ ss.length ∧ (∀ a, a < i → (fun a : Nat => decide (bsV (ss.getD a default) (nq f) (vl (ns.map nx)) = (vl (ns.map nx)) a)) a = true) ∧ 24 < n) (fun i => ss.length - i) (0) ⟨J, J, J, J, J, trivial⟩ ⟨gG, trivial⟩ ⟨Nat.zero_le _, fun a ha => absurd ha om, om⟩ ?_
 rintro i n hF
 change WC _ _ _ _ _ (_ :: _) (_ :: _) n _
 obtain ⟨hi, hA, hn⟩ := hF
 refine Rg 1 J <| aA (bR J J) J <| aX (fun h39 => ?_) (fun h39 => ?_)
 rotate_left
 ·refine Wn <| aT J <| aV <| aR <| aO J <| Rg 2 J <| Ua J J <| Ua J J <| Wn <| aN <| post (n := 0) (.inr J) J ?_ jP
  show _ = chkO ss f ns
  unfold chkO isV; rw [if_pos (Classical.not_not.1 h19), ← hvl, range_take hA om, hall, decide_eq_true (show ns.length = ss.length by omega)]; rfl
 refine Wn <| aS J <| aF <| aL ?_
 have hm := bJ (us := ss) (i := i) om
 have hcl := hV1.cs _ hm
 refine Rg 6 J <| Um J J <| aA (bS J J J J J om J) J <| aA (dH (l := .agg (stc (ss.getD i default))) J J J) J <| aY (dU J) J <| Ua J J <| aU (cA (cs' := stc (ss.getD i default)) J J J g0 J J J J) <| Wn <| Rg 10 J <| aA (aM (l := .agg (stc (ss.getD i default))) J J gG J J) J ?_
 refine aA (aM (l := lvX (nx f)) J J gG J J) J ?_
 refine Um J J <| aA (aJ J (rO (ss.getD i default) (nx f) (kd (ns.map nx).length) (ns.map nx) ss.length hcl (fun c hc => jI hV hm hc) hvf.bd hxl 2 (by decide) (by decide) hxb) (bO (by intro c hc; simp only [List.mem_cons, List.not_mem_nil, or_false] at hc; rcases hc with rfl | rfl | rfl; exact (.agg _ fun c hc => dstc1 _ c hc); exact lQ; exact (.sl _ _ fun row hr => bN pW row hr)))) J <| Um J J <| aA (dF J J) J <| aA (dF J J) J <| aY (dU J) J <| aU (cA (cs' := xc (xyl ((ss.getD i default).2.2.getD (bsK (ss.getD i default) (nx f).1 (vl (ns.map nx))) default) (nx f) (ns.map nx))) J J J g0 J J J J) <| Ua J J <| Nk [9,10,11,13,36,37,38] J ?_
 have hbk := bsK_lt (d := (nx f).1) (v := (vl (ns.map nx))) (x := (ss.getD i default)) om
 obtain ⟨hrb, hvbb⟩ := jI hV hm (bJ (us := (ss.getD i default).2.2) hbk)
 have hyb := xyl_bd (d := nx f) hrb hvbb hvf.bd (by decide) hxb
 have hgb := kK (by decide) hxb i
 have hbv : (xyl ((ss.getD i default).2.2.getD (bsK (ss.getD i default) (nx f).1 (vl (ns.map nx))) default) (nx f) (ns.map nx)).1 = bsV (ss.getD i default) (nq f) (vl (ns.map nx)) := xyl_v _ _ _
 refine bG (z := 7) J kR <| aD (aM (l := lvX (xyl ((ss.getD i default).2.2.getD (bsK (ss.getD i default) (nx f).1 (vl (ns.map nx))) default) (nx f) (ns.map nx))) J J gG J J) J ?_
 refine Dm J J <| Dm J J <| aD (bS (j := i) J J J J om om J) J <| aD (dH (l := lvX ((ns.map nx).getD i default)) J J J) J <| aD (aJ J (jW (xyl ((ss.getD i default).2.2.getD (bsK (ss.getD i default) (nx f).1 (vl (ns.map nx))) default) (nx f) (ns.map nx)) ((ns.map nx).getD i default) (hyb.mono om) (hgb.mono om)) dD) J <| aD (dZ J J) J <| rK (fun h56 => ?_) (fun h56 => ?_)
 rotate_left
 ·refine bE (aQ kR) J <| bZ J <| cV <| aH <| aI (z := 2) J <| aA (cI (((i + 1 : Nat) : Int)) (aP J J om) om) J <| Um J J <| Wn <| aG <| ⟨i + 1, ⟨J, J, J, J, J, trivial⟩, ⟨gG, trivial⟩, ⟨om, fun a ha => ?_, om⟩, by show ss.length - (i + 1) < ss.length - i; omega⟩
  by_cases e : a = i
  ·rw [e]; exact decide_eq_true (by have h57 := Classical.not_not.1 h56; rw [sign_num0, hbv, jK] at h57; exact h57)
  ·exact hA a om
 refine bE (aQ kR) J <| bW J <| Rg 2 J <| Ua J J <| Ua J J <| Nk [6,7] J <| aN <| aW <| bY <| aW <| post (n := 0) (.inr J) J ?_ jP
 show _ = chkO ss f ns
 unfold chkO isV; rw [if_pos (Classical.not_not.1 h19), ← hvl, oI (i := i) om (decide_eq_false (fun e => h56 (by rw [sign_num0, hbv, e, jK]))), Bool.and_false]; rfl
theorem yrow_len {ss : List Go.Ab.ST} {d : Rat} {v : Nat → Rat} {i : Nat} {ds : List X1} (hV : VM1 ss) (hi : i ≤ ss.length) (h : vX ds = tab i (fun a : Nat => tab (ss.getD a default).2.2.length (ysF (ss.getD a default) d v))) : ∀ r, r ∈ ds → r.2.length ≤ 8 := by
 intro r hr
 have h1 : r.2.map (·.1) ∈ vX ds := List.mem_map.2 ⟨r, hr, rfl⟩
 rw [h] at h1
 obtain ⟨a, ha, e⟩ := List.mem_map.1 h1
 have h2 := congrArg List.length e
 rw [cW, List.length_map] at h2
 have := hV.cs _ (bJ (us := ss) (i := a) (by have := List.mem_range.1 ha; omega))
 omega
theorem dyields_run (k kn : Nat) (ss : List Go.Ab.ST) (f : NM) (ns : List NM) (hI : ∀ s, s ∈ ss → IS s) (hf1 : I64 f.1) (hf2 : I64 f.2) (hns : IV ns) (ln : ns.length < 1000000) : Run Tryz.prog T E0 (.call 46 [lvMo k ss, lvM f, .sl kn (ns.map mc)] (ydsO ss f ns)) := by
 refine bI Tryz.func46 J J (dL J) <| Rg 4 J <| aY (dY J J) J <| aY (dY J J) J <| Ua J J <| Ua J J <| Wn <| aB <| Rg 5 J <| aA (aM (l := lvMo k ss) J J gG J J) J ?_
 refine aA (aM (l := lvM f) J J gG J J) J ?_
 refine Um J J <| aA (aJ J (kG k kn ss f ns hI hf1 hf2 hns om) (bO (by intro c hc; simp only [List.mem_cons, List.not_mem_nil, or_false] at hc; rcases hc with rfl | rfl | rfl; exact lQ; exact lQ; exact (.sl _ _ fun row hr => bN dmc row hr)))) J <| Ua J J <| Wn <| aB <| Rg 2 J <| Um J J <| aA (dZ J J) J <| aX (fun h22 => ?_) (fun h22 => ?_)
 ·refine Wn <| aS J <| aB <| Rg 3 J <| Um J J <| Ua J J <| Ua J J <| Nk [6,7] J <| bA <| post (n := 0) (.inr J) J ?_ pS
  show _ = ydsO ss f ns
  unfold ydsO; rw [if_neg h22]; rfl
 refine Wn <| aT J <| aF <| aB <| Rg 6 J <| Um J J <| aA (aZ J J) J <| aA (bD J J J J J) J <| aA (aM J J gG J J) J ?_
 refine aA (aZ J J) J <| aA (dZ J J) J <| aX (fun h29 => ?_) (fun h29 => ?_)
 ·refine Nk [2,3,4,29] J <| aS J <| aB <| Rg 2 J <| Ua J J <| Ua J J <| Wn <| bA <| post (n := 0) (.inr J) J ?_ pS
  show _ = ydsO ss f ns
  unfold ydsO; rw [if_pos (Classical.not_not.1 h22), if_neg (fun e => h29 (congrArg Int.ofNat e))]; rfl
 refine Nk [2,3,4,29] J <| aT J <| aF ?_
 obtain ⟨hV, hvf, hall, hf0, hf3⟩ := eD_ok (Classical.not_not.1 h22)
 have hva := vn_all hall
 have hV1 := kW hV
 have hn40 := hV1.wt.len
 have hD := iP hV (lE hvf hf0 hf3).1 (lE hvf hf0 hf3).2
 have hxb := nx_bd hva
 have hvl := vl_nx ns
 have hxl : (ns.map nx).length = ss.length := by rw [List.length_map]; exact (Int.ofNat.inj (Classical.not_not.1 h29))
 refine bG (z := 7) J kR <| Dm J J <| aD (aJ J (pI kn ns om hns (fun a ha => (hva a ha).all3.2.2)) dD) J <| aD (aM (l := lvM f) J J gG J J) J ?_
 refine aD (bK (b := lvX (nx f)) (aJ J (eR f hf1 hf2 hvf.all3.2.2) dD) J) J <| mN (dU J) J <| aD (iA J) J <| bX (cA (cs' := xc (nx f)) J J J g0 J J J J) <| bE (aQ kR) J <| Rg 1 J <| Ua J J <| Wn <| aB <| Rg 4 J <| aA (bD J J J J J) J <| aA (aM J J gG J J) J ?_
 refine aA (aZ J J) J <| Um J J <| Nk [9,10,11,35,36,37] J <| aL <| bB (α := Nat × Nat × (List X1)) (fun ⟨i, q, ds⟩ => [(9, .sl (kd (ns.map nx).length) ((ns.map nx).map xc)), (10, .ptr (0 + 4 + 5 + 2 + 6 + 4) 0), (11, outV q 1 (ds.map fX)), (35, .sl k (ss.map stc)), (36, .v (.int .i64 (ss.length : Int))), (37, .v (.int .i64 (i : Int)))]) (fun ⟨i, q, ds⟩ => outH q 1 104 (ds.map fX) [((0 + 4 + 5 + 2 + 6 + 4), { cells := xc (nx f), sz := 4, elem := (102), st := 0 })]) (fun ⟨i, q, ds⟩ n => i ≤ ss.length ∧ vX ds = tab i (fun a : Nat => tab (ss.getD a default).2.2.length (ysF (ss.getD a default) (nq f) (vl (ns.map nx)))) ∧ ds.length = i ∧ q < n ∧ q ≠ (0 + 4 + 5 + 2 + 6 + 4) ∧ (0 + 4 + 5 + 2 + 6 + 4) < n) (fun ⟨i, q, ds⟩ => ss.length - i) (0, 0, []) ⟨J, J, J, J, J, J, trivial⟩ ⟨gG, trivial⟩ ⟨Nat.zero_le _, rfl, rfl, om, om, om⟩ ?_
 rintro ⟨i, q, ds⟩ n hF
 change WC _ _ _ _ _ (_ :: _) (outH _ _ _ _ _) n _
 obtain ⟨hi, hds, hdl, hq, hqy, hn⟩ := hF
 refine Rg 1 J <| aA (bR J J) J <| aX (fun h38 => ?_) (fun h38 => ?_)
 rotate_left
 ·refine Wn <| aT J <| aV <| aR <| aO J <| Rg 6 J <| Um J J <| aY (bK (b := lvOM (ydM ss f ns)) (oCallU J (by rw [iH]; exact mouts_run _ ds om (fun r hr => by have := yrow_len hV1 (show i ≤ ss.length by omega) hds r hr; omega)) (fun hu => dC hu) (by decide) (cJ (n := 1) (fun _ => rfl)) (bN dfX) (bO (by simp))) (congrArg lvOM (by rw [outX_eq, hds, hvl, show i = ss.length by omega]; rfl))) J <| aA (dF J J) J <| aA (dF J J) J <| Ua J J <| Ua J J <| Wn <| aN <| post (n := 0) (.inr J) J ?_ pS
  show _ = ydsO ss f ns
  unfold ydsO; rw [if_pos (Classical.not_not.1 h22), if_pos (show ns.length = ss.length by rw [List.length_map] at hxl; exact hxl)]; rfl
 refine Wn <| aS J <| aF <| aL ?_
 have hm := bJ (us := ss) (i := i) om
 have hcl := hV1.cs _ hm
 refine Rg 4 J <| aA (bS J J J J J om J) J <| aA (dH (l := .agg (stc (ss.getD i default))) J J J) J <| aY (dU J) J <| aU (cA (cs' := stc (ss.getD i default)) J J J g0 J J J J) <| Wn <| Rg 1 J <| Ua J J <| Wn <| aB <| Rg 4 J <| aA (bD J J J J J) J <| aA (aM J J (by repeat (first | exact g0 | refine g1 om ?_ | refine aC om ?_)) J J) J ?_
 refine aA (aZ J J) J <| Um J J <| Nk [9,10,11,14,35,36,37,42,43,44] J <| aL <| bB (α := Nat × Nat × (List X)) (fun ⟨j, q2, row⟩ => [(9, .sl (kd (ns.map nx).length) ((ns.map nx).map xc)), (10, .ptr (0 + 4 + 5 + 2 + 6 + 4) 0), (11, outV q 1 (ds.map fX)), (14, outV q2 4 (row.map xc)), (35, .sl k (ss.map stc)), (36, .v (.int .i64 (ss.length : Int))), (37, .v (.int .i64 (i : Int))), (42, .sl (ss.getD i default).2.1 ((ss.getD i default).2.2.map chc)), (43, .v (.int .i64 ((ss.getD i default).2.2.length : Int))), (44, .v (.int .i64 (j : Int)))]) (fun ⟨j, q2, row⟩ => outH q2 4 102 (row.map xc) (outH q 1 104 (ds.map fX) [((0 + 4 + 5 + 2 + 6 + 4), { cells := xc (nx f), sz := 4, elem := (102), st := 0 })])) (fun ⟨j, q2, row⟩ n => j ≤ (ss.getD i default).2.2.length ∧ row.map (·.1) = tab j (ysF (ss.getD i default) (nq f) (vl (ns.map nx))) ∧ row.length = j ∧ q2 < n ∧ q2 ≠ (0 + 4 + 5 + 2 + 6 + 4) ∧ q2 ≠ q ∧ q < n ∧ (0 + 4 + 5 + 2 + 6 + 4) < n) (fun ⟨j, q2, row⟩ => (ss.getD i default).2.2.length - j) (0, (n + 1), []) ⟨J, J, J, J, J, J, J, J, J, J, trivial⟩ (bC (q := q) (us := ds.map fX) (fun hne => by rw [bQ hne]; repeat (first | exact g0 | refine g1 om ?_ | refine aC om ?_)) ⟨(by repeat (first | exact g0 | refine g1 om ?_ | refine aC om ?_)), trivial⟩) ⟨Nat.zero_le _, rfl, rfl, om, om, om, om, om⟩ ?_
 rintro ⟨j, q2, row⟩ n hF
 change WC _ _ _ _ _ (_ :: _) (outH _ _ _ _ _) n _
 obtain ⟨hj, hrw, hrl, hq2, hq2y, hq2q, hqn, hn2⟩ := hF
 refine qP (z := 1) J <| aA (bR J J) J <| aX (fun h45 => ?_) (fun h45 => ?_)
 rotate_left
 ·refine Wn <| Fz.env (t := 14) (us := row.map xc) [(9, _), (10, _), (11, _), (35, _), (36, _), (37, _), (42, _), (43, _), (44, _), (45, _)] ⟨J, J, J, J, J, J, J, J, J, J, trivial⟩ J (fun _ r o hr => by rcases outH_dom hr with h | h <;> omega) (by decide) (cJ (n := 4) (fun _ => rfl)) (bN pW) <| aT J <| aV <| aR <| aO J <| aI (z := 5) J <| Um J J <| Um J J <| aA (cQ (cs := [_]) (rows := [[_]]) J J (by decide) J J J) J <| fA _ (subsM.get (bC (q := q) (sz := 1) (el := 104) (us := ds.map fX) (h := [((0 + 4 + 5 + 2 + 6 + 4), { cells := xc (nx f), sz := 4, elem := (102), st := 0 })]) (fun hne => by rw [bQ hne]; repeat (first | exact g0 | refine g1 om ?_ | refine aC om ?_)) ⟨(by repeat (first | exact g0 | refine g1 om ?_ | refine aC om ?_)), trivial⟩)) ?_
  refine cU (te := ti104) (f := fX) (q := q) (us := ds) (u := (kd (row.map xc).length, row)) J J J J J (fun _ => rfl) (by decide) (by show (2 * (ds.length + 1) + 256) * 24 ≤ _; omega) om (g1 om J) (g1 om J) J <| Ua J J <| Wn <| aH <| Ck [9,10,11,35,36,37] J <| aI (z := 2) J <| aA (cI (((i + 1 : Nat) : Int)) (aP J J om) om) J <| Um J J <| Wn <| aG ?_
  have hjn : j = (ss.getD i default).2.2.length := by omega
  refine ⟨⟨i + 1, _, ds ++ [(kd (row.map xc).length, row)]⟩, ⟨J, J, J, J, J, J, trivial⟩, subsM_out1 om, ⟨om, ?_, by simp; omega, om, om, om⟩, by show ss.length - (i + 1) < ss.length - i; omega⟩
  rw [vX_app, hds, jZ]
  congr 1
  show [row.map (·.1)] = _
  rw [hrw, hjn]
 refine Wn <| Fz.same [(9, _), (10, _), (11, _), (14, _), (35, _), (36, _), (37, _), (42, _), (43, _), (44, _), (45, _)] _ ⟨J, J, J, J, J, J, J, J, J, J, J, trivial⟩ (fun _ _ h => h) <| aS J <| aF <| aL ?_
 have hmc := bJ (us := (ss.getD i default).2.2) (i := j) om
 obtain ⟨hrw9, hvb⟩ := jI hV hm hmc
 refine Rg 4 J <| aA (bS J J J J J om J) J <| aA (dH (l := lvC ((ss.getD i default).2.2.getD j default)) J J J) J <| aY (dU J) J <| aU (cA (cs' := chc ((ss.getD i default).2.2.getD j default)) J J J g0 J J J J) <| Wn <| aI (z := 8) J <| Um J J <| aA (aM (l := lvC ((ss.getD i default).2.2.getD j default)) J J (by repeat (first | exact g0 | refine g1 om ?_ | refine aC om ?_)) J J) J ?_
 refine aA (aM (l := lvX (nx f)) J J (by repeat (first | exact g0 | refine g1 om ?_ | refine aC om ?_)) J J) J ?_
 refine Um J J <| aA (aJ J (mM ((ss.getD i default).2.2.getD j default) (nx f) (kd (ns.map nx).length) (ns.map nx) ss.length hrw9 hvb hvf.bd hxl 2 (by decide) (by decide) hxb) (bO (by intro c hc; simp only [List.mem_cons, List.not_mem_nil, or_false] at hc; rcases hc with rfl | rfl | rfl; exact lQ; exact lQ; exact (.sl _ _ fun row hr => bN pW row hr)))) J <| aA (cQ (cs := [_, _, _, _]) (rows := [[_, _, _, _]]) J J (by decide) J J J) J <| fA _ (subsM.get (bC (q := q2) (sz := 4) (el := 102) (us := row.map xc) (h := outH q 1 104 (ds.map fX) [((0 + 4 + 5 + 2 + 6 + 4), { cells := xc (nx f), sz := 4, elem := (102), st := 0 })]) (fun hne => by rw [bQ hne]; repeat (first | exact g0 | refine g1 om ?_ | refine aC om ?_)) (bC (q := q) (sz := 1) (el := 104) (us := ds.map fX) (h := [((0 + 4 + 5 + 2 + 6 + 4), { cells := xc (nx f), sz := 4, elem := (102), st := 0 })]) (fun hne => by rw [bQ hne]; repeat (first | exact g0 | refine g1 om ?_ | refine aC om ?_)) ⟨(by repeat (first | exact g0 | refine g1 om ?_ | refine aC om ?_)), trivial⟩))) ?_
 refine cU (te := ti102) (f := xc) (q := q2) (us := row) (u := xyl ((ss.getD i default).2.2.getD j default) (nx f) (ns.map nx)) J J J J J (fun _ => rfl) (by decide) (by show (2 * (row.length + 1) + 256) * 64 ≤ _; omega) om (aC om (g1 om J)) (aC om (g1 om J)) J <| Ua J J <| Wn <| aH <| Ck [9,10,11,14,35,36,37,42,43,44] J <| aI (z := 2) J <| aA (cI (((j + 1 : Nat) : Int)) (aP J J om) om) J <| Um J J <| Wn <| aG <| ⟨⟨j + 1, _, row ++ [xyl ((ss.getD i default).2.2.getD j default) (nx f) (ns.map nx)]⟩, ⟨J, J, J, J, J, J, J, J, J, J, trivial⟩, subsM_oo om om om, ⟨om, ?_, by simp; omega, om, om, om, om, om⟩, by show (ss.getD i default).2.2.length - (j + 1) < (ss.getD i default).2.2.length - j; omega⟩
 rw [List.map_append, hrw, jZ]
 congr 1
 show [(xyl ((ss.getD i default).2.2.getD j default) (nx f) (ns.map nx)).1] = _
 rw [xyl_v]; rfl
theorem dgap_run (k kn : Nat) (ss : List Go.Ab.ST) (f : NM) (ns : List NM) (hI : ∀ s, s ∈ ss → IS s) (hf1 : I64 f.1) (hf2 : I64 f.2) (hns : IV ns) (ln : ns.length < 1000000) : Run Tryz.prog T E0 (.call 47 [lvMo k ss, lvM f, .sl kn (ns.map mc)] (gapO ss f ns)) := by
 refine bI Tryz.func47 J J (dL J) <| Rg 4 J <| aY (dY J J) J <| aY (dY J J) J <| aY (dU J) J <| Ua J J <| Wn <| aB <| Rg 5 J <| aA (aM (l := lvMo k ss) J J gG J J) J ?_
 refine aA (aM (l := lvM f) J J gG J J) J ?_
 refine Um J J <| aA (aJ J (kG k kn ss f ns hI hf1 hf2 hns om) (bO (by intro c hc; simp only [List.mem_cons, List.not_mem_nil, or_false] at hc; rcases hc with rfl | rfl | rfl; exact lQ; exact lQ; exact (.sl _ _ fun row hr => bN dmc row hr)))) J <| Ua J J <| Wn <| aB <| Rg 2 J <| Um J J <| aA (dZ J J) J <| aX (fun h24 => ?_) (fun h24 => ?_)
 ·refine Wn <| aS J <| aB <| Rg 4 J <| aA (eW (cs := [_, _]) J J J J J) J <| Um J J <| aU (cA (cs' := [_, _]) J J J J J J J J) <| Ua J J <| Nk [6,7] J <| bA <| post (n := 0) (.inr J) J ?_ lT
  show _ = gapO ss f ns
  unfold gapO; rw [if_neg h24]; rfl
 refine Wn <| aT J <| aF <| aB <| Rg 6 J <| Um J J <| aA (aZ J J) J <| aA (bD J J J J J) J <| aA (aM J J gG J J) J ?_
 refine aA (aZ J J) J <| aA (dZ J J) J <| aX (fun h32 => ?_) (fun h32 => ?_)
 ·refine Nk [2,3,4,6,32] J <| aS J <| aB <| Rg 3 J <| aA (eW (cs := [_, _]) J J J J J) J <| aU (cA (cs' := [_, _]) J J J J J J J J) <| Ua J J <| Wn <| bA <| post (n := 0) (.inr J) J ?_ lT
  show _ = gapO ss f ns
  unfold gapO; rw [if_pos (Classical.not_not.1 h24), if_neg (fun e => h32 (congrArg Int.ofNat e))]; rfl
 refine Nk [2,3,4,6,32] J <| aT J <| aF ?_
 obtain ⟨hV, hvf, hall, hf0, hf3⟩ := eD_ok (Classical.not_not.1 h24)
 have hva := vn_all hall
 have hV1 := kW hV
 have hn40 := hV1.wt.len
 have hD := iP hV (lE hvf hf0 hf3).1 (lE hvf hf0 hf3).2
 have hxb := nx_bd hva
 have hvl := vl_nx ns
 have hxl : (ns.map nx).length = ss.length := by rw [List.length_map]; exact (Int.ofNat.inj (Classical.not_not.1 h32))
 refine bG (z := 7) J kR <| Dm J J <| aD (aJ J (pI kn ns om hns (fun a ha => (hva a ha).all3.2.2)) dD) J <| aD (aM (l := lvM f) J J gG J J) J ?_
 refine aD (bK (b := lvX (nx f)) (aJ J (eR f hf1 hf2 hvf.all3.2.2) dD) J) J <| mN (dU J) J <| aD (iA J) J <| bX (cA (cs' := xc (nx f)) J J J g0 J J J J) <| bE (aQ kR) J <| aB <| Rg 9 J <| aA (aM (l := lvMo k ss) J J gG J J) J ?_
 refine aA (aM (l := lvM f) J J gG J J) J ?_
 refine Um J J <| aA (bK (b := lvOM (ydM ss f ns)) (aJ J (dyields_run k kn ss f ns hI hf1 hf2 hns ln) (bO (by intro c hc; simp only [List.mem_cons, List.not_mem_nil, or_false] at hc; rcases hc with rfl | rfl | rfl; exact lQ; exact lQ; exact (.sl _ _ fun row hr => bN dmc row hr)))) (by unfold ydsO; rw [if_pos (Classical.not_not.1 h24), if_pos (show ns.length = ss.length by rw [List.length_map] at hxl; exact hxl)])) J <| Um J J <| aA (dF J J) J <| aA (dF J J) J <| Ua J J <| Ua J J <| Nk [3,6,9,10,12] J <| aB <| Rg 2 J <| Um J J <| aA (dZ J J) J <| aX (fun h46 => ?_) (fun h46 => ?_)
 ·refine Wn <| aS J <| aB <| Rg 4 J <| aA (eW (cs := [_, _]) J J J J J) J <| Um J J <| aU (cA (cs' := [_, _]) J J J J J J J J) <| Ua J J <| Wn <| bA <| post (n := 0) (.inr J) J ?_ lT
  show _ = gapO ss f ns
  have hs : ¬ (ydM ss f ns).isSome = true := fun hs => h46 (if_pos hs)
  rw [if_neg hs]
  unfold gapO; rw [if_pos (Classical.not_not.1 h24), if_pos (show ns.length = ss.length by rw [List.length_map] at hxl; exact hxl), if_neg hs]; rfl
 refine Wn <| aT J <| aF <| Rg 1 J <| aY (dU J) J <| Wn <| aB <| Rg 4 J <| aA (bD J J J J J) J <| aA (aM J J gG J J) J ?_
 refine aA (aZ J J) J <| Um J J <| Wn <| aL <| bB (α := Nat × X) (fun ⟨i, gx⟩ => [(6, .ptr (0 + 2) 0), (9, .sl (kd (ns.map nx).length) ((ns.map nx).map xc)), (10, .ptr (0 + 4 + 5 + 2 + 6 + 4) 0), (13, .ptr (0 + 4 + 5 + 2 + 6 + 7 + 9 + 2) 0), (50, .sl k (ss.map stc)), (51, .v (.int .i64 (ss.length : Int))), (52, .v (.int .i64 (i : Int)))]) (fun ⟨i, gx⟩ => [((0 + 4 + 5 + 2 + 6 + 7 + 9 + 2), { cells := xc (gx), sz := 4, elem := (102), st := 0 }), ((0 + 4 + 5 + 2 + 6 + 4), { cells := xc (nx f), sz := 4, elem := (102), st := 0 }), ((0 + 2), { cells := mc (0, 0), sz := 2, elem := (26), st := 0 })]) (fun ⟨i, gx⟩ n => i ≤ ss.length ∧ gx.1 = (gapF ss (nq f) (vl (ns.map nx)) i) ∧ Bd 100 gx.1 ∧ 36 < n) (fun ⟨i, gx⟩ => ss.length - i) (0, x0) ⟨J, J, J, J, J, J, J, trivial⟩ ⟨gG, gG, gG, trivial⟩ ⟨Nat.zero_le _, rfl, Bd_0.mono (by decide), om⟩ ?_
 rintro ⟨i, gx⟩ n hF
 change WC _ _ _ _ _ (_ :: _) (_ :: _) n _
 obtain ⟨hi, hg, hgb2, hn⟩ := hF
 refine Rg 1 J <| aA (bR J J) J <| aX (fun h53 => ?_) (fun h53 => ?_)
 rotate_left
 ·refine Wn <| aT J <| aV <| aR <| aO J ?_
  have hin : i = ss.length := by omega
  have hden : (xadd (xint 1) (xneg (nx f))).1 ≠ 0 := den1_ne hD.d1
  have hgo : (xdiv gx (xadd (xint 1) (xneg (nx f)))).1 = (gapF ss (nq f) (fn_ (ns.map nq)) ss.length / (1 - nq f)) := by show gx.1 / (1 + -(nq f)) = _; rw [hg, hin, hvl, ← Rat.sub_eq_add_neg]
  have hdenb : Bd 6 (xadd (xint 1) (xneg (nx f))).1 := (Bd_1.add hvf.bd.neg).mono (by decide)
  refine bG (z := 10) J kR <| aD (aM (l := lvX gx) J J gG J J) J ?_
  refine aD (aJ J (gQ 1 I64_1) dD) J <| aD (aM (l := lvX (nx f)) J J gG J J) J ?_
  refine aD (aJ J (rsub_run (xint 1) (nx f) (Bd_1.mono (by decide)) (hvf.bd.mono (by decide))) dD) J <| aD (aJ J (rdiv_run gx (xadd (xint 1) (xneg (nx f))) hden (hgb2.mono (by decide)) (hdenb.mono (by decide))) dD) J <| aD (bK (b := .tup [lvM ((outN (gapF ss (nq f) (fn_ (ns.map nq)) ss.length / (1 - nq f))).getD (0, 0)), .v (.int .i64 (if (outN (gapF ss (nq f) (fn_ (ns.map nq)) ss.length / (1 - nq f))).isSome = true then 0 else 3))]) (aJ J (nout_run (xdiv gx (xadd (xint 1) (xneg (nx f))))) dD) (by rw [lvO_pair, hgo])) J <| aD (dF J J) J <| aD (dF J J) J <| bX (cA (cs' := mc ((outN (gapF ss (nq f) (fn_ (ns.map nq)) ss.length / (1 - nq f))).getD (0, 0))) J J J gG J J J J) ?_
  refine aD (iA J) J <| bE (aQ kR) J <| Ck [6,7] J <| aN <| post (n := 0) (.inr J) J ?_ lT
  show _ = gapO ss f ns
  have hs : (ydM ss f ns).isSome = true := Classical.byContradiction fun hs => h46 (by rw [if_neg hs]; decide)
  unfold gapO; rw [if_pos (Classical.not_not.1 h24), if_pos (show ns.length = ss.length by rw [List.length_map] at hxl; exact hxl), if_pos hs, lvO_pair]; rfl
 refine Wn <| aS J <| aF <| aL ?_
 have hm := bJ (us := ss) (i := i) om
 have hcl := hV1.cs _ hm
 refine Rg 6 J <| Um J J <| aA (bS J J J J J om J) J <| aA (dH (l := .agg (stc (ss.getD i default))) J J J) J <| aY (dU J) J <| Ua J J <| aU (cA (cs' := stc (ss.getD i default)) J J J g0 J J J J) <| Wn <| Rg 10 J <| aA (aM (l := .agg (stc (ss.getD i default))) J J gG J J) J ?_
 refine aA (aM (l := lvX (nx f)) J J gG J J) J ?_
 refine Um J J <| aA (aJ J (rO (ss.getD i default) (nx f) (kd (ns.map nx).length) (ns.map nx) ss.length hcl (fun c hc => jI hV hm hc) hvf.bd hxl 2 (by decide) (by decide) hxb) (bO (by intro c hc; simp only [List.mem_cons, List.not_mem_nil, or_false] at hc; rcases hc with rfl | rfl | rfl; exact (.agg _ fun c hc => dstc1 _ c hc); exact lQ; exact (.sl _ _ fun row hr => bN pW row hr)))) J <| Um J J <| aA (dF J J) J <| aA (dF J J) J <| aY (dU J) J <| aU (cA (cs' := xc (xyl ((ss.getD i default).2.2.getD (bsK (ss.getD i default) (nx f).1 (vl (ns.map nx))) default) (nx f) (ns.map nx))) J J J g0 J J J J) <| Ua J J <| Nk [6,9,10,13,14,16,50,51,52] J ?_
 have hbk := bsK_lt (d := (nx f).1) (v := (vl (ns.map nx))) (x := (ss.getD i default)) om
 obtain ⟨hrb, hvbb⟩ := jI hV hm (bJ (us := (ss.getD i default).2.2) hbk)
 have hyb := xyl_bd (d := nx f) hrb hvbb hvf.bd (by decide) hxb
 have hgb := kK (by decide) hxb i
 have hbv : (xyl ((ss.getD i default).2.2.getD (bsK (ss.getD i default) (nx f).1 (vl (ns.map nx))) default) (nx f) (ns.map nx)).1 = bsV (ss.getD i default) (nq f) (vl (ns.map nx)) := xyl_v _ _ _
 refine bG (z := 8) J kR <| aD (aM (l := lvX (xyl ((ss.getD i default).2.2.getD (bsK (ss.getD i default) (nx f).1 (vl (ns.map nx))) default) (nx f) (ns.map nx))) J J gG J J) J ?_
 refine Dm J J <| Dm J J <| aD (bS (j := i) J J J J om om J) J <| aD (dH (l := lvX ((ns.map nx).getD i default)) J J J) J <| aD (aJ J (rsub_run (xyl ((ss.getD i default).2.2.getD (bsK (ss.getD i default) (nx f).1 (vl (ns.map nx))) default) (nx f) (ns.map nx)) ((ns.map nx).getD i default) (hyb.mono om) (hgb.mono om)) dD) J <| mN (dU J) J <| bX (cA (cs' := xc (xadd (xyl ((ss.getD i default).2.2.getD (bsK (ss.getD i default) (nx f).1 (vl (ns.map nx))) default) (nx f) (ns.map nx)) (xneg ((ns.map nx).getD i default)))) J J J g0 J J J J) <| bE (fE (rn n) (by simp only [List.reverse_cons, List.reverse_nil, List.nil_append, List.cons_append, List.map_cons, List.map_nil, ren, keys, Nat.add_assoc, mZ]; kernel_rfl)) J <| Ck [6,9,10,13,18,50,51,52] J <| aB ?_
 have hdv : (xadd (xyl ((ss.getD i default).2.2.getD (bsK (ss.getD i default) (nx f).1 (vl (ns.map nx))) default) (nx f) (ns.map nx)) (xneg ((ns.map nx).getD i default))).1 = (bsV (ss.getD i default) (nq f) (vl (ns.map nx)) - (vl (ns.map nx)) i) := by show (xyl ((ss.getD i default).2.2.getD (bsK (ss.getD i default) (nx f).1 (vl (ns.map nx))) default) (nx f) (ns.map nx)).1 + -((ns.map nx).getD i default).1 = _; rw [hbv, jK]; grind
 have hdb : Bd 100 (xadd (xyl ((ss.getD i default).2.2.getD (bsK (ss.getD i default) (nx f).1 (vl (ns.map nx))) default) (nx f) (ns.map nx)) (xneg ((ns.map nx).getD i default))).1 := (hyb.add (hgb.neg)).mono (by decide)
 refine Rg 3 J <| aA (aM (l := lvX (xadd (xyl ((ss.getD i default).2.2.getD (bsK (ss.getD i default) (nx f).1 (vl (ns.map nx))) default) (nx f) (ns.map nx)) (xneg ((ns.map nx).getD i default)))) J J gG J J) J ?_
 refine aA (aJ J (gP (xadd (xyl ((ss.getD i default).2.2.getD (bsK (ss.getD i default) (nx f).1 (vl (ns.map nx))) default) (nx f) (ns.map nx)) (xneg ((ns.map nx).getD i default)))) dD) J <| aA (bR J J) J <| aX (fun h72 => ?_) (fun h72 => ?_)
 rotate_left
 ·refine Wn <| aT J <| aF ?_
  obtain ⟨z, hz, hzb, ez⟩ : ∃ z : X, z.1 = absR (bsV (ss.getD i default) (nq f) (vl (ns.map nx)) - (vl (ns.map nx)) i) ∧ Bd 100 z.1 ∧ z = if (xadd (xyl ((ss.getD i default).2.2.getD (bsK (ss.getD i default) (nx f).1 (vl (ns.map nx))) default) (nx f) (ns.map nx)) (xneg ((ns.map nx).getD i default))).1.num.sign < 0 then xneg (xadd (xyl ((ss.getD i default).2.2.getD (bsK (ss.getD i default) (nx f).1 (vl (ns.map nx))) default) (nx f) (ns.map nx)) (xneg ((ns.map nx).getD i default))) else (xadd (xyl ((ss.getD i default).2.2.getD (bsK (ss.getD i default) (nx f).1 (vl (ns.map nx))) default) (nx f) (ns.map nx)) (xneg ((ns.map nx).getD i default))) := by
   refine ⟨_, ?_, ?_, rfl⟩
   ·by_cases hs : (xadd (xyl ((ss.getD i default).2.2.getD (bsK (ss.getD i default) (nx f).1 (vl (ns.map nx))) default) (nx f) (ns.map nx)) (xneg ((ns.map nx).getD i default))).1.num.sign < 0
    ·rw [if_pos hs]; show -(xadd (xyl ((ss.getD i default).2.2.getD (bsK (ss.getD i default) (nx f).1 (vl (ns.map nx))) default) (nx f) (ns.map nx)) (xneg ((ns.map nx).getD i default))).1 = _; rw [hdv, absR_neg (by rw [← hdv]; exact gD.1 hs)]
    ·rw [if_neg hs, hdv, absR_pos (fun h => hs (gD.2 (by rw [hdv]; exact h)))]
   ·by_cases hs : (xadd (xyl ((ss.getD i default).2.2.getD (bsK (ss.getD i default) (nx f).1 (vl (ns.map nx))) default) (nx f) (ns.map nx)) (xneg ((ns.map nx).getD i default))).1.num.sign < 0
    ·rw [if_pos hs]; exact hdb.neg
    ·rw [if_neg hs]; exact hdb
  refine eZ [((n + 1 + 6 + 10 + 6), { cells := xc (z), sz := 4, elem := (102), st := 0 }), ((0 + 4 + 5 + 2 + 6 + 7 + 9 + 2), { cells := xc (gx), sz := 4, elem := (102), st := 0 }), ((0 + 4 + 5 + 2 + 6 + 4), { cells := xc (nx f), sz := 4, elem := (102), st := 0 }), ((0 + 2), { cells := mc (0, 0), sz := 2, elem := (26), st := 0 })] ⟨(by first | (rw [ez, if_pos h72]; exact g0) | (rw [ez, if_neg h72]; exact g0)), gG, gG, gG, trivial⟩ ?_
  refine Rg 4 J <| aA (aM (l := lvX z) J J gG J J) J ?_
  refine aA (aM (l := lvX gx) J J gG J J) J ?_
  refine aA (aJ J (jW z gx (hzb.mono (by decide)) (hgb2.mono (by decide))) dD) J <| aA (eJ J J) J <| aX (fun h78 => ?_) (fun h78 => ?_)
  rotate_left
  ·refine Nk [6,9,10,13,18,50,51,52,78] J <| bZ J <| cV <| aH <| aI (z := 2) J <| aA (cI (((i + 1 : Nat) : Int)) (aP J J om) om) J <| Um J J <| Wn <| aG <| ⟨⟨i + 1, gx⟩, ⟨J, J, J, J, J, J, J, trivial⟩, ⟨gG, gG, gG, trivial⟩, ⟨om, by rw [gapF_no (fun h => by have h7 := iF.2 (show 0 < z.1 - gx.1 by rw [hz, hg]; grind); omega)]; exact hg, hgb2, om⟩, by show ss.length - (i + 1) < ss.length - i; omega⟩
  refine Nk [6,9,10,13,18,50,51,52,78] J <| bW J <| aI (z := 2) J <| aA (aM (l := lvX z) J J gG J J) J ?_
  refine aU (cA (cs' := xc z) J J J gG J J J J) ?_
  refine Wn <| aH <| aI (z := 2) J <| aA (cI (((i + 1 : Nat) : Int)) (aP J J om) om) J <| Um J J <| Wn <| aG <| ⟨⟨i + 1, z⟩, ⟨J, J, J, J, J, J, J, trivial⟩, ⟨gG, gG, gG, trivial⟩, ⟨om, by rw [gapF_yes (by have h7 := iF.1 (show 0 < (z.1 - gx.1).num.sign by omega); rw [hz, hg] at h7; grind)]; exact hz, hzb, om⟩, by show ss.length - (i + 1) < ss.length - i; omega⟩
 refine Wn <| aS J <| Rg 3 J <| aA (aM (l := lvX (xadd (xyl ((ss.getD i default).2.2.getD (bsK (ss.getD i default) (nx f).1 (vl (ns.map nx))) default) (nx f) (ns.map nx)) (xneg ((ns.map nx).getD i default)))) J J gG J J) J ?_
 refine aA (aJ J (jB (xadd (xyl ((ss.getD i default).2.2.getD (bsK (ss.getD i default) (nx f).1 (vl (ns.map nx))) default) (nx f) (ns.map nx)) (xneg ((ns.map nx).getD i default)))) dD) J <| aU (cA (cs' := xc (xneg (xadd (xyl ((ss.getD i default).2.2.getD (bsK (ss.getD i default) (nx f).1 (vl (ns.map nx))) default) (nx f) (ns.map nx)) (xneg ((ns.map nx).getD i default))))) J J J gG J J J J) ?_
 refine cK ?_
 obtain ⟨z, hz, hzb, ez⟩ : ∃ z : X, z.1 = absR (bsV (ss.getD i default) (nq f) (vl (ns.map nx)) - (vl (ns.map nx)) i) ∧ Bd 100 z.1 ∧ z = if (xadd (xyl ((ss.getD i default).2.2.getD (bsK (ss.getD i default) (nx f).1 (vl (ns.map nx))) default) (nx f) (ns.map nx)) (xneg ((ns.map nx).getD i default))).1.num.sign < 0 then xneg (xadd (xyl ((ss.getD i default).2.2.getD (bsK (ss.getD i default) (nx f).1 (vl (ns.map nx))) default) (nx f) (ns.map nx)) (xneg ((ns.map nx).getD i default))) else (xadd (xyl ((ss.getD i default).2.2.getD (bsK (ss.getD i default) (nx f).1 (vl (ns.map nx))) default) (nx f) (ns.map nx)) (xneg ((ns.map nx).getD i default))) := by
  refine ⟨_, ?_, ?_, rfl⟩
  ·by_cases hs : (xadd (xyl ((ss.getD i default).2.2.getD (bsK (ss.getD i default) (nx f).1 (vl (ns.map nx))) default) (nx f) (ns.map nx)) (xneg ((ns.map nx).getD i default))).1.num.sign < 0
   ·rw [if_pos hs]; show -(xadd (xyl ((ss.getD i default).2.2.getD (bsK (ss.getD i default) (nx f).1 (vl (ns.map nx))) default) (nx f) (ns.map nx)) (xneg ((ns.map nx).getD i default))).1 = _; rw [hdv, absR_neg (by rw [← hdv]; exact gD.1 hs)]
   ·rw [if_neg hs, hdv, absR_pos (fun h => hs (gD.2 (by rw [hdv]; exact h)))]
  ·by_cases hs : (xadd (xyl ((ss.getD i default).2.2.getD (bsK (ss.getD i default) (nx f).1 (vl (ns.map nx))) default) (nx f) (ns.map nx)) (xneg ((ns.map nx).getD i default))).1.num.sign < 0
   ·rw [if_pos hs]; exact hdb.neg
   ·rw [if_neg hs]; exact hdb
 refine eZ [((n + 1 + 6 + 10 + 6), { cells := xc (z), sz := 4, elem := (102), st := 0 }), ((0 + 4 + 5 + 2 + 6 + 7 + 9 + 2), { cells := xc (gx), sz := 4, elem := (102), st := 0 }), ((0 + 4 + 5 + 2 + 6 + 4), { cells := xc (nx f), sz := 4, elem := (102), st := 0 }), ((0 + 2), { cells := mc (0, 0), sz := 2, elem := (26), st := 0 })] ⟨(by first | (rw [ez, if_pos h72]; exact g0) | (rw [ez, if_neg h72]; exact g0)), gG, gG, gG, trivial⟩ ?_
 refine Rg 4 J <| aA (aM (l := lvX z) J J gG J J) J ?_
 refine aA (aM (l := lvX gx) J J gG J J) J ?_
 refine aA (aJ J (jW z gx (hzb.mono (by decide)) (hgb2.mono (by decide))) dD) J <| aA (eJ J J) J <| aX (fun h78 => ?_) (fun h78 => ?_)
 rotate_left
 ·refine Nk [6,9,10,13,18,50,51,52,78] J <| bZ J <| cV <| aH <| aI (z := 2) J <| aA (cI (((i + 1 : Nat) : Int)) (aP J J om) om) J <| Um J J <| Wn <| aG <| ⟨⟨i + 1, gx⟩, ⟨J, J, J, J, J, J, J, trivial⟩, ⟨gG, gG, gG, trivial⟩, ⟨om, by rw [gapF_no (fun h => by have h7 := iF.2 (show 0 < z.1 - gx.1 by rw [hz, hg]; grind); omega)]; exact hg, hgb2, om⟩, by show ss.length - (i + 1) < ss.length - i; omega⟩
 refine Nk [6,9,10,13,18,50,51,52,78] J <| bW J <| aI (z := 2) J <| aA (aM (l := lvX z) J J gG J J) J ?_
 refine aU (cA (cs' := xc z) J J J gG J J J J) ?_
 refine Wn <| aH <| aI (z := 2) J <| aA (cI (((i + 1 : Nat) : Int)) (aP J J om) om) J <| Um J J <| Wn <| aG <| ⟨⟨i + 1, z⟩, ⟨J, J, J, J, J, J, J, trivial⟩, ⟨gG, gG, gG, trivial⟩, ⟨om, by rw [gapF_yes (by have h7 := iF.1 (show 0 < (z.1 - gx.1).num.sign by omega); rw [hz, hg] at h7; grind)]; exact hz, hzb, om⟩, by show ss.length - (i + 1) < ss.length - i; omega⟩
end Go.Proofs.YtahljdjhhapngaaGreat
namespace Go.Proofs.YtahljdjhhapngaaGreat
open Go.Ab Go.RowKit
theorem qfactor_run (f : NM) : Run Tryz.prog T E0 (.call 23 [lvM f] (.v (.bool (decide (0 < f.1) && decide (f.1 < f.2))))) := by
 refine bI Tryz.func23 J J (dL J) <| Rg 2 J <| aY (dY J J) J <| Ua J J <| Wn <| Rg 11 J <| aA (bD J J J J J) J <| aA (aM J J gG J J) J ?_
 refine aA (eJ J J) J <| aX (fun h5 => ?_) (fun h5 => ?_)
 ·refine Um J J <| aK J (bD J J J J J) J <| aK J (aM J J gG J J) J ?_
  refine aK J (bD J J J J J) J <| aK J (aM J J gG J J) J ?_
  refine aK J (bR J J) J <| aA (bL J J) J <| Ua J J <| Wn <| aN <| post (n := 0) (.inr J) J ?_ dD
  exact congrArg (fun z => LV.v (.bool z)) (by simp; omega)
 refine Um J J <| K1 J J <| K1 J J <| K1 J J <| K1 J J <| K1 J J <| aA (bP J J) J <| Ua J J <| Wn <| aN <| post (n := 0) (.inr J) J ?_ dD
 exact congrArg (fun z => LV.v (.bool z)) (show false = _ by rw [decide_eq_false om]; rfl)
end Go.Proofs.YtahljdjhhapngaaGreat
namespace Go.Proofs.YtahljdjhhapngaaGreat
open Go.Ab Go.RowKit
theorem kO (k : Nat) (ss : List Go.Ab.ST) (f : NM) (hI : ∀ s, s ∈ ss → IS s) (hf1 : I64 f.1) (hf2 : I64 f.2) : Run Tryz.prog T E0 (.call 18 [lvMo k ss, lvM f] (dbO ss f)) := by
 refine bI Tryz.func18 J J (dL J) <| Rg 5 J <| aY (dY J J) J <| aY (dY J J) J <| Ua J J <| Ua J J <| Ua J J <| Wn <| aB <| Rg 4 J <| aA (aM (l := lvMo k ss) J J gG J J) J ?_
 refine aA (aM (l := lvM f) J J gG J J) J ?_
 refine aA (aJ J (kG k 0 ss f [] hI hf1 hf2 (by intro a ha; cases ha) (by decide)) (bO (by intro c hc; simp only [List.mem_cons, List.not_mem_nil, or_false] at hc; rcases hc with rfl | rfl | rfl; exact lQ; exact lQ; exact (.sl 0 [] (by simp))))) J <| Ua J J <| Wn <| aB <| Rg 2 J <| Um J J <| aA (dZ J J) J <| aX (fun h19 => ?_) (fun h19 => ?_)
 ·refine Wn <| aS J <| aB <| Rg 4 J <| Um J J <| Ua J J <| Ua J J <| Ua J J <| Wn <| bA <| post (n := 0) (.inr J) J ?_ dbO_data
  show _ = dbO ss f
  unfold dbO; rw [if_neg h19]; rfl
 refine Wn <| aT J <| aF ?_
 have h0 := Classical.not_not.1 h19
 obtain ⟨hV, hvf, hall, hf0, hf3⟩ := eD_ok h0
 have hV1 := kW hV
 have hn40 := hV1.wt.len
 have hd01 := lE hvf hf0 hf3
 have hD := iP hV hd01.1 hd01.2
 obtain ⟨_, hvr, st, xs, rfl, hst, hxl, hwv, hval, hxb⟩ := values_run k ss (nx f) hV hvf.bd hd01.1 hd01.2
 have hve : vals ss (nq f) = xs.map (·.1) := oQ hD (by rw [List.length_map]; exact hxl) hval
 have hvv : vl xs = fn_ (vals ss (nq f)) := by rw [hve]; rfl
 refine Rg 4 J <| aA (aM (l := lvM f) J J gG J J) J ?_
 refine aA (bK (b := lvX (nx f)) (aJ J (eR f hf1 hf2 hvf.all3.2.2) dD) J) J <| aY (dU J) J <| aU (cA (cs' := xc (nx f)) J J J g0 J J J J) <| Nk [2,8] J <| Rg 4 J <| aA (aM (l := lvMo k ss) J J gG J J) J ?_
 refine aA (aM (l := lvX (nx f)) J J gG J J) J ?_
 refine aA (aJ J (hvr) dD) J <| Ua J J <| cK ?_
 obtain ⟨oo, hoo⟩ : ∃ oo, (xs.mapM fun x => outN x.1) = oo := ⟨_, rfl⟩
 have hmo : (vals ss (nq f)).mapM outN = oo := by rw [hve, pF]; exact hoo
 refine Rg 7 J <| Um J J <| aA (bK (b := .tup [.sl (kd (oo.getD []).length) ((oo.getD []).map mc), .v (.int .i64 (if oo.isSome = true then 0 else 3))]) (aJ J (nouts_run 1 xs om) (bO (by intro c hc; rw [List.mem_singleton] at hc; subst hc; exact (.sl _ _ fun row hr => bN pW row hr)))) (by rw [← hoo]; rfl)) J <| Um J J <| aA (dF J J) J <| aA (dF J J) J <| Ua J J <| Ua J J <| Wn <| aB <| Rg 2 J <| Um J J <| aA (dZ J J) J <| aX (fun h32 => ?_) (fun h32 => ?_)
 ·refine Nk [2,8,9,10,11,32] J <| aS J <| aB <| Rg 4 J <| Um J J <| Ua J J <| Ua J J <| Ua J J <| Wn <| bA <| post (n := 0) (.inr J) J ?_ dbO_data
  show _ = dbO ss f
  cases oo with
  | some o => exact absurd rfl h32
  | none => unfold dbO; rw [if_pos h0, rN hmo]; rfl
 refine Nk [2,8,9,10,11,32] J <| aT J <| aF ?_
 obtain ⟨o, rfl⟩ : ∃ o, oo = some o := by
  cases oo with
  | none => exact absurd (by decide) h32
  | some o => exact ⟨o, rfl⟩
 refine Rg 4 J <| Um J J <| aA (cI ((ss.length : Int)) (aZ J J) om) J <| aY (oMk (a := ss.length) (b := ss.length) J J J J om om (by decide) om (by show 8 * ss.length ≤ _; omega) om) J <| Ua J J <| Wn <| aB <| Rg 4 J <| aA (bD J J J J J) J <| aA (aM J J gG J J) J ?_
 refine aA (aZ J J) J <| Um J J <| Wn <| aL <| bB (α := Nat) (fun i => [(8, .ptr (0 + 5 + 4 + 2 + 2) 0), (9, .sl 1 (xs.map xc)), (10, .sl (kd o.length) (o.map mc)), (12, .ref (0 + 5 + 4 + 2 + 4 + 4 + 7 + 2 + 2) 1 0 ss.length), (38, .sl k (ss.map stc)), (39, .v (.int .i64 (ss.length : Int))), (40, .v (.int .i64 (i : Int)))]) (fun i => [((0 + 5 + 4 + 2 + 4 + 4 + 7 + 2 + 2), { cells := ((tab ss.length (mixf (fun _ => (0 : Int)) (fun s : Nat => ((bsK (ss.getD s default) (nq f) (fn_ (vals ss (nq f))) : Nat) : Int)) i)).map ic).flatten, sz := 1, elem := (3), st := 0 }), ((0 + 5 + 4 + 2 + 2), { cells := xc (nx f), sz := 4, elem := (102), st := 0 })]) (fun i n => i ≤ ss.length ∧ 32 < n) (fun i => ss.length - i) (0) ⟨J, J, J, J, J, J, J, trivial⟩ ⟨e86 gG (by exact tab_repiF fun s => by rw [mixf_zero]), gG, trivial⟩ ⟨Nat.zero_le _, om⟩ ?_
 rintro i n hF
 change WC _ _ _ _ _ (_ :: _) (_ :: _) n _
 obtain ⟨hi, hn⟩ := hF
 refine Rg 1 J <| aA (bR J J) J <| aX (fun h41 => ?_) (fun h41 => ?_)
 rotate_left
 ·refine Wn <| aT J <| aV <| aR <| aO J <| Rg 5 J <| Um J J <| Um J J <| Ua J J <| Ua J J <| Ua J J <| Wn <| aN ?_
  have hin : i = ss.length := by omega
  have ee : tab ss.length (mixf (fun _ => (0 : Int)) (fun s : Nat => ((bsK (ss.getD s default) (nq f) (fn_ (vals ss (nq f))) : Nat) : Int)) i) = tab ss.length (fun s : Nat => ((bsK (ss.getD s default) (nq f) (fn_ (vals ss (nq f))) : Nat) : Int)) := tab_eq fun s hs => by unfold mixf; rw [if_pos om]
  rw [show dbO ss f = .tup [.sl (kd o.length) (o.map mc), .sl 1 ((tab ss.length (mixf (fun _ => (0 : Int)) (fun s : Nat => ((bsK (ss.getD s default) (nq f) (fn_ (vals ss (nq f))) : Nat) : Int)) i)).map ic), .v (.int .i64 0)] by unfold dbO; rw [if_pos h0, gL hmo, ee]]
  exact lL (n := 0) [((0 + 5 + 4 + 2 + 4 + 4 + 7 + 2 + 2), { cells := ((tab ss.length (mixf (fun _ => (0 : Int)) (fun s : Nat => ((bsK (ss.getD s default) (nq f) (fn_ (vals ss (nq f))) : Nat) : Int)) i)).map ic).flatten, sz := 1, elem := (3), st := 1 })] (.inr J) J (.data (.sl _ _ (bN dmc)) (.own ((tab ss.length (mixf (fun _ => (0 : Int)) (fun s : Nat => ((bsK (ss.getD s default) (nq f) (fn_ (vals ss (nq f))) : Nat) : Int)) i)).map ic) (by rw [List.length_map, cW]) gG (by show (0 : Nat) ≠ 2; decide) J (by decide) (by simp [keys]) J rows_ic (bN dic1) (.data (.v _) .nil))) (by intro p hp; rw [List.mem_singleton] at hp; subst hp; exact ⟨_, gG, by show (0 : Nat) ≠ 2; decide, rfl⟩)
 refine Wn <| aS J <| aF <| aL ?_
 have hm := bJ (us := ss) (i := i) om
 have hcl := hV1.cs _ hm
 refine Rg 6 J <| Um J J <| aA (bS J J J J J om J) J <| aA (dH (l := .agg (stc (ss.getD i default))) J J J) J <| aY (dU J) J <| Ua J J <| aU (cA (cs' := stc (ss.getD i default)) J J J g0 J J J J) <| Wn <| aI (z := 11) J <| Um J J <| Um J J <| aA (aM (l := .agg (stc (ss.getD i default))) J J gG J J) J ?_
 refine aA (aM (l := lvX (nx f)) J J gG J J) J ?_
 refine Um J J <| aA (aJ J (rO (ss.getD i default) (nx f) 1 xs ss.length hcl (fun c hc => jI hV hm hc) hvf.bd hxl 268435456 (by decide) (by decide) hxb) (bO (by intro c hc; simp only [List.mem_cons, List.not_mem_nil, or_false] at hc; rcases hc with rfl | rfl | rfl; exact (.agg _ fun c hc => dstc1 _ c hc); exact lQ; exact (.sl _ _ fun row hr => bN pW row hr)))) J <| Um J J <| aA (dF J J) J <| aA (bK (b := .v (.int .i64 ((fun s : Nat => ((bsK (ss.getD s default) (nq f) (fn_ (vals ss (nq f))) : Nat) : Int)) i))) (dF J J) (congrArg (fun z => LV.v (.int .i64 ((bsK (ss.getD i default) (nq f) z : Nat) : Int))) hvv)) J <| aA (cH (j := i) J J J J om om J) J <| aU (oStTi J J J gG om J) ?_
 refine Wn <| aH <| Ck [8,9,10,12,38,39,40] J <| aI (z := 2) J <| aA (cI (((i + 1 : Nat) : Int)) (aP J J om) om) J <| Um J J <| Wn <| aG <| ⟨i + 1, ⟨J, J, J, J, J, J, J, trivial⟩, ⟨e86 gG (congrArg (fun z => Ob.mk ((tab ss.length z).map ic).flatten 1 3 0) mixf_set.symm), gG, trivial⟩, ⟨om, om⟩, by show ss.length - (i + 1) < ss.length - i; omega⟩
theorem eB (a b : Int) : Run Tryz.prog T E0 (.call 50 [.v (.int .i64 a), .v (.int .i64 b)] (lvM (a, b))) := by
 refine bI Tryz.func50 J J (dL J) <| Rg 1 J <| aY (dU J) J <| Wn <| Rg 4 J <| Um J J <| Um J J <| aA (eW (cs := [_, _]) J J J J J) J <| aU (cA (cs' := [_, _]) J J J J J J J J) <| Wn <| aN <| post (n := 0) (.inr J) J ?_ dD
 rfl
theorem leq_run (k k' : Nat) (l l' : List Int) (ll : l.length < 1099511627776) : Run Tryz.prog T E0 (.call 20 [.sl k (l.map ic), .sl k' (l'.map ic)] (.v (.bool (decide (l = l'))))) := by
 refine bI Tryz.func20 J J (dL J) <| Rg 1 J <| Ua J J <| Wn <| aB <| Rg 5 J <| Um J J <| aA (aZ J J) J <| Um J J <| aA (aZ J J) J <| aA (dZ J J) J <| aX (fun h10 => ?_) (fun h10 => ?_)
 ·refine Wn <| aS J <| aB <| Rg 1 J <| Ua J J <| Wn <| bA <| post (n := 0) (.inr J) J ?_ dD
  exact congrArg (fun z => LV.v (.bool z)) (show false = decide (l = l') from (decide_eq_false fun h => h10 (by rw [h])).symm)
 refine Wn <| aT J <| aF <| aB <| Rg 3 J <| Um J J <| aA (aZ J J) J <| Um J J <| Wn <| aL <| bB (α := Nat) (fun i => [(0, .sl k (l.map ic)), (1, .sl k' (l'.map ic)), (12, .v (.int .i64 (l.length : Int))), (13, .v (.int .i64 (i : Int)))]) (fun i => []) (fun i n => i ≤ l.length ∧ l.take i = l'.take i) (fun i => l.length - i) (0) ⟨J, J, J, J, trivial⟩ trivial ⟨Nat.zero_le _, by simp⟩ ?_
 rintro i n hF
 change WC _ _ _ _ _ (_ :: _) ([]) n _
 obtain ⟨hi, ha⟩ := hF
 refine Rg 1 J <| aA (bR J J) J <| aX (fun h14 => ?_) (fun h14 => ?_)
 rotate_left
 ·refine Wn <| aT J <| aV <| aR <| aO J <| Rg 1 J <| Ua J J <| Wn <| aN <| post (n := 0) (.inr J) J ?_ dD
  exact congrArg (fun z => LV.v (.bool z)) (show true = decide (l = l') from (decide_eq_true (by rw [List.take_of_length_le om, List.take_of_length_le om] at ha; exact ha)).symm)
 refine Wn <| aS J <| aF <| aL <| Rg 2 J <| Um J J <| Ua J J <| Wn <| bG (z := 9) J kR <| Dm J J <| Dm J J <| aD (bS (j := i) J J J J om om J) J <| aD (dH J J J) J <| Dm J J <| Dm J J <| aD (bS (j := i) J J J J om om J) J <| aD (dH J J J) J <| aD (dZ J J) J <| rK (fun h24 => ?_) (fun h24 => ?_)
 rotate_left
 ·refine bE (aQ kR) J <| Ck [0,1,12,13,24] J <| bZ J <| cV <| aH <| aI (z := 2) J <| aA (cI (((i + 1 : Nat) : Int)) (aP J J om) om) J <| Um J J <| Wn <| aG <| ⟨i + 1, ⟨J, J, J, J, trivial⟩, trivial, ⟨om, eqL_take ha om om om⟩, by show l.length - (i + 1) < l.length - i; omega⟩
 refine bE (aQ kR) J <| Ck [0,1,12,13,24] J <| bW J <| Rg 1 J <| Ua J J <| Wn <| aN <| aW <| bY <| aW <| post (n := 0) (.inr J) J ?_ dD
 exact congrArg (fun z => LV.v (.bool z)) (show false = decide (l = l') from (decide_eq_false (eqL_no (i := i) om om om)).symm)
theorem fZ  : Run Tryz.prog T E0 (.call 12 [] (.v (.bool true))) := by
 refine bI Tryz.func12 J J (dL J) <| Rg 1 J <| Ua J J <| Wn <| Rg 14 J <| aA (aJ J (eB 1 1) dD) J <| aA (aJ J (eB 1 1) dD) J <| aA (eW (cs := [_, _, _]) J J J J J) J <| aA (cQ (cs := [_, _, _]) (rows := [[_, _, _]]) J J (by decide) J J J) J <| aA (eW (cs := [_, _, _]) J J J J J) J <| aA (aJ J (eB 2 1) dD) J <| aA (aJ J (eB 1 1) dD) J <| aA (eW (cs := [_, _, _]) J J J J J) J <| aA (cQ (cs := [_, _, _]) (rows := [[_, _, _]]) J J (by decide) J J J) J <| aA (eW (cs := [_, _, _]) J J J J J) J <| aA (cQ (cs := [_, _, _, _, _, _]) (rows := [[_, _, _], [_, _, _]]) J J (by decide) J J J) J <| aA (eW (cs := [_, _, _]) J J J J J) J <| aY (dU J) J <| aU (cA (cs' := [_, _, _]) J J J J J J J J) <| Wn <| bG (z := 12) J kR <| aD (aM (l := .agg (stc ((((0 : Int), (0 : Int)), (2, [((1, 1), (2, [(0, (1, 1))])), ((2, 1), (2, [(0, (1, 1))]))])) : Go.Ab.ST))) J J gG J J) J ?_
 refine aD (cQ (cs := [_, _, _]) (rows := [[_, _, _]]) J J (by decide) J J J) J <| aD (eW (cs := [_]) J J J J J) J <| aD (aJ J (eB 1 2) dD) J <| aD (bK (b := .tup [.sl 1 [mc (4, 1)], .sl 1 [ic 1], .v (.int .i64 0)]) (aJ J (kO 2 (awk 0) (1, 2) (awk_is 0 I64_0) (by unfold I64; decide) (by unfold I64; decide)) (bO (by intro c hc; simp only [List.mem_cons, List.not_mem_nil, or_false] at hc; rcases hc with rfl | rfl; exact (awk_data 0); exact lQ))) awk_b0) J <| Dm J J <| aD (dF J J) J <| aD (dF J J) J <| aD (dF J J) J <| aD (iA J) J <| aD (iA J) J <| aD (iA J) J <| bE (aQ kR) J <| Ck [1,2,3,4] J <| Rg 2 J <| aA (bD J J J J J) J <| aU (cA (cs' := [_, _, _]) J J J J J J J J) <| Wn <| bG (z := 12) J kR <| aD (aM (l := .agg (stc ((((1 : Int), (0 : Int)), (2, [((1, 1), (2, [(0, (1, 1))])), ((2, 1), (2, [(0, (1, 1))]))])) : Go.Ab.ST))) J J gG J J) J ?_
 refine aD (cQ (cs := [_, _, _]) (rows := [[_, _, _]]) J J (by decide) J J J) J <| aD (eW (cs := [_]) J J J J J) J <| aD (aJ J (eB 1 2) dD) J <| aD (bK (b := .tup [.sl 1 [mc (2, 1)], .sl 1 [ic 0], .v (.int .i64 0)]) (aJ J (kO 2 (awk 1) (1, 2) (awk_is 1 I64_1) (by unfold I64; decide) (by unfold I64; decide)) (bO (by intro c hc; simp only [List.mem_cons, List.not_mem_nil, or_false] at hc; rcases hc with rfl | rfl; exact (awk_data 1); exact lQ))) awk_b1) J <| Dm J J <| aD (dF J J) J <| aD (dF J J) J <| aD (dF J J) J <| aD (iA J) J <| aD (iA J) J <| aD (iA J) J <| bE (aQ kR) J <| Ck [2,3,4,5,6,7] J <| Rg 29 J <| Um J J <| aA (eY J J) J <| aX (fun h40 => ?_) (fun h40 => ?_)
 rotate_left
 ·exact absurd J h40
 refine Um J J <| aK J (eF J) J <| aK J (aJ J (eB 4 1) dD) J <| aK J (cQ (cs := [_, _]) (rows := [[_, _]]) J J (by decide) J J J) J <| aK J (aJ J (lY 1 2 [(4, 1)] (by decide)) (bO (by intro c hc; simp only [List.mem_cons, List.not_mem_nil, or_false] at hc; rcases hc with rfl | rfl; exact (lZ 1 (4, 1)); exact (lZ 2 (4, 1))))) J <| aA (bL J J) J <| Um J J <| aK J (eF J) J <| aK J (cQ (cs := [_]) (rows := [[_]]) J J (by decide) J J J) J <| aK J (bK (b := .v (.bool true)) (aJ J (leq_run 1 2 [1] [1] (by decide)) (bO (by intro c hc; simp only [List.mem_cons, List.not_mem_nil, or_false] at hc; rcases hc with rfl | rfl; exact (lV 1 1); exact (lV 2 1)))) J) J <| aA (bL J J) J <| Um J J <| aK J (eF J) J <| aK J (eY J J) J <| aX (fun h54 => ?_) (fun h54 => ?_)
 rotate_left
 ·exact absurd J h54
 refine aA (bL J J) J <| Um J J <| aK J (eF J) J <| aK J (aJ J (eB 2 1) dD) J <| aK J (cQ (cs := [_, _]) (rows := [[_, _]]) J J (by decide) J J J) J <| aK J (aJ J (lY 1 2 [(2, 1)] (by decide)) (bO (by intro c hc; simp only [List.mem_cons, List.not_mem_nil, or_false] at hc; rcases hc with rfl | rfl; exact (lZ 1 (2, 1)); exact (lZ 2 (2, 1))))) J <| aA (bL J J) J <| Um J J <| aK J (eF J) J <| aK J (cQ (cs := [_]) (rows := [[_]]) J J (by decide) J J J) J <| aK J (bK (b := .v (.bool true)) (aJ J (leq_run 1 2 [0] [0] (by decide)) (bO (by intro c hc; simp only [List.mem_cons, List.not_mem_nil, or_false] at hc; rcases hc with rfl | rfl; exact (lV 1 0); exact (lV 2 0)))) J) J <| aA (bL J J) J <| Ua J J <| Nk [0] J <| aN <| post (n := 0) (.inr J) J ?_ dD
 rfl
end Go.Proofs.YtahljdjhhapngaaGreat
namespace Go.Proofs.YtahljdjhhapngaaGreat
open Go.Ab Go.RowKit
theorem law_ring (nn r : Int) (f : NM) (kl : Nat) (l : List Int) (hf1 : I64 f.1) (hf2 : I64 f.2) (hl : ∀ b, b ∈ l → 0 ≤ b ∧ b ≤ 255) : Run Tryz.prog T E0 (.call 8 [.v (.int .i64 nn), .v (.int .i64 r), lvM f, .sl kl (l.map u8c)] (.v (.bool true))) := by
 refine bI Tryz.func8 J J (dL J) <| Rg 2 J <| aY (dY J J) J <| Ua J J <| Wn <| aB <| Rg 29 J <| Um J J <| aA (bR J J) J <| aX (fun h31 => ?_) (fun h31 => ?_)
 ·refine Um J J <| K1 J J <| K1 J J <| aA (bL J J) J <| Um J J <| K1 J J <| K1 J J <| aA (bL J J) J <| Um J J <| K1 J J <| K1 J J <| aA (bL J J) J <| Um J J <| K1 J J <| K1 J J <| K1 J J <| aA (bL J J) J <| Um J J <| K1 J J <| K1 J J <| K1 J J <| aA (bL J J) J <| Um J J <| K1 J J ?_
  refine K1 J J <| K1 J J <| aA (bL J J) J <| Nk [0,1,3,6,58] J <| aS J <| aB <| Rg 2 J <| aA (aJ J (fZ) dD) J <| Ua J J <| Wn <| bA <| post (n := 0) (.inr J) J ?_ dD
  rfl
 refine Um J J <| aK J (eF J) J <| aK J (eJ J J) J <| aX (fun h34 => ?_) (fun h34 => ?_)
 ·refine aA (bP J J) J <| Um J J <| K1 J J <| K1 J J <| aA (bL J J) J <| Um J J <| K1 J J <| K1 J J <| aA (bL J J) J <| Um J J <| K1 J J <| K1 J J <| K1 J J <| aA (bL J J) J <| Um J J <| K1 J J <| K1 J J <| K1 J J <| aA (bL J J) J <| Um J J <| K1 J J <| K1 J J <| K1 J J <| aA (bL J J) J ?_
  refine Nk [0,1,3,6,58] J <| aS J <| aB <| Rg 2 J <| aA (aJ J (fZ) dD) J <| Ua J J <| Wn <| bA ?_
  exact post (n := 0) (.inr J) J J (by simp)
 refine aA (bP J J) J <| Um J J <| aK J (eF J) J <| aK J (bR J J) J <| aX (fun h38 => ?_) (fun h38 => ?_)
 ·refine aA (bP J J) J <| Um J J <| K1 J J <| K1 J J <| aA (bL J J) J <| Um J J <| K1 J J <| K1 J J <| K1 J J <| aA (bL J J) J <| Um J J <| K1 J J <| K1 J J <| K1 J J <| aA (bL J J) J <| Um J J <| K1 J J <| K1 J J <| K1 J J <| aA (bL J J) J <| Nk [0,1,3,6,58] J <| aS J <| aB ?_
  refine Rg 2 J <| aA (aJ J (fZ) dD) J <| Ua J J <| Wn <| bA ?_
  exact post (n := 0) (.inr J) J J (by simp)
 refine aA (bP J J) J <| Um J J <| aK J (eF J) J <| aK J (eJ J J) J <| aX (fun h42 => ?_) (fun h42 => ?_)
 ·refine aA (bP J J) J <| Um J J <| K1 J J <| K1 J J <| K1 J J <| aA (bL J J) J <| Um J J <| K1 J J <| K1 J J <| K1 J J <| aA (bL J J) J <| Um J J <| K1 J J <| K1 J J <| K1 J J <| aA (bL J J) J <| Nk [0,1,3,6,58] J <| aS J <| aB <| Rg 2 J <| aA (aJ J (fZ) dD) J <| Ua J J <| cK ?_
  refine bA ?_
  exact post (n := 0) (.inr J) J J (by simp)
 refine aA (bP J J) J <| Um J J <| aK J (aM (l := lvM f) J J (by repeat (first | exact g0 | refine g1 om ?_ | refine aC om ?_)) J J) J ?_
 refine aK J (aJ J (nnvalid_run f hf1 hf2) dD) J <| eX (fun h46 => ?_) (fun h46 => ?_)
 rotate_left
 ·refine aK J (fT J) J <| aA (bP J J) J <| Um J J <| K1 J J <| K1 J J <| K1 J J <| aA (bL J J) J <| Um J J <| K1 J J <| K1 J J <| K1 J J <| aA (bL J J) J <| Nk [0,1,3,6,58] J <| aS J <| aB <| Rg 2 J <| aA (aJ J (fZ) dD) J <| Ua J J <| Wn <| bA ?_
  exact post (n := 0) (.inr J) J J (by simp)
 refine aK J (fT J) J <| aA (bP J J) J <| Um J J <| aK J (aM (l := lvM f) J J (by repeat (first | exact g0 | refine g1 om ?_ | refine aC om ?_)) J J) J ?_
 refine aK J (aJ J (qfactor_run f) dD) J <| eX (fun h51 => ?_) (fun h51 => ?_)
 rotate_left
 ·refine aK J (fT J) J <| aA (bP J J) J <| Um J J <| K1 J J <| K1 J J <| K1 J J <| aA (bL J J) J <| Nk [0,1,3,6,58] J <| aS J <| aB <| Rg 2 J <| aA (aJ J (fZ) dD) J <| Ua J J <| Wn <| bA ?_
  exact post (n := 0) (.inr J) J J (by simp)
 refine aK J (fT J) J <| aA (bP J J) J <| Um J J <| aK J (bD J J J J J) J <| aK J (aM J J gG J J) J ?_
 refine aK J (eJ J J) J <| aX (fun h57 => ?_) (fun h57 => ?_)
 ·refine aA (bP J J) J <| Nk [0,1,3,6,58] J <| aS J <| aB <| Rg 2 J <| aA (aJ J (fZ) dD) J <| Ua J J <| Wn <| bA ?_
  exact post (n := 0) (.inr J) J J (by simp)
 refine aA (bP J J) J <| Nk [0,1,3,6,58] J <| aT J <| aF ?_
 obtain ⟨z, rfl⟩ : ∃ z : Nat, nn = (z : Int) := ⟨nn.toNat, om⟩
 have hvf : VN f := of_decide_eq_true (by assumption)
 have hfac : (decide (0 < f.1) && decide (f.1 < f.2)) = true := by assumption
 rw [Bool.and_eq_true] at hfac
 have hf0 := of_decide_eq_true hfac.1
 have hf3 := of_decide_eq_true hfac.2
 have hz1 : 1 ≤ z := by omega
 have hz40 : z ≤ 40 := by omega
 have hr2 : -100 ≤ r ∧ r ≤ 100 := by omega
 have how2 := ow_in hl
 obtain ⟨g, hg, hvg, hB1, hB2, hck, hgap⟩ := rg_all (o := ow l) hz1 hz40 hr2 how2 hvf hf0 hf3 om
 have hd01 := lE hvf hf0 hf3
 have hden : 1 - nq f ≠ 0 := fun h => by have := hd01.2; grind
 have hdenb : Bd 5 (1 - nq f) := by rw [Rat.sub_eq_add_neg]; exact (Bd_1.add hvf.bd.neg).mono (by decide : 2 + 2 + 1 ≤ 5)
 have hrb : Bd 2 (r : Rat) := Bd_int om
 have hI1 := rg1_is (o := ow l) hz40 hr2 how2
 have hI2 := rg2_is (n := z) (r := r) hz40 hr2
 have hIV : IV (List.replicate z g) := fun a ha => by rw [(List.mem_replicate.1 ha).2]; exact ⟨hvg.all3.1, hvg.all3.2.1⟩
 have hwl : (List.replicate z g).length < 1000000 := by rw [List.length_replicate]; omega
 refine Rg 6 J <| aA (eW (cs := [_]) J J J J J) J <| aA (eW (cs := [_]) J J J J J) J <| aY (dU J) J <| aY (dU J) J <| aU (cA (cs' := [_]) J J J J J J J J) <| aU (cA (cs' := [_]) J J J J J J J J) <| Wn <| Rg 1 J <| Ua J J <| Wn <| bG (z := 14) J kR <| Dm J J <| aD (aJ J (nwhole_run r (by unfold I64; omega)) dD) J <| aD (bK (b := lvQ 1) (aJ J (nwhole_run 1 I64_1) dD) J) J <| aD (aM (l := lvM f) J J (by repeat (first | exact g0 | refine g1 om ?_ | refine aC om ?_)) J J) J ?_
 refine aD (bK (b := lvQ (nq f)) (aJ J (nto_run f hf1 hf2 hvf) dD) J) J <| aD (aJ J (nrless_run 1 (nq f) (Bd_1.mono (by decide)) (hvf.bd.mono (by decide))) dD) J <| aD (bK (b := lvQ (rgV r f)) (aJ J (nrdiv_run (r : Rat) (1 - nq f) hden (hrb.mono (by decide)) (hdenb.mono (by decide))) dD) J) J <| aD (bK (b := .tup [lvM g, .v (.bool true)]) (aJ J (nfrom_run (rgV r f)) dD) (by rw [hg]; rfl)) J <| Dm J J <| aD (dF J J) J <| aD (dF J J) J <| mN (dU J) J <| bX (cA (cs' := mc g) J J J g0 J J J J) <| aD (iA J) J <| bE (aQ kR) J <| Ck [0,1,3,6,9,10,11,12] J <| aB <| Rg 2 J <| Um J J <| Um J J <| Wn <| aL ?_
 refine bB (α := Nat × Nat × Nat × Nat) (fun ⟨i, q1, q2, q3⟩ => [(0, .v (.int .i64 (z : Int))), (1, .v (.int .i64 r)), (3, .sl kl (l.map u8c)), (6, .ptr 0 0), (9, .ptr 33 0), (10, .ptr 34 0), (11, outV q3 2 ((List.replicate i g).map mc)), (12, .ptr 49 0), (73, .v (.int .i64 (z : Int))), (74, .v (.int .i64 (i : Int)))]) (fun ⟨i, q1, q2, q3⟩ => outH q3 2 (26) ((List.replicate i g).map mc) (outH q2 3 (54) ((tab i (rg2 z r)).map stc) (outH q1 3 (54) ((tab i (rg1 (ow l) z r)).map stc) [(49, { cells := mc g, sz := 2, elem := (26), st := 0 }), (34, { cells := [outV q2 3 ((tab i (rg2 z r)).map stc)], sz := 1, elem := (24), st := 0 }), (33, { cells := [outV q1 3 ((tab i (rg1 (ow l) z r)).map stc)], sz := 1, elem := (24), st := 0 }), (0, { cells := mc f, sz := 2, elem := (26), st := 0 })]))) (fun ⟨i, q1, q2, q3⟩ n => i ≤ z ∧ 50 < q1 ∧ 50 < q2 ∧ 50 < q3 ∧ q1 < n ∧ q2 < n ∧ q3 < n ∧ q1 ≠ q2 ∧ q1 ≠ q3 ∧ q2 ≠ q3) (fun ⟨i, q1, q2, q3⟩ => z - i) (0, 51, 52, 53) ⟨J, J, J, J, J, J, J, J, J, J, trivial⟩ ⟨(by repeat (first | exact g0 | refine g1 om ?_ | refine aC om ?_)), (by repeat (first | exact g0 | refine g1 om ?_ | refine aC om ?_)), (by repeat (first | exact g0 | refine g1 om ?_ | refine aC om ?_)), (by repeat (first | exact g0 | refine g1 om ?_ | refine aC om ?_)), trivial⟩ ⟨Nat.zero_le _, om, om, om, om, om, om, om, om, om⟩ ?_
 rintro ⟨i, q1, q2, q3⟩ n hF
 change WC _ _ _ _ _ (_ :: _) (outH _ _ _ _ _) n _
 obtain ⟨hi, ha1, ha2, ha3, hb1, hb2, hb3, hc12, hc13, hc23⟩ := hF
 refine qP (z := 1) J <| aA (bR J J) J <| aX (fun h75 => ?_) (fun h75 => ?_)
 ·refine Wn <| Fz.same [(0, _), (1, _), (3, _), (6, _), (9, _), (10, _), (11, _), (12, _), (73, _), (74, _), (75, _)] _ ⟨J, J, J, J, J, J, J, J, J, J, J, trivial⟩ (fun _ _ h => h) <| aS J <| aF <| aL <| Rg 2 J <| Um J J <| Ua J J <| Wn <| bG (z := 12) J kR <| Dm J J <| aD (aJ J (eB r 1) dD) J <| Dm J J <| aD (cI (((i + 1 : Nat) : Int)) (aP J J om) om) J <| Dm J J <| aD (gJ J J om) J <| aD (aJ J (eB 1 1) dD) J <| aD (eW (cs := [_, _, _]) J J J J J) J <| aD (cQ (cs := [_, _, _]) (rows := [[_, _, _]]) J J (by decide) J J J) J <| aD (bK (b := lvC (oneC r ((i + 1) % z))) (eW (cs := [_, _, _]) J J J J J) J) J <| mN (dU J) J <| bX (cA (cs' := chc (oneC r ((i + 1) % z))) J J J g0 J J J J) <| bE (fE (rn n) (by simp only [List.reverse_cons, List.reverse_nil, List.nil_append, List.cons_append, List.map_cons, List.map_nil, ren, keys, Nat.add_assoc, mZ]; kernel_rfl)) J <| Ck [0,1,3,6,9,10,11,12,14,15,73,74] J ?_
  refine Rg 9 J <| Um J J <| aA (aJ J (eB r 1) dD) J <| Um J J <| aA (aJ J (eB 1 1) dD) J <| aA (eW (cs := [_, _, _]) J J J J J) J <| aA (cQ (cs := [_, _, _]) (rows := [[_, _, _]]) J J (by decide) J J J) J <| aA (bK (b := lvC (oneC r i)) (eW (cs := [_, _, _]) J J J J J) J) J <| aY (dU J) J <| aU (cA (cs' := chc (oneC r i)) J J J g0 J J J J) <| Nk [0,1,3,6,9,10,11,12,14,15,16,73,74] J <| bG (z := 8) J kR <| Dm J J <| aD (bV J J om) J <| aD (aJ J (eB (r - 1) 1) dD) J <| aD (bD J J J J J) J <| aD (aM J J gG J J) J ?_
  refine aD (bK (b := lvC (oneC (r - 1) i)) (eW (cs := [_, _, _]) J J J J J) J) J <| mN (dU J) J <| bX (cA (cs' := chc (oneC (r - 1) i)) J J J g0 J J J J) <| bE (fE (rn n) (by simp only [List.reverse_cons, List.reverse_nil, List.nil_append, List.cons_append, List.map_cons, List.map_nil, ren, keys, Nat.add_assoc, mZ]; kernel_rfl)) J <| Ck [0,1,3,6,9,10,11,12,14,15,16,17,73,74] J <| Rg 6 J <| aA (aM (l := lvC (oneC r ((i + 1) % z))) J J gG J J) J ?_
  refine aA (aM (l := lvC (oneC r i)) J J gG J J) J ?_
  refine aA (cQ (cs := [_, _, _, _, _, _]) (rows := [[_, _, _], [_, _, _]]) J J (by decide) J J J) J <| aA (bK (b := .agg (stc ((0, 0), (2, [(oneC r ((i + 1) % z)), (oneC r i)])))) (eW (cs := [_, _, _]) J J J J J) J) J <| aY (dU J) J <| aU (cA (cs' := stc ((0, 0), (2, [(oneC r ((i + 1) % z)), (oneC r i)]))) J J J g0 J J J J) <| Nk [0,1,3,6,9,10,11,12,14,15,16,17,18,73,74] J <| aB <| Rg 4 J <| Um J J <| Um J J <| aA (aZ J J) J <| aA (bR J J) J <| aX (fun h107 => ?_) (fun h107 => ?_)
  rotate_left
  ·refine Nk [0,1,3,6,9,10,11,12,14,15,16,17,18,73,74,107] J <| aT J <| aF ?_
   have how : ow l i = 0 := by unfold ow; rw [if_neg om]
   refine Rg 7 J <| aA (bD J J J J J) J <| aA (aM J J (by repeat (first | exact g0 | refine g1 om ?_ | refine aC om ?_)) J J) J ?_
   refine aA (bK (b := .agg (stc (rg1 (ow l) z r i))) (aM (l := .agg (stc ((0, 0), (2, [(oneC r ((i + 1) % z)), (oneC r i)])))) J J (by repeat (first | exact g0 | refine g1 om ?_ | refine aC om ?_)) J J) (by unfold rg1; rw [how])) J ?_
   refine aA (cQ (cs := [_, _, _]) (rows := [[_, _, _]]) J J (by decide) J J J) J ?_
   refine fA _ (subsM.get (bC (q := q1) (sz := 3) (el := (54)) (us := (tab i (rg1 (ow l) z r)).map stc) (h := outH q3 2 (26) ((List.replicate i g).map mc) (outH q2 3 (54) ((tab i (rg2 z r)).map stc) (((n + 1 + 2 + 12 + 9 + 6), { cells := chc (oneC (r - 1) i), sz := 3, elem := (57), st := 0 }) :: ((n + 1 + 2 + 12 + 7), { cells := chc (oneC r i), sz := 3, elem := (57), st := 0 }) :: ((n + 1 + 2 + 10), { cells := chc (oneC r ((i + 1) % z)), sz := 3, elem := (57), st := 0 }) :: [(49, { cells := mc g, sz := 2, elem := (26), st := 0 }), (34, { cells := [outV q2 3 ((tab i (rg2 z r)).map stc)], sz := 1, elem := (24), st := 0 }), (33, { cells := [outV q1 3 ((tab i (rg1 (ow l) z r)).map stc)], sz := 1, elem := (24), st := 0 }), (0, { cells := mc f, sz := 2, elem := (26), st := 0 })]))) (fun hne => by rw [bQ hne]; repeat (first | exact g0 | refine g1 om ?_ | refine aC om ?_)) (bC (q := q3) (sz := 2) (el := (26)) (us := (List.replicate i g).map mc) (h := outH q2 3 (54) ((tab i (rg2 z r)).map stc) (((n + 1 + 2 + 12 + 9 + 6), { cells := chc (oneC (r - 1) i), sz := 3, elem := (57), st := 0 }) :: ((n + 1 + 2 + 12 + 7), { cells := chc (oneC r i), sz := 3, elem := (57), st := 0 }) :: ((n + 1 + 2 + 10), { cells := chc (oneC r ((i + 1) % z)), sz := 3, elem := (57), st := 0 }) :: [(49, { cells := mc g, sz := 2, elem := (26), st := 0 }), (34, { cells := [outV q2 3 ((tab i (rg2 z r)).map stc)], sz := 1, elem := (24), st := 0 }), (33, { cells := [outV q1 3 ((tab i (rg1 (ow l) z r)).map stc)], sz := 1, elem := (24), st := 0 }), (0, { cells := mc f, sz := 2, elem := (26), st := 0 })])) (fun hne => by rw [bQ hne]; repeat (first | exact g0 | refine g1 om ?_ | refine aC om ?_)) (bC (q := q2) (sz := 3) (el := (54)) (us := (tab i (rg2 z r)).map stc) (h := ((n + 1 + 2 + 12 + 9 + 6), { cells := chc (oneC (r - 1) i), sz := 3, elem := (57), st := 0 }) :: ((n + 1 + 2 + 12 + 7), { cells := chc (oneC r i), sz := 3, elem := (57), st := 0 }) :: ((n + 1 + 2 + 10), { cells := chc (oneC r ((i + 1) % z)), sz := 3, elem := (57), st := 0 }) :: [(49, { cells := mc g, sz := 2, elem := (26), st := 0 }), (34, { cells := [outV q2 3 ((tab i (rg2 z r)).map stc)], sz := 1, elem := (24), st := 0 }), (33, { cells := [outV q1 3 ((tab i (rg1 (ow l) z r)).map stc)], sz := 1, elem := (24), st := 0 }), (0, { cells := mc f, sz := 2, elem := (26), st := 0 })]) (fun hne => by rw [bQ hne]; repeat (first | exact g0 | refine g1 om ?_ | refine aC om ?_)) (⟨(by repeat (first | exact g0 | refine g1 om ?_ | refine aC om ?_)), (by repeat (first | exact g0 | refine g1 om ?_ | refine aC om ?_)), (by repeat (first | exact g0 | refine g1 om ?_ | refine aC om ?_)), (by repeat (first | exact g0 | refine g1 om ?_ | refine aC om ?_)), (by repeat (first | exact g0 | refine g1 om ?_ | refine aC om ?_)), (by repeat (first | exact g0 | refine g1 om ?_ | refine aC om ?_)), (by repeat (first | exact g0 | refine g1 om ?_ | refine aC om ?_)), trivial⟩))))) ?_
   refine cU (te := ti54) (f := stc) (q := q1) (us := (tab i (rg1 (ow l) z r))) (u := rg1 (ow l) z r i) J J J J J (fun _ => rfl) (by decide) (by show (2 * (((tab i (rg1 (ow l) z r))).length + 1) + 256) * 40 ≤ _; rw [cW]; omega) (by rw [cW]; omega) (by repeat (first | rfl | refine gN om ?_ | refine cM om ?_)) (by repeat (first | rfl | refine gN om ?_ | refine cM om ?_)) J ?_
   refine aA (bD J J J J J) J <| aU (oStV J J J J J (by repeat (first | exact g0 | refine g1 om ?_ | refine aC om ?_))) ?_
   refine Nk [0,1,3,6,9,10,11,12,15,16,17,73,74] J <| Rg 11 J <| aA (bD J J J J J) J <| aA (aM J J (by repeat (first | exact g0 | refine g1 om ?_ | refine aC om ?_)) J J) J ?_
   refine aA (aM (l := lvC (oneC (r - 1) i)) J J (by repeat (first | exact g0 | refine g1 om ?_ | refine aC om ?_)) J J) J ?_
   refine aA (aM (l := lvC (oneC r ((i + 1) % z))) J J (by repeat (first | exact g0 | refine g1 om ?_ | refine aC om ?_)) J J) J ?_
   refine aA (aM (l := lvC (oneC r i)) J J (by repeat (first | exact g0 | refine g1 om ?_ | refine aC om ?_)) J J) J ?_
   refine aA (cQ (cs := [_, _, _, _, _, _, _, _, _]) (rows := [[_, _, _], [_, _, _], [_, _, _]]) J J (by decide) J J J) J <| aA (bK (b := .agg (stc (rg2 z r i))) (eW (cs := [_, _, _]) J J J J J) J) J <| aA (cQ (cs := [_, _, _]) (rows := [[_, _, _]]) J J (by decide) J J J) J ?_
   refine fA _ (subsM.get (bC (q := q2) (sz := 3) (el := (54)) (us := (tab i (rg2 z r)).map stc) (h := outH (n + 1 + 2 + 12 + 9 + 8 + 6 + 4 + 4) 3 (54) (((tab i (rg1 (ow l) z r)) ++ [rg1 (ow l) z r i]).map stc) (outH q3 2 (26) ((List.replicate i g).map mc) (((n + 1 + 2 + 12 + 9 + 6), { cells := chc (oneC (r - 1) i), sz := 3, elem := (57), st := 0 }) :: ((n + 1 + 2 + 12 + 7), { cells := chc (oneC r i), sz := 3, elem := (57), st := 0 }) :: ((n + 1 + 2 + 10), { cells := chc (oneC r ((i + 1) % z)), sz := 3, elem := (57), st := 0 }) :: (49, { cells := mc g, sz := 2, elem := (26), st := 0 }) :: (34, { cells := [outV q2 3 ((tab i (rg2 z r)).map stc)], sz := 1, elem := (24), st := 0 }) :: (33, { cells := [outV (n + 1 + 2 + 12 + 9 + 8 + 6 + 4 + 4) 3 (((tab i (rg1 (ow l) z r)) ++ [rg1 (ow l) z r i]).map stc)], sz := 1, elem := (24), st := 0 }) :: (0, { cells := mc f, sz := 2, elem := (26), st := 0 }) :: []))) (fun hne => by rw [bQ hne]; repeat (first | exact g0 | refine g1 om ?_ | refine aC om ?_)) (bC (q := (n + 1 + 2 + 12 + 9 + 8 + 6 + 4 + 4)) (sz := 3) (el := (54)) (us := ((tab i (rg1 (ow l) z r)) ++ [rg1 (ow l) z r i]).map stc) (h := outH q3 2 (26) ((List.replicate i g).map mc) (((n + 1 + 2 + 12 + 9 + 6), { cells := chc (oneC (r - 1) i), sz := 3, elem := (57), st := 0 }) :: ((n + 1 + 2 + 12 + 7), { cells := chc (oneC r i), sz := 3, elem := (57), st := 0 }) :: ((n + 1 + 2 + 10), { cells := chc (oneC r ((i + 1) % z)), sz := 3, elem := (57), st := 0 }) :: (49, { cells := mc g, sz := 2, elem := (26), st := 0 }) :: (34, { cells := [outV q2 3 ((tab i (rg2 z r)).map stc)], sz := 1, elem := (24), st := 0 }) :: (33, { cells := [outV (n + 1 + 2 + 12 + 9 + 8 + 6 + 4 + 4) 3 (((tab i (rg1 (ow l) z r)) ++ [rg1 (ow l) z r i]).map stc)], sz := 1, elem := (24), st := 0 }) :: (0, { cells := mc f, sz := 2, elem := (26), st := 0 }) :: [])) (fun hne => by rw [bQ hne]; repeat (first | exact g0 | refine g1 om ?_ | refine aC om ?_)) (bC (q := q3) (sz := 2) (el := (26)) (us := (List.replicate i g).map mc) (h := ((n + 1 + 2 + 12 + 9 + 6), { cells := chc (oneC (r - 1) i), sz := 3, elem := (57), st := 0 }) :: ((n + 1 + 2 + 12 + 7), { cells := chc (oneC r i), sz := 3, elem := (57), st := 0 }) :: ((n + 1 + 2 + 10), { cells := chc (oneC r ((i + 1) % z)), sz := 3, elem := (57), st := 0 }) :: (49, { cells := mc g, sz := 2, elem := (26), st := 0 }) :: (34, { cells := [outV q2 3 ((tab i (rg2 z r)).map stc)], sz := 1, elem := (24), st := 0 }) :: (33, { cells := [outV (n + 1 + 2 + 12 + 9 + 8 + 6 + 4 + 4) 3 (((tab i (rg1 (ow l) z r)) ++ [rg1 (ow l) z r i]).map stc)], sz := 1, elem := (24), st := 0 }) :: (0, { cells := mc f, sz := 2, elem := (26), st := 0 }) :: []) (fun hne => by rw [bQ hne]; repeat (first | exact g0 | refine g1 om ?_ | refine aC om ?_)) (⟨(by repeat (first | exact g0 | refine g1 om ?_ | refine aC om ?_)), (by repeat (first | exact g0 | refine g1 om ?_ | refine aC om ?_)), (by repeat (first | exact g0 | refine g1 om ?_ | refine aC om ?_)), (by repeat (first | exact g0 | refine g1 om ?_ | refine aC om ?_)), (by repeat (first | exact g0 | refine g1 om ?_ | refine aC om ?_)), (by repeat (first | exact g0 | refine g1 om ?_ | refine aC om ?_)), (by repeat (first | exact g0 | refine g1 om ?_ | refine aC om ?_)), trivial⟩))))) ?_
   refine cU (te := ti54) (f := stc) (q := q2) (us := (tab i (rg2 z r))) (u := rg2 z r i) J J J J J (fun _ => rfl) (by decide) (by show (2 * (((tab i (rg2 z r))).length + 1) + 256) * 40 ≤ _; rw [cW]; omega) (by rw [cW]; omega) (by repeat (first | rfl | refine gN om ?_ | refine cM om ?_)) (by repeat (first | rfl | refine gN om ?_ | refine cM om ?_)) J ?_
   refine aA (bD J J J J J) J <| aU (oStV J J J J J (by repeat (first | exact g0 | refine g1 om ?_ | refine aC om ?_))) ?_
   refine Nk [0,1,3,6,9,10,11,12,73,74] J <| aI (z := 5) J <| Um J J <| aA (aM (l := lvM g) J J (by repeat (first | exact g0 | refine g1 om ?_ | refine aC om ?_)) J J) J ?_
   refine aA (cQ (cs := [_, _]) (rows := [[_, _]]) J J (by decide) J J J) J ?_
   refine fA _ (subsM.get (bC (q := q3) (sz := 2) (el := (26)) (us := (List.replicate i g).map mc) (h := outH (n + 1 + 2 + 12 + 9 + 8 + 6 + 4 + 7 + 8) 3 (54) (((tab i (rg2 z r)) ++ [rg2 z r i]).map stc) (outH (n + 1 + 2 + 12 + 9 + 8 + 6 + 4 + 4) 3 (54) (((tab i (rg1 (ow l) z r)) ++ [rg1 (ow l) z r i]).map stc) ((49, { cells := mc g, sz := 2, elem := (26), st := 0 }) :: (34, { cells := [outV (n + 1 + 2 + 12 + 9 + 8 + 6 + 4 + 7 + 8) 3 (((tab i (rg2 z r)) ++ [rg2 z r i]).map stc)], sz := 1, elem := (24), st := 0 }) :: (33, { cells := [outV (n + 1 + 2 + 12 + 9 + 8 + 6 + 4 + 4) 3 (((tab i (rg1 (ow l) z r)) ++ [rg1 (ow l) z r i]).map stc)], sz := 1, elem := (24), st := 0 }) :: (0, { cells := mc f, sz := 2, elem := (26), st := 0 }) :: []))) (fun hne => by rw [bQ hne]; repeat (first | exact g0 | refine g1 om ?_ | refine aC om ?_)) (bC (q := (n + 1 + 2 + 12 + 9 + 8 + 6 + 4 + 7 + 8)) (sz := 3) (el := (54)) (us := ((tab i (rg2 z r)) ++ [rg2 z r i]).map stc) (h := outH (n + 1 + 2 + 12 + 9 + 8 + 6 + 4 + 4) 3 (54) (((tab i (rg1 (ow l) z r)) ++ [rg1 (ow l) z r i]).map stc) ((49, { cells := mc g, sz := 2, elem := (26), st := 0 }) :: (34, { cells := [outV (n + 1 + 2 + 12 + 9 + 8 + 6 + 4 + 7 + 8) 3 (((tab i (rg2 z r)) ++ [rg2 z r i]).map stc)], sz := 1, elem := (24), st := 0 }) :: (33, { cells := [outV (n + 1 + 2 + 12 + 9 + 8 + 6 + 4 + 4) 3 (((tab i (rg1 (ow l) z r)) ++ [rg1 (ow l) z r i]).map stc)], sz := 1, elem := (24), st := 0 }) :: (0, { cells := mc f, sz := 2, elem := (26), st := 0 }) :: [])) (fun hne => by rw [bQ hne]; repeat (first | exact g0 | refine g1 om ?_ | refine aC om ?_)) (bC (q := (n + 1 + 2 + 12 + 9 + 8 + 6 + 4 + 4)) (sz := 3) (el := (54)) (us := ((tab i (rg1 (ow l) z r)) ++ [rg1 (ow l) z r i]).map stc) (h := (49, { cells := mc g, sz := 2, elem := (26), st := 0 }) :: (34, { cells := [outV (n + 1 + 2 + 12 + 9 + 8 + 6 + 4 + 7 + 8) 3 (((tab i (rg2 z r)) ++ [rg2 z r i]).map stc)], sz := 1, elem := (24), st := 0 }) :: (33, { cells := [outV (n + 1 + 2 + 12 + 9 + 8 + 6 + 4 + 4) 3 (((tab i (rg1 (ow l) z r)) ++ [rg1 (ow l) z r i]).map stc)], sz := 1, elem := (24), st := 0 }) :: (0, { cells := mc f, sz := 2, elem := (26), st := 0 }) :: []) (fun hne => by rw [bQ hne]; repeat (first | exact g0 | refine g1 om ?_ | refine aC om ?_)) (⟨(by repeat (first | exact g0 | refine g1 om ?_ | refine aC om ?_)), (by repeat (first | exact g0 | refine g1 om ?_ | refine aC om ?_)), (by repeat (first | exact g0 | refine g1 om ?_ | refine aC om ?_)), (by repeat (first | exact g0 | refine g1 om ?_ | refine aC om ?_)), trivial⟩))))) ?_
   refine cU (te := ti26) (f := mc) (q := q3) (us := (List.replicate i g)) (u := g) J J J J J (fun _ => rfl) (by decide) (by show (2 * (((List.replicate i g)).length + 1) + 256) * 16 ≤ _; rw [List.length_replicate]; omega) (by rw [List.length_replicate]; omega) (by repeat (first | rfl | refine gN om ?_ | refine cM om ?_)) (by repeat (first | rfl | refine gN om ?_ | refine cM om ?_)) J ?_
   refine Ua J J <| Wn <| aH <| aI (z := 2) J <| aA (cI (((i + 1 : Nat) : Int)) (aP J J om) om) J <| Um J J <| Wn <| aG ?_
   have e1 : tab (i + 1) (rg1 (ow l) z r) = (tab i (rg1 (ow l) z r)) ++ [rg1 (ow l) z r i] := jZ _
   have e2 : tab (i + 1) (rg2 z r) = (tab i (rg2 z r)) ++ [rg2 z r i] := jZ _
   have e3 : List.replicate (i + 1) g = (List.replicate i g) ++ [g] := List.replicate_succ'
   refine ⟨⟨i + 1, n + 1 + 2 + 12 + 9 + 8 + 6 + 4 + 4, n + 1 + 2 + 12 + 9 + 8 + 6 + 4 + 7 + 8, n + 1 + 2 + 12 + 9 + 8 + 6 + 4 + 7 + 11 + 3⟩, ⟨rfl, rfl, rfl, rfl, rfl, rfl, by rw [e3]; rfl, rfl, rfl, rfl, trivial⟩, by dsimp only; rw [e1, e2, e3]; exact bC (q := _) (sz := 2) (el := (26)) (us := ((List.replicate i g) ++ [g]).map mc) (h := _) (fun hne => by rw [bQ hne]; repeat (first | exact g0 | refine g1 om ?_ | refine aC om ?_)) (bC (q := _) (sz := 3) (el := (54)) (us := ((tab i (rg2 z r)) ++ [rg2 z r i]).map stc) (h := _) (fun hne => by rw [bQ hne]; repeat (first | exact g0 | refine g1 om ?_ | refine aC om ?_)) (bC (q := _) (sz := 3) (el := (54)) (us := ((tab i (rg1 (ow l) z r)) ++ [rg1 (ow l) z r i]).map stc) (h := _) (fun hne => by rw [bQ hne]; repeat (first | exact g0 | refine g1 om ?_ | refine aC om ?_)) (⟨(by repeat (first | exact g0 | refine g1 om ?_ | refine aC om ?_)), (by repeat (first | exact g0 | refine g1 om ?_ | refine aC om ?_)), (by repeat (first | exact g0 | refine g1 om ?_ | refine aC om ?_)), (by repeat (first | exact g0 | refine g1 om ?_ | refine aC om ?_)), trivial⟩))), ⟨om, om, om, om, om, om, om, om, om, om⟩, by show z - (i + 1) < z - i; omega⟩
  refine Nk [0,1,3,6,9,10,11,12,14,15,16,17,18,73,74,107] J <| aS J <| Rg 8 J <| Um J J <| Um J J <| aA (bS (j := i) J J J J om om J) J <| aA (dH J J J) J <| aA (cI (l.getD i default) (cL J J J) (wrap_u8 (hl _ (bJ (us := l) (i := i) om)))) J <| aA (cI (ow l i) (oRem J J om) (by unfold ow; rw [if_pos om])) J <| aA (bD J J J J J) J <| aU (cA (cs' := stc (rg1 (ow l) z r i)) J J J g0 J J J J) <| Nk [0,1,3,6,9,10,11,12,15,16,17,18,73,74] J <| Rg 7 J <| aA (bD J J J J J) J <| aA (aM J J (by repeat (first | exact g0 | refine g1 om ?_ | refine aC om ?_)) J J) J ?_
  refine aA (aM (l := .agg (stc (rg1 (ow l) z r i))) J J (by repeat (first | exact g0 | refine g1 om ?_ | refine aC om ?_)) J J) J ?_
  refine aA (cQ (cs := [_, _, _]) (rows := [[_, _, _]]) J J (by decide) J J J) J ?_
  refine fA _ (subsM.get (bC (q := q1) (sz := 3) (el := (54)) (us := (tab i (rg1 (ow l) z r)).map stc) (h := outH q3 2 (26) ((List.replicate i g).map mc) (outH q2 3 (54) ((tab i (rg2 z r)).map stc) (((n + 1 + 2 + 12 + 9 + 6), { cells := chc (oneC (r - 1) i), sz := 3, elem := (57), st := 0 }) :: ((n + 1 + 2 + 12 + 7), { cells := chc (oneC r i), sz := 3, elem := (57), st := 0 }) :: ((n + 1 + 2 + 10), { cells := chc (oneC r ((i + 1) % z)), sz := 3, elem := (57), st := 0 }) :: [(49, { cells := mc g, sz := 2, elem := (26), st := 0 }), (34, { cells := [outV q2 3 ((tab i (rg2 z r)).map stc)], sz := 1, elem := (24), st := 0 }), (33, { cells := [outV q1 3 ((tab i (rg1 (ow l) z r)).map stc)], sz := 1, elem := (24), st := 0 }), (0, { cells := mc f, sz := 2, elem := (26), st := 0 })]))) (fun hne => by rw [bQ hne]; repeat (first | exact g0 | refine g1 om ?_ | refine aC om ?_)) (bC (q := q3) (sz := 2) (el := (26)) (us := (List.replicate i g).map mc) (h := outH q2 3 (54) ((tab i (rg2 z r)).map stc) (((n + 1 + 2 + 12 + 9 + 6), { cells := chc (oneC (r - 1) i), sz := 3, elem := (57), st := 0 }) :: ((n + 1 + 2 + 12 + 7), { cells := chc (oneC r i), sz := 3, elem := (57), st := 0 }) :: ((n + 1 + 2 + 10), { cells := chc (oneC r ((i + 1) % z)), sz := 3, elem := (57), st := 0 }) :: [(49, { cells := mc g, sz := 2, elem := (26), st := 0 }), (34, { cells := [outV q2 3 ((tab i (rg2 z r)).map stc)], sz := 1, elem := (24), st := 0 }), (33, { cells := [outV q1 3 ((tab i (rg1 (ow l) z r)).map stc)], sz := 1, elem := (24), st := 0 }), (0, { cells := mc f, sz := 2, elem := (26), st := 0 })])) (fun hne => by rw [bQ hne]; repeat (first | exact g0 | refine g1 om ?_ | refine aC om ?_)) (bC (q := q2) (sz := 3) (el := (54)) (us := (tab i (rg2 z r)).map stc) (h := ((n + 1 + 2 + 12 + 9 + 6), { cells := chc (oneC (r - 1) i), sz := 3, elem := (57), st := 0 }) :: ((n + 1 + 2 + 12 + 7), { cells := chc (oneC r i), sz := 3, elem := (57), st := 0 }) :: ((n + 1 + 2 + 10), { cells := chc (oneC r ((i + 1) % z)), sz := 3, elem := (57), st := 0 }) :: [(49, { cells := mc g, sz := 2, elem := (26), st := 0 }), (34, { cells := [outV q2 3 ((tab i (rg2 z r)).map stc)], sz := 1, elem := (24), st := 0 }), (33, { cells := [outV q1 3 ((tab i (rg1 (ow l) z r)).map stc)], sz := 1, elem := (24), st := 0 }), (0, { cells := mc f, sz := 2, elem := (26), st := 0 })]) (fun hne => by rw [bQ hne]; repeat (first | exact g0 | refine g1 om ?_ | refine aC om ?_)) (⟨(by repeat (first | exact g0 | refine g1 om ?_ | refine aC om ?_)), (by repeat (first | exact g0 | refine g1 om ?_ | refine aC om ?_)), (by repeat (first | exact g0 | refine g1 om ?_ | refine aC om ?_)), (by repeat (first | exact g0 | refine g1 om ?_ | refine aC om ?_)), (by repeat (first | exact g0 | refine g1 om ?_ | refine aC om ?_)), (by repeat (first | exact g0 | refine g1 om ?_ | refine aC om ?_)), (by repeat (first | exact g0 | refine g1 om ?_ | refine aC om ?_)), trivial⟩))))) ?_
  refine cU (te := ti54) (f := stc) (q := q1) (us := (tab i (rg1 (ow l) z r))) (u := rg1 (ow l) z r i) J J J J J (fun _ => rfl) (by decide) (by show (2 * (((tab i (rg1 (ow l) z r))).length + 1) + 256) * 40 ≤ _; rw [cW]; omega) (by rw [cW]; omega) (by repeat (first | rfl | refine gN om ?_ | refine cM om ?_)) (by repeat (first | rfl | refine gN om ?_ | refine cM om ?_)) J ?_
  refine aA (bD J J J J J) J <| aU (oStV J J J J J (by repeat (first | exact g0 | refine g1 om ?_ | refine aC om ?_))) ?_
  refine Nk [0,1,3,6,9,10,11,12,15,16,17,73,74] J <| Rg 11 J <| aA (bD J J J J J) J <| aA (aM J J (by repeat (first | exact g0 | refine g1 om ?_ | refine aC om ?_)) J J) J ?_
  refine aA (aM (l := lvC (oneC (r - 1) i)) J J (by repeat (first | exact g0 | refine g1 om ?_ | refine aC om ?_)) J J) J ?_
  refine aA (aM (l := lvC (oneC r ((i + 1) % z))) J J (by repeat (first | exact g0 | refine g1 om ?_ | refine aC om ?_)) J J) J ?_
  refine aA (aM (l := lvC (oneC r i)) J J (by repeat (first | exact g0 | refine g1 om ?_ | refine aC om ?_)) J J) J ?_
  refine aA (cQ (cs := [_, _, _, _, _, _, _, _, _]) (rows := [[_, _, _], [_, _, _], [_, _, _]]) J J (by decide) J J J) J <| aA (bK (b := .agg (stc (rg2 z r i))) (eW (cs := [_, _, _]) J J J J J) J) J <| aA (cQ (cs := [_, _, _]) (rows := [[_, _, _]]) J J (by decide) J J J) J ?_
  refine fA _ (subsM.get (bC (q := q2) (sz := 3) (el := (54)) (us := (tab i (rg2 z r)).map stc) (h := outH (n + 1 + 2 + 12 + 9 + 8 + 6 + 4 + 8 + 4) 3 (54) (((tab i (rg1 (ow l) z r)) ++ [rg1 (ow l) z r i]).map stc) (outH q3 2 (26) ((List.replicate i g).map mc) (((n + 1 + 2 + 12 + 9 + 6), { cells := chc (oneC (r - 1) i), sz := 3, elem := (57), st := 0 }) :: ((n + 1 + 2 + 12 + 7), { cells := chc (oneC r i), sz := 3, elem := (57), st := 0 }) :: ((n + 1 + 2 + 10), { cells := chc (oneC r ((i + 1) % z)), sz := 3, elem := (57), st := 0 }) :: (49, { cells := mc g, sz := 2, elem := (26), st := 0 }) :: (34, { cells := [outV q2 3 ((tab i (rg2 z r)).map stc)], sz := 1, elem := (24), st := 0 }) :: (33, { cells := [outV (n + 1 + 2 + 12 + 9 + 8 + 6 + 4 + 8 + 4) 3 (((tab i (rg1 (ow l) z r)) ++ [rg1 (ow l) z r i]).map stc)], sz := 1, elem := (24), st := 0 }) :: (0, { cells := mc f, sz := 2, elem := (26), st := 0 }) :: []))) (fun hne => by rw [bQ hne]; repeat (first | exact g0 | refine g1 om ?_ | refine aC om ?_)) (bC (q := (n + 1 + 2 + 12 + 9 + 8 + 6 + 4 + 8 + 4)) (sz := 3) (el := (54)) (us := ((tab i (rg1 (ow l) z r)) ++ [rg1 (ow l) z r i]).map stc) (h := outH q3 2 (26) ((List.replicate i g).map mc) (((n + 1 + 2 + 12 + 9 + 6), { cells := chc (oneC (r - 1) i), sz := 3, elem := (57), st := 0 }) :: ((n + 1 + 2 + 12 + 7), { cells := chc (oneC r i), sz := 3, elem := (57), st := 0 }) :: ((n + 1 + 2 + 10), { cells := chc (oneC r ((i + 1) % z)), sz := 3, elem := (57), st := 0 }) :: (49, { cells := mc g, sz := 2, elem := (26), st := 0 }) :: (34, { cells := [outV q2 3 ((tab i (rg2 z r)).map stc)], sz := 1, elem := (24), st := 0 }) :: (33, { cells := [outV (n + 1 + 2 + 12 + 9 + 8 + 6 + 4 + 8 + 4) 3 (((tab i (rg1 (ow l) z r)) ++ [rg1 (ow l) z r i]).map stc)], sz := 1, elem := (24), st := 0 }) :: (0, { cells := mc f, sz := 2, elem := (26), st := 0 }) :: [])) (fun hne => by rw [bQ hne]; repeat (first | exact g0 | refine g1 om ?_ | refine aC om ?_)) (bC (q := q3) (sz := 2) (el := (26)) (us := (List.replicate i g).map mc) (h := ((n + 1 + 2 + 12 + 9 + 6), { cells := chc (oneC (r - 1) i), sz := 3, elem := (57), st := 0 }) :: ((n + 1 + 2 + 12 + 7), { cells := chc (oneC r i), sz := 3, elem := (57), st := 0 }) :: ((n + 1 + 2 + 10), { cells := chc (oneC r ((i + 1) % z)), sz := 3, elem := (57), st := 0 }) :: (49, { cells := mc g, sz := 2, elem := (26), st := 0 }) :: (34, { cells := [outV q2 3 ((tab i (rg2 z r)).map stc)], sz := 1, elem := (24), st := 0 }) :: (33, { cells := [outV (n + 1 + 2 + 12 + 9 + 8 + 6 + 4 + 8 + 4) 3 (((tab i (rg1 (ow l) z r)) ++ [rg1 (ow l) z r i]).map stc)], sz := 1, elem := (24), st := 0 }) :: (0, { cells := mc f, sz := 2, elem := (26), st := 0 }) :: []) (fun hne => by rw [bQ hne]; repeat (first | exact g0 | refine g1 om ?_ | refine aC om ?_)) (⟨(by repeat (first | exact g0 | refine g1 om ?_ | refine aC om ?_)), (by repeat (first | exact g0 | refine g1 om ?_ | refine aC om ?_)), (by repeat (first | exact g0 | refine g1 om ?_ | refine aC om ?_)), (by repeat (first | exact g0 | refine g1 om ?_ | refine aC om ?_)), (by repeat (first | exact g0 | refine g1 om ?_ | refine aC om ?_)), (by repeat (first | exact g0 | refine g1 om ?_ | refine aC om ?_)), (by repeat (first | exact g0 | refine g1 om ?_ | refine aC om ?_)), trivial⟩))))) ?_
  refine cU (te := ti54) (f := stc) (q := q2) (us := (tab i (rg2 z r))) (u := rg2 z r i) J J J J J (fun _ => rfl) (by decide) (by show (2 * (((tab i (rg2 z r))).length + 1) + 256) * 40 ≤ _; rw [cW]; omega) (by rw [cW]; omega) (by repeat (first | rfl | refine gN om ?_ | refine cM om ?_)) (by repeat (first | rfl | refine gN om ?_ | refine cM om ?_)) J ?_
  refine aA (bD J J J J J) J <| aU (oStV J J J J J (by repeat (first | exact g0 | refine g1 om ?_ | refine aC om ?_))) ?_
  refine Nk [0,1,3,6,9,10,11,12,73,74] J <| aI (z := 5) J <| Um J J <| aA (aM (l := lvM g) J J (by repeat (first | exact g0 | refine g1 om ?_ | refine aC om ?_)) J J) J ?_
  refine aA (cQ (cs := [_, _]) (rows := [[_, _]]) J J (by decide) J J J) J ?_
  refine fA _ (subsM.get (bC (q := q3) (sz := 2) (el := (26)) (us := (List.replicate i g).map mc) (h := outH (n + 1 + 2 + 12 + 9 + 8 + 6 + 4 + 8 + 7 + 8) 3 (54) (((tab i (rg2 z r)) ++ [rg2 z r i]).map stc) (outH (n + 1 + 2 + 12 + 9 + 8 + 6 + 4 + 8 + 4) 3 (54) (((tab i (rg1 (ow l) z r)) ++ [rg1 (ow l) z r i]).map stc) ((49, { cells := mc g, sz := 2, elem := (26), st := 0 }) :: (34, { cells := [outV (n + 1 + 2 + 12 + 9 + 8 + 6 + 4 + 8 + 7 + 8) 3 (((tab i (rg2 z r)) ++ [rg2 z r i]).map stc)], sz := 1, elem := (24), st := 0 }) :: (33, { cells := [outV (n + 1 + 2 + 12 + 9 + 8 + 6 + 4 + 8 + 4) 3 (((tab i (rg1 (ow l) z r)) ++ [rg1 (ow l) z r i]).map stc)], sz := 1, elem := (24), st := 0 }) :: (0, { cells := mc f, sz := 2, elem := (26), st := 0 }) :: []))) (fun hne => by rw [bQ hne]; repeat (first | exact g0 | refine g1 om ?_ | refine aC om ?_)) (bC (q := (n + 1 + 2 + 12 + 9 + 8 + 6 + 4 + 8 + 7 + 8)) (sz := 3) (el := (54)) (us := ((tab i (rg2 z r)) ++ [rg2 z r i]).map stc) (h := outH (n + 1 + 2 + 12 + 9 + 8 + 6 + 4 + 8 + 4) 3 (54) (((tab i (rg1 (ow l) z r)) ++ [rg1 (ow l) z r i]).map stc) ((49, { cells := mc g, sz := 2, elem := (26), st := 0 }) :: (34, { cells := [outV (n + 1 + 2 + 12 + 9 + 8 + 6 + 4 + 8 + 7 + 8) 3 (((tab i (rg2 z r)) ++ [rg2 z r i]).map stc)], sz := 1, elem := (24), st := 0 }) :: (33, { cells := [outV (n + 1 + 2 + 12 + 9 + 8 + 6 + 4 + 8 + 4) 3 (((tab i (rg1 (ow l) z r)) ++ [rg1 (ow l) z r i]).map stc)], sz := 1, elem := (24), st := 0 }) :: (0, { cells := mc f, sz := 2, elem := (26), st := 0 }) :: [])) (fun hne => by rw [bQ hne]; repeat (first | exact g0 | refine g1 om ?_ | refine aC om ?_)) (bC (q := (n + 1 + 2 + 12 + 9 + 8 + 6 + 4 + 8 + 4)) (sz := 3) (el := (54)) (us := ((tab i (rg1 (ow l) z r)) ++ [rg1 (ow l) z r i]).map stc) (h := (49, { cells := mc g, sz := 2, elem := (26), st := 0 }) :: (34, { cells := [outV (n + 1 + 2 + 12 + 9 + 8 + 6 + 4 + 8 + 7 + 8) 3 (((tab i (rg2 z r)) ++ [rg2 z r i]).map stc)], sz := 1, elem := (24), st := 0 }) :: (33, { cells := [outV (n + 1 + 2 + 12 + 9 + 8 + 6 + 4 + 8 + 4) 3 (((tab i (rg1 (ow l) z r)) ++ [rg1 (ow l) z r i]).map stc)], sz := 1, elem := (24), st := 0 }) :: (0, { cells := mc f, sz := 2, elem := (26), st := 0 }) :: []) (fun hne => by rw [bQ hne]; repeat (first | exact g0 | refine g1 om ?_ | refine aC om ?_)) (⟨(by repeat (first | exact g0 | refine g1 om ?_ | refine aC om ?_)), (by repeat (first | exact g0 | refine g1 om ?_ | refine aC om ?_)), (by repeat (first | exact g0 | refine g1 om ?_ | refine aC om ?_)), (by repeat (first | exact g0 | refine g1 om ?_ | refine aC om ?_)), trivial⟩))))) ?_
  refine cU (te := ti26) (f := mc) (q := q3) (us := (List.replicate i g)) (u := g) J J J J J (fun _ => rfl) (by decide) (by show (2 * (((List.replicate i g)).length + 1) + 256) * 16 ≤ _; rw [List.length_replicate]; omega) (by rw [List.length_replicate]; omega) (by repeat (first | rfl | refine gN om ?_ | refine cM om ?_)) (by repeat (first | rfl | refine gN om ?_ | refine cM om ?_)) J ?_
  refine Ua J J <| Wn <| aH <| aI (z := 2) J <| aA (cI (((i + 1 : Nat) : Int)) (aP J J om) om) J <| Um J J <| Wn <| aG ?_
  have e1 : tab (i + 1) (rg1 (ow l) z r) = (tab i (rg1 (ow l) z r)) ++ [rg1 (ow l) z r i] := jZ _
  have e2 : tab (i + 1) (rg2 z r) = (tab i (rg2 z r)) ++ [rg2 z r i] := jZ _
  have e3 : List.replicate (i + 1) g = (List.replicate i g) ++ [g] := List.replicate_succ'
  refine ⟨⟨i + 1, n + 1 + 2 + 12 + 9 + 8 + 6 + 4 + 8 + 4, n + 1 + 2 + 12 + 9 + 8 + 6 + 4 + 8 + 7 + 8, n + 1 + 2 + 12 + 9 + 8 + 6 + 4 + 8 + 7 + 11 + 3⟩, ⟨rfl, rfl, rfl, rfl, rfl, rfl, by rw [e3]; rfl, rfl, rfl, rfl, trivial⟩, by dsimp only; rw [e1, e2, e3]; exact bC (q := _) (sz := 2) (el := (26)) (us := ((List.replicate i g) ++ [g]).map mc) (h := _) (fun hne => by rw [bQ hne]; repeat (first | exact g0 | refine g1 om ?_ | refine aC om ?_)) (bC (q := _) (sz := 3) (el := (54)) (us := ((tab i (rg2 z r)) ++ [rg2 z r i]).map stc) (h := _) (fun hne => by rw [bQ hne]; repeat (first | exact g0 | refine g1 om ?_ | refine aC om ?_)) (bC (q := _) (sz := 3) (el := (54)) (us := ((tab i (rg1 (ow l) z r)) ++ [rg1 (ow l) z r i]).map stc) (h := _) (fun hne => by rw [bQ hne]; repeat (first | exact g0 | refine g1 om ?_ | refine aC om ?_)) (⟨(by repeat (first | exact g0 | refine g1 om ?_ | refine aC om ?_)), (by repeat (first | exact g0 | refine g1 om ?_ | refine aC om ?_)), (by repeat (first | exact g0 | refine g1 om ?_ | refine aC om ?_)), (by repeat (first | exact g0 | refine g1 om ?_ | refine aC om ?_)), trivial⟩))), ⟨om, om, om, om, om, om, om, om, om, om⟩, by show z - (i + 1) < z - i; omega⟩
 refine cK ?_
 obtain rfl : z = i := by omega
 refine Fz.weakH (outH q1 3 (54) ((tab z (rg1 (ow l) z r)).map stc) ((33, { cells := [] ++ [outV q1 3 ((tab z (rg1 (ow l) z r)).map stc)], sz := 1, elem := (24), st := 0 }) :: outH q2 3 (54) ((tab z (rg2 z r)).map stc) (outH q3 2 (26) ((List.replicate z g).map mc) ([(34, { cells := [outV q2 3 ((tab z (rg2 z r)).map stc)], sz := 1, elem := (24), st := 0 }), (0, { cells := mc f, sz := 2, elem := (26), st := 0 })])))) (subsM.get (bC (q := q1) (sz := 3) (el := (54)) (us := (tab z (rg1 (ow l) z r)).map stc) (h := _) (fun hne => by rw [bQ hne]; repeat (first | exact g0 | refine g1 om ?_ | refine aC om ?_)) (⟨(by repeat (first | exact g0 | refine g1 om ?_ | refine aC om ?_)), bC (q := q2) (sz := 3) (el := (54)) (us := (tab z (rg2 z r)).map stc) (h := _) (fun hne => by rw [bQ hne]; repeat (first | exact g0 | refine g1 om ?_ | refine aC om ?_)) (bC (q := q3) (sz := 2) (el := (26)) (us := (List.replicate z g).map mc) (h := _) (fun hne => by rw [bQ hne]; repeat (first | exact g0 | refine g1 om ?_ | refine aC om ?_)) (⟨(by repeat (first | exact g0 | refine g1 om ?_ | refine aC om ?_)), (by repeat (first | exact g0 | refine g1 om ?_ | refine aC om ?_)), trivial⟩))⟩))) ?_
 refine Fz.cellR (A := []) [(0, _), (1, _), (3, _), (6, _), (9, _), (10, _), (11, _), (12, _), (73, _), (74, _), (75, _)] ⟨J, J, J, J, J, J, J, J, J, J, J, trivial⟩ om (by decide) (cJ (f := stc) (n := 3) fun _ => rfl) (bN (f := stc) dstc1) (by repeat (first | rfl | refine gN om ?_ | refine cM om ?_)) ?_
 rw [iH]
 refine aT J <| aV <| aR <| aO J <| qP (z := 10) J <| aA (aM (l := lvMo (kd (tab z (rg1 (ow l) z r)).length) (tab z (rg1 (ow l) z r))) J J (by repeat (first | exact g0 | refine g1 om ?_ | refine aC om ?_)) J J) J ?_
 refine aA (aM (l := lvM f) J J (by repeat (first | exact g0 | refine g1 om ?_ | refine aC om ?_)) J J) J ?_
 refine aA (bK (b := .tup [.sl (kd z) ((List.replicate z g).map mc), .sl 1 ((List.replicate z (0 : Int)).map ic), .v (.int .i64 0)]) (aJ J (kO (kd (tab z (rg1 (ow l) z r)).length) (tab z (rg1 (ow l) z r)) f hI1 hf1 hf2) dD) hB1) J <| Um J J <| aA (dF J J) J <| aA (dF J J) J <| aA (dF J J) J <| Ua J J <| Ua J J <| Ua J J <| Wn <| Fz.weakH (outH q2 3 (54) ((tab z (rg2 z r)).map stc) ((34, { cells := [] ++ [outV q2 3 ((tab z (rg2 z r)).map stc)], sz := 1, elem := (24), st := 0 }) :: outH q3 2 (26) ((List.replicate z g).map mc) ([(33, { cells := [.sl (kd (tab z (rg1 (ow l) z r)).length) ((tab z (rg1 (ow l) z r)).map stc)], sz := 1, elem := (24), st := 0 }), (0, { cells := mc f, sz := 2, elem := (26), st := 0 })]))) (subsM.get (bC (q := q2) (sz := 3) (el := (54)) (us := (tab z (rg2 z r)).map stc) (h := _) (fun hne => by rw [bQ hne]; repeat (first | exact g0 | refine g1 om ?_ | refine aC om ?_)) (⟨(by repeat (first | exact g0 | refine g1 om ?_ | refine aC om ?_)), bC (q := q3) (sz := 2) (el := (26)) (us := (List.replicate z g).map mc) (h := _) (fun hne => by rw [bQ hne]; repeat (first | exact g0 | refine g1 om ?_ | refine aC om ?_)) (⟨(by repeat (first | exact g0 | refine g1 om ?_ | refine aC om ?_)), (by repeat (first | exact g0 | refine g1 om ?_ | refine aC om ?_)), trivial⟩)⟩))) ?_
 refine Fz.cellR (A := []) [(0, _), (6, _), (9, _), (10, _), (11, _), (19, _), (20, _), (21, _)] ⟨J, J, J, J, J, J, J, J, trivial⟩ om (by decide) (cJ (f := stc) (n := 3) fun _ => rfl) (bN (f := stc) dstc1) (by repeat (first | rfl | refine gN om ?_ | refine cM om ?_)) ?_
 rw [iH]
 refine qP (z := 10) J <| aA (aM (l := lvMo (kd (tab z (rg2 z r)).length) (tab z (rg2 z r))) J J (by repeat (first | exact g0 | refine g1 om ?_ | refine aC om ?_)) J J) J ?_
 refine aA (aM (l := lvM f) J J (by repeat (first | exact g0 | refine g1 om ?_ | refine aC om ?_)) J J) J ?_
 refine aA (bK (b := .tup [.sl (kd z) ((List.replicate z g).map mc), .sl 1 ((List.replicate z (1 : Int)).map ic), .v (.int .i64 0)]) (aJ J (kO (kd (tab z (rg2 z r)).length) (tab z (rg2 z r)) f hI2 hf1 hf2) dD) hB2) J <| Um J J <| aA (dF J J) J <| aA (dF J J) J <| aA (dF J J) J <| Ua J J <| Ua J J <| Ua J J <| Wn <| Fz.weakH (outH q3 2 (26) ((List.replicate z g).map mc) [(33, { cells := [.sl (kd (tab z (rg1 (ow l) z r)).length) ((tab z (rg1 (ow l) z r)).map stc)], sz := 1, elem := (24), st := 0 }), (34, { cells := [.sl (kd (tab z (rg2 z r)).length) ((tab z (rg2 z r)).map stc)], sz := 1, elem := (24), st := 0 }), (0, { cells := mc f, sz := 2, elem := (26), st := 0 })]) (subsM.get (bC (q := q3) (sz := 2) (el := (26)) (us := (List.replicate z g).map mc) (h := _) (fun hne => by rw [bQ hne]; repeat (first | exact g0 | refine g1 om ?_ | refine aC om ?_)) (⟨(by repeat (first | exact g0 | refine g1 om ?_ | refine aC om ?_)), (by repeat (first | exact g0 | refine g1 om ?_ | refine aC om ?_)), (by repeat (first | exact g0 | refine g1 om ?_ | refine aC om ?_)), trivial⟩))) ?_
 refine Fz.env (t := 11) (us := (List.replicate z g).map mc) [(0, _), (6, _), (9, _), (10, _), (19, _), (20, _), (21, _), (22, _), (23, _), (24, _)] ⟨J, J, J, J, J, J, J, J, J, J, trivial⟩ J (fun _ r' o hr e => by rw [e] at hr; have h0 : getH [(33, { cells := [.sl (kd (tab z (rg1 (ow l) z r)).length) ((tab z (rg1 (ow l) z r)).map stc)], sz := 1, elem := (24), st := 0 }), (34, { cells := [.sl (kd (tab z (rg2 z r)).length) ((tab z (rg2 z r)).map stc)], sz := 1, elem := (24), st := 0 }), (0, { cells := mc f, sz := 2, elem := (26), st := 0 })] q3 = none := (by repeat (first | rfl | refine gN om ?_ | refine cM om ?_)); rw [h0] at hr; cases hr) (by decide) (cJ (f := mc) (n := 2) fun _ => rfl) (bN dmc) ?_
 refine Rg 9 J <| aA (aM (l := lvMo (kd (tab z (rg2 z r)).length) (tab z (rg2 z r))) J J (by repeat (first | exact g0 | refine g1 om ?_ | refine aC om ?_)) J J) J ?_
 refine aA (aM (l := lvM f) J J (by repeat (first | exact g0 | refine g1 om ?_ | refine aC om ?_)) J J) J ?_
 refine Um J J <| aA (bK (b := .tup [.v (.bool true), .v (.int .i64 0)]) (aJ J (dchk_run (kd (tab z (rg2 z r)).length) _ (tab z (rg2 z r)) f (List.replicate z g) hI2 hf1 hf2 hIV hwl) (bO (by intro c hc; simp only [List.mem_cons, List.not_mem_nil, or_false] at hc; rcases hc with rfl | rfl | rfl; exact lQ; exact lQ; exact (.sl _ _ fun row hr => bN dmc row hr)))) hck) J <| Um J J <| aA (dF J J) J <| aA (dF J J) J <| Ua J J <| Ua J J <| Nk [0,6,9,11,19,20,21,22,23,24,25,26] J ?_
 obtain ⟨nJ, hnJ⟩ : ∃ z, z = n := ⟨n, rfl⟩
 subst hnJ
 refine Rg 10 J <| aA (aM (l := lvMo (kd (tab z (rg1 (ow l) z r)).length) (tab z (rg1 (ow l) z r))) J J (by repeat (first | exact g0 | refine g1 om ?_ | refine aC om ?_)) J J) J ?_
 refine aA (aM (l := lvM f) J J (by repeat (first | exact g0 | refine g1 om ?_ | refine aC om ?_)) J J) J ?_
 refine Um J J <| aA (bK (b := .tup [lvM (0, 1), .v (.int .i64 0)]) (aJ J (dgap_run (kd (tab z (rg1 (ow l) z r)).length) _ (tab z (rg1 (ow l) z r)) f (List.replicate z g) hI1 hf1 hf2 hIV hwl) (bO (by intro c hc; simp only [List.mem_cons, List.not_mem_nil, or_false] at hc; rcases hc with rfl | rfl | rfl; exact lQ; exact lQ; exact (.sl _ _ fun row hr => bN dmc row hr)))) hgap) J <| Um J J <| aA (dF J J) J <| aA (dF J J) J <| aY (dU J) J <| aU (cA (cs' := mc (0, 1)) J J J g0 J J J J) <| Ua J J <| Nk [0,11,19,20,21,22,23,24,25,26,27,28] J <| aB <| Rg 3 J <| Um J J <| aA (cI ((z : Int)) (aZ J J) (by simp [List.length_replicate])) J <| Um J J <| Nk [0,11,19,20,21,22,23,24,25,26,27,28,165,166] J <| aL <| bB (α := Nat) (fun i => [(0, .v (.int .i64 (z : Int))), (11, .sl (kd ((List.replicate z g).map mc).length) ((List.replicate z g).map mc)), (19, .sl (kd z) ((List.replicate z g).map mc)), (20, .sl 1 ((List.replicate z (0 : Int)).map ic)), (21, .v (.int .i64 (0 : Int))), (22, .sl (kd z) ((List.replicate z g).map mc)), (23, .sl 1 ((List.replicate z (1 : Int)).map ic)), (24, .v (.int .i64 (0 : Int))), (25, .v (.bool true)), (26, .v (.int .i64 (0 : Int))), (27, .ptr (nJ + 37) 0), (28, .v (.int .i64 (0 : Int))), (165, .v (.int .i64 (z : Int))), (166, .v (.int .i64 (i : Int)))]) (fun i => [(nJ + 37, { cells := mc (0, 1), sz := 2, elem := (26), st := 0 })]) (fun i n => i ≤ z) (fun i => z - i) (0) ⟨J, J, J, J, J, J, J, J, J, J, J, J, J, J, trivial⟩ ⟨(by repeat (first | exact g0 | refine g1 om ?_ | refine aC om ?_)), trivial⟩ (Nat.zero_le _) ?_
 rintro i n hF
 change WC _ _ _ _ _ (_ :: _) (_ :: _) n _
 have hi := hF
 refine Rg 1 J <| aA (bR J J) J <| aX (fun h167 => ?_) (fun h167 => ?_)
 rotate_left
 ·refine Nk [0,11,19,20,21,22,23,24,25,26,27,28,165,166,167] J <| aT J <| aV <| aR <| aO J <| Ck [11,19,22,25,26,27,28] J <| bG (z := 28) J kR <| Dm J J <| Dm J J <| aD (aJ J (lY _ _ (List.replicate z g) om) (bO (by intro c hc; simp only [List.mem_cons, List.not_mem_nil, or_false] at hc; rcases hc with rfl | rfl; exact (.sl _ _ fun row hr => bN dmc row hr); exact (.sl _ _ fun row hr => bN dmc row hr)))) J <| Dm J J <| dS J (eF J) J <| dS J (eF J) J <| dS J (aJ J (lY _ _ (List.replicate z g) om) (bO (by intro c hc; simp only [List.mem_cons, List.not_mem_nil, or_false] at hc; rcases hc with rfl | rfl; exact (.sl _ _ fun row hr => bN dmc row hr); exact (.sl _ _ fun row hr => bN dmc row hr)))) J <| aD (bL J J) J <| Dm J J <| dS J (eF J) J <| dS J (bK (b := .v (.bool true)) (eY J J) (by simp)) J <| aD (bL J J) J <| Dm J J <| dS J (eF J) J <| aD (bL J J) J <| Dm J J ?_
  refine dS J (eF J) J <| dS J (bK (b := .v (.bool true)) (eY J J) (by simp)) J <| aD (bL J J) J <| Dm J J <| dS J (aM (l := lvM (0, 1)) J J (by repeat (first | exact g0 | refine g1 om ?_ | refine aC om ?_)) J J) J ?_
  refine dS J (aJ J (eB 0 1) dD) J <| dS J (bK (b := .v (.bool true)) (oEqS J J J J J) (by rfl)) J <| aD (bL J J) J <| Dm J J <| dS J (aJ J (fZ) dD) J <| aD (bL J J) J <| aD (iA J) J <| bE (aQ kR) J <| Ck [8] J <| aN ?_
  exact post (n := 0) (.inr J) J J (by simp)
 refine Nk [0,11,19,20,21,22,23,24,25,26,27,28,165,166,167] J <| aS J <| aF <| aL <| Rg 2 J <| Um J J <| Ua J J <| Nk [0,11,19,20,21,22,23,24,25,26,27,28,29,165,166] J <| Rg 32 J <| Um J J <| aA (bK (b := .v (.bool false)) (dZ J J) (by simp)) J <| Um J J <| aK J (eF J) J <| aK J (bK (b := .v (.bool false)) (dZ J J) (by simp)) J <| aA (bP J J) J <| Um J J <| aK J (eF J) J <| aK J (aZ J J) J <| aK J (eF J) J <| aK J (bK (b := .v (.bool false)) (dZ J J) (by simp)) J <| aA (bP J J) J <| Um J J ?_
 refine aK J (eF J) J <| aK J (aZ J J) J <| aK J (eF J) J <| aK J (bK (b := .v (.bool false)) (dZ J J) (by simp)) J <| aA (bP J J) J <| Um J J <| aK J (eF J) J <| aK J (eF J) J <| aK J (bS (j := i) J J J J J (by rw [List.length_replicate]; omega) J) J <| aK J (cI ((0 : Int)) (dH J J J) (rep_get om)) J <| aK J (bK (b := .v (.bool false)) (dZ J J) (by simp)) J <| aA (bP J J) J <| Um J J <| aK J (eF J) J <| aK J (eF J) J <| aK J (bS (j := i) J J J J J (by rw [List.length_replicate]; omega) J) J <| aK J (cI ((1 : Int)) (dH J J J) (rep_get om)) J <| aK J (bK (b := .v (.bool false)) (dZ J J) (by simp)) J <| aA (bP J J) J <| Nk [0,11,19,20,21,22,23,24,25,26,27,28,165,166,172,173,176,177,178,179,182,183,184,185,188,189,190,191,192,195,196,197,198,199,200] J <| bZ J <| cV <| aH ?_
 refine Ck [0,11,19,20,21,22,23,24,25,26,27,28,165,166,172,173,176,177,178,179,182,183,184,185,188,189,190,191,192,195,196,197,198,199] J <| aI (z := 2) J <| aA (cI (((i + 1 : Nat) : Int)) (aP J J om) om) J <| Um J J <| Wn <| aG <| ⟨i + 1, ⟨J, J, J, J, J, J, J, J, J, J, J, J, J, J, trivial⟩, ⟨(by repeat (first | exact g0 | refine g1 om ?_ | refine aC om ?_)), trivial⟩, om, by show z - (i + 1) < z - i; omega⟩
end Go.Proofs.YtahljdjhhapngaaGreat
