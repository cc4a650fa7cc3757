/- Part E of the proof of discountWide_holds: what it rests on. No condition. -/
import Derived.Test.YtahljdjhhapngaaGreatLawD
set_option linter.unusedVariables false
set_option linter.unusedSimpArgs false
set_option maxRecDepth 100000
set_option maxHeartbeats 8000000
namespace Go.Proofs.YtahljdjhhapngaaGreat
open Go.Ab Go.RowKit
theorem qchoice_run (m : Nat) (c : CH) (hI : IC c) (hm : m < 1000000) : Run Tryz.prog T E0 (.call 63 [lvC c, .v (.int .i64 (m : Int))] (.v (.bool (VC m c)))) := by
 refine bF Tryz.func63 J J (dF J) <| Rg 2 J <| aY (dK J J) J <| Ua J J <| Wn <| aB <| Rg 16 J <| aA (bC J J J J J) J <| aA (aL (l := lvM c.1) J J (by repeat (first | exact g0 | refine g1 (by decide) ?_)) J J) J ?_
 refine aA (aJ J (gX c.1 hI.1 hI.2.1) dD) J <| eK (fun h10 => ?_) (fun h10 => ?_)
 rotate_left
 ·refine aA (eA J) J <| Um J J <| K1 J J <| K1 J J <| K1 J J <| K1 J J <| aA (bL J J) J <| Um J J <| K1 J J <| K1 J J <| K1 J J <| K1 J J <| aA (bL J J) J <| Nk [1,2,23] J <| aT J <| aB <| Rg 1 J <| Ua J J <| Wn <| bB <| post (n := 0) (.inr J) J ?_ dD
  exact congrArg (fun z => LV.v (.bool z)) (show false = VC m c from (VC_no1 h10).symm)
 refine aA (eA J) J <| Um J J <| aI J (bC J J J J J) J <| aI J (aL J J (by repeat (first | exact g0 | refine g1 (by decide) ?_)) J J) J ?_
 refine aI J (aX J J) J <| aI J (bQ J J) J <| aW (fun h16 => ?_) (fun h16 => ?_)
 ·refine aA (bN J J) J <| Um J J <| K1 J J <| K1 J J <| K1 J J <| K1 J J <| aA (bL J J) J <| Nk [1,2,23] J <| aT J <| aB <| Rg 1 J <| Ua J J <| Wn <| bB <| post (n := 0) (.inr J) J ?_ dD
  exact congrArg (fun z => LV.v (.bool z)) (show false = VC m c from (VC_no2 om).symm)
 refine aA (bN J J) J <| Um J J <| aI J (bC J J J J J) J <| aI J (aL J J (by repeat (first | exact g0 | refine g1 (by decide) ?_)) J J) J ?_
 refine aI J (aX J J) J <| aI J (dZ J J) J <| aW (fun h22 => ?_) (fun h22 => ?_)
 ·refine aA (bN J J) J <| Nk [1,2,23] J <| aT J <| aB <| Rg 1 J <| Ua J J <| Wn <| bB <| post (n := 0) (.inr J) J ?_ dD
  exact congrArg (fun z => LV.v (.bool z)) (show false = VC m c from (VC_no2 om).symm)
 refine aA (bN J J) J <| Nk [1,2,23] J <| aU J <| aF <| Rg 3 J <| aA (bH (b := lvQ 0) (aJ J (nC 0 (by unfold I64; omega)) dD) J) J <| aY (dO J) J <| bA (cC (cs' := qc 0) J J J g0 J J J J) <| Wn <| aB <| Rg 4 J <| aA (bC J J J J J) J <| aA (aL J J (by repeat (first | exact g0 | refine g1 (by decide) ?_)) J J) J ?_
 refine aA (aX J J) J <| Um J J <| Wn <| aK <| aZ (α := Nat × Rat) (fun ⟨i, s⟩ => [(1, .v (.int .i64 (m : Int))), (2, .ptr 0 0), (5, .ptr 19 0), (26, .sl c.2.1 (c.2.2.map brc)), (27, .v (.int .i64 (c.2.2.length : Int))), (28, .v (.int .i64 (i : Int)))]) (fun ⟨i, s⟩ => [(19, { cells := qc (s), sz := 6, elem := 39, st := 0 }), (0, { cells := chc c, sz := 3, elem := (57), st := 0 })]) (fun ⟨i, s⟩ n => i ≤ c.2.2.length ∧ s = psum c.2.2 i ∧ (∀ j, j < i → okB m c.2.2 j = true) ∧ 19 < n) (fun ⟨i, s⟩ => c.2.2.length - i) (0, 0) ⟨J, J, J, J, J, J, trivial⟩ ⟨(by repeat (first | exact g0 | refine g1 (by decide) ?_)), (by repeat (first | exact g0 | refine g1 (by decide) ?_)), trivial⟩ ⟨Nat.zero_le _, rfl, fun j hj => absurd hj om, om⟩ ?_
 rintro ⟨i, s⟩ n hF
 change WC _ _ _ _ _ (_ :: _) (_ :: _) n _
 obtain ⟨hi, hs, hok, hn⟩ := hF
 refine Rg 1 J <| aA (bQ J J) J <| aW (fun h29 => ?_) (fun h29 => ?_)
 rotate_left
 ·refine Wn <| aU J <| aV <| aR <| aQ J ?_
  have hok' : ∀ j, j < c.2.2.length → okB m c.2.2 j = true := fun j hj => hok j om
  have hsb := mC (bs := c.2.2) i om (fun j hj => (nD (hok j hj)).1)
  have hil : i = c.2.2.length := by omega
  refine bJ (z := 5) J kR <| aC (aL (l := lvQ s) J J gG J J) J ?_
  refine aC (bH (b := lvQ 1) (aJ J (nC 1 (by unfold I64; omega)) dD) J) J <| aC (aJ J (pO s 1 (by rw [hs]; exact hsb.mono om) (Bd1.mono (by decide))) dD) J <| aC (bH (b := .v (.bool (decide (psum c.2.2 c.2.2.length = 1)))) (eC J J) (congrArg (fun z => LV.v (.bool z)) (decide_eq_decide.2 (by rw [hs, hil]; exact sign_one)))) J <| aC (gO J) J <| bD (aP kR) J <| aO <| post (n := 0) (.inr J) J ?_ dD
  exact congrArg (fun z => LV.v (.bool z)) (show decide (psum c.2.2 c.2.2.length = 1) = VC m c from (VC_yes h10 om om hok').symm)
 refine Wn <| aT J <| aF <| aK ?_
 have hIb := hI.2.2 _ (bE (us := c.2.2) (i := i) om)
 have hlo := okB_lo i hok
 have hl0 : 0 < i → lastB c.2.2 i = (c.2.2.getD (i - 1) default).1 := lastB_pos
 have hl1 : ¬ 0 < i → lastB c.2.2 i = -1 := fun h => by rw [show i = 0 by omega]; rfl
 refine Rg 6 J <| Um J J <| aA (bS J J J J J om J) J <| aA (dC (l := .agg [_, _, _]) J J J) J <| aY (dO J) J <| Ua J J <| bA (cC (cs' := [_, _, _]) J J J gG J J J J) ?_
 refine Wn <| aB <| bJ (z := 37) J kR <| aC (bC J J J J J) J <| aC (aL J J gG J J) J ?_
 refine aC (bQ J J) J <| kZ (fun h35 => ?_) (fun h35 => ?_)
 ·refine Dm J J <| cA J J <| cA J J <| cA J J <| cA J J <| aC (bL J J) J <| Dm J J <| cA J J <| cA J J <| cA J J <| cA J J <| cA J J <| cA J J <| cA J J <| cA J J <| cA J J <| cA J J <| cA J J <| cA J J <| cA J J <| cA J J <| aC (bL J J) J <| Dm J J <| cA J J ?_
  refine cA J J <| cA J J <| cA J J <| aC (bL J J) J <| Dm J J <| cA J J <| cA J J <| cA J J <| cA J J <| aC (bL J J) J <| bD (aP kR) J <| Ck [1,2,5,7,26,27,28,37,38,39,40,43,44,45,46,47,48,49,50,51,52,53,54,55,56,59,60,61,62,65,66,67,68,69] J <| aT J <| aB <| Rg 1 J <| Ua J J <| Nk [4] J <| bB <| aM <| bG <| aM <| post (n := 0) (.inr J) J ?_ dD
  exact congrArg (fun z => LV.v (.bool z)) (show false = VC m c from (iN (i := i) om (iX (.inl om))).symm)
 refine Dm J J <| bV J (bC J J J J J) J <| bV J (aL J J gG J J) J ?_
 refine bV J (eB J) J <| bV J (gY J J) J <| kZ (fun h40 => ?_) (fun h40 => ?_)
 ·refine aC (bN J J) J <| Dm J J <| cA J J <| cA J J <| cA J J <| cA J J <| cA J J <| cA J J <| cA J J <| cA J J <| cA J J <| cA J J <| cA J J <| cA J J <| cA J J <| cA J J <| aC (bL J J) J <| Dm J J <| cA J J <| cA J J <| cA J J <| cA J J <| aC (bL J J) J <| Dm J J ?_
  refine cA J J <| cA J J <| cA J J <| cA J J <| aC (bL J J) J <| bD (aP kR) J <| Ck [1,2,5,7,26,27,28,37,38,39,40,43,44,45,46,47,48,49,50,51,52,53,54,55,56,59,60,61,62,65,66,67,68,69] J <| aT J <| aB <| Rg 1 J <| Ua J J <| Nk [4] J <| bB <| aM <| bG <| aM <| post (n := 0) (.inr J) J ?_ dD
  exact congrArg (fun z => LV.v (.bool z)) (show false = VC m c from (iN (i := i) om (iX (.inr (.inl om)))).symm)
 refine aC (bN J J) J <| Dm J J <| bV J (eB J) J <| bV J (dZ J J) J <| kZ (fun h44 => ?_) (fun h44 => ?_)
 rotate_left
 ·refine bV J (eB J) J <| cA J J <| cA J J <| cA J J <| cA J J <| cA J J <| cA J J <| cA J J <| cA J J <| cA J J <| cA J J <| bV J (bN J J) J <| aC (bN J J) J <| Dm J J <| bV J (bC J J J J J) J <| bV J (aL (l := lvM (c.2.2.getD i default).2) J J gG J J) J ?_
  refine bV J (aJ J (gX (c.2.2.getD i default).2 hIb.2.1 hIb.2.2) dD) J <| WD.B (fun h61 => ?_) (fun h61 => ?_)
  rotate_left
  ·refine bV J (eA J) J <| aC (bN J J) J <| Dm J J <| cA J J <| cA J J <| cA J J <| cA J J <| aC (bL J J) J <| bD (aP kR) J <| Ck [1,2,5,7,26,27,28,37,38,39,40,43,44,45,46,47,48,49,50,51,52,53,54,55,56,59,60,61,62,65,66,67,68,69] J <| aT J <| aB <| Rg 1 J <| Ua J J <| Nk [4] J <| bB <| aM <| bG <| aM <| post (n := 0) (.inr J) J ?_ dD
   exact congrArg (fun z => LV.v (.bool z)) (show false = VC m c from (iN (i := i) om (iX (.inr (.inr (.inl h61))))).symm)
  refine bV J (eA J) J <| aC (bN J J) J <| Dm J J <| bV J (bC J J J J J) J <| bV J (bC J J J J J) J <| bV J (aL J J gG J J) J ?_
  refine bV J (qS J J) J <| kZ (fun h68 => ?_) (fun h68 => ?_)
  ·refine aC (bN J J) J <| bD (aP kR) J <| Ck [1,2,5,7,26,27,28,37,38,39,40,43,44,45,46,47,48,49,50,51,52,53,54,55,56,59,60,61,62,65,66,67,68,69] J <| aT J <| aB <| Rg 1 J <| Ua J J <| Nk [4] J <| bB <| aM <| bG <| aM <| post (n := 0) (.inr J) J ?_ dD
   exact congrArg (fun z => LV.v (.bool z)) (show false = VC m c from (iN (i := i) om (iX (.inr (.inr (.inr om))))).symm)
  refine aC (bN J J) J <| bD (aP kR) J <| Ck [1,2,5,7,26,27,28,37,38,39,40,43,44,45,46,47,48,49,50,51,52,53,54,55,56,59,60,61,62,65,66,67,68,69] J <| aU J <| aF ?_
  have hvb : VN (c.2.2.getD i default).2 := of_decide_eq_true h61
  have hokI : okB m c.2.2 i = true := okB_yes om om h61 om
  have hsb := mC (bs := c.2.2) i om (fun j hj => (nD (hok j hj)).1)
  refine cV (z := 6) J kR <| aC (aL (l := lvQ s) J J gG J J) J ?_
  refine aC (bC J J J J J) J <| aC (aL (l := lvM (c.2.2.getD i default).2) J J gG J J) J ?_
  refine aC (bH (b := lvQ (nq (c.2.2.getD i default).2)) (aJ J (kP (c.2.2.getD i default).2 hIb.2.1 hIb.2.2 hvb) dD) J) J <| aC (aJ J (jS s (nq (c.2.2.getD i default).2) (by rw [hs]; exact hsb.mono om) (hvb.bd.mono (by decide))) dD) J <| bZ (cC (cs' := qc (s + nq (c.2.2.getD i default).2)) J J J gG J J J J) ?_
  refine bD (aP kR) J <| aE <| Ck [1,2,5,26,27,28,37,38,39,40,43,44,45,46,47,48,49,50,51,52,53,54,55,56,59,60,61,62,65,66,67,68] J <| aH (z := 2) J <| aA (cI (((i + 1 : Nat) : Int)) (aS J J om) om) J <| Um J J <| Wn <| aD <| ⟨⟨i + 1, s + nq (c.2.2.getD i default).2⟩, ⟨J, J, J, J, J, J, trivial⟩, ⟨gG, gG, trivial⟩, ⟨om, by rw [psum, ← hs], fun j hj => ?_, om⟩, by show c.2.2.length - (i + 1) < c.2.2.length - i; omega⟩
  by_cases e : j = i
  ·rw [e]; exact hokI
  ·exact hok j om
 refine bV J (eB J) J <| bV J (bC J J J J J) J <| bV J (aL J J gG J J) J ?_
 refine bV J (bC J J J J J) J <| bV J (aL J J gG J J) J ?_
 refine bV J (eB J) J <| bV J (cI (((i - 1 : Nat) : Int)) (bX J J om) om) J <| bV J (bS (j := i - 1) J J J J om om J) J <| bV J (oFa J J J J J) J <| bV J (dC J J J) J <| bV J (qS J J) J <| kZ (fun h55 => ?_) (fun h55 => ?_)
 ·refine bV J (bL J J) J <| aC (bN J J) J <| Dm J J <| cA J J <| cA J J <| cA J J <| cA J J <| aC (bL J J) J <| Dm J J <| cA J J <| cA J J <| cA J J <| cA J J <| aC (bL J J) J <| bD (aP kR) J <| Ck [1,2,5,7,26,27,28,37,38,39,40,43,44,45,46,47,48,49,50,51,52,53,54,55,56,59,60,61,62,65,66,67,68,69] J <| aT J <| aB <| Rg 1 J <| Ua J J <| Nk [4] J <| bB <| aM ?_
  refine bG <| aM <| post (n := 0) (.inr J) J ?_ dD
  exact congrArg (fun z => LV.v (.bool z)) (show false = VC m c from (iN (i := i) om (iX (.inl (by rw [hl0 om]; omega)))).symm)
 refine bV J (bL J J) J <| aC (bN J J) J <| Dm J J <| bV J (bC J J J J J) J <| bV J (aL (l := lvM (c.2.2.getD i default).2) J J gG J J) J ?_
 refine bV J (aJ J (gX (c.2.2.getD i default).2 hIb.2.1 hIb.2.2) dD) J <| WD.B (fun h61 => ?_) (fun h61 => ?_)
 rotate_left
 ·refine bV J (eA J) J <| aC (bN J J) J <| Dm J J <| cA J J <| cA J J <| cA J J <| cA J J <| aC (bL J J) J <| bD (aP kR) J <| Ck [1,2,5,7,26,27,28,37,38,39,40,43,44,45,46,47,48,49,50,51,52,53,54,55,56,59,60,61,62,65,66,67,68,69] J <| aT J <| aB <| Rg 1 J <| Ua J J <| Nk [4] J <| bB <| aM <| bG <| aM <| post (n := 0) (.inr J) J ?_ dD
  exact congrArg (fun z => LV.v (.bool z)) (show false = VC m c from (iN (i := i) om (iX (.inr (.inr (.inl h61))))).symm)
 refine bV J (eA J) J <| aC (bN J J) J <| Dm J J <| bV J (bC J J J J J) J <| bV J (bC J J J J J) J <| bV J (aL J J gG J J) J ?_
 refine bV J (qS J J) J <| kZ (fun h68 => ?_) (fun h68 => ?_)
 ·refine aC (bN J J) J <| bD (aP kR) J <| Ck [1,2,5,7,26,27,28,37,38,39,40,43,44,45,46,47,48,49,50,51,52,53,54,55,56,59,60,61,62,65,66,67,68,69] J <| aT J <| aB <| Rg 1 J <| Ua J J <| Nk [4] J <| bB <| aM <| bG <| aM <| post (n := 0) (.inr J) J ?_ dD
  exact congrArg (fun z => LV.v (.bool z)) (show false = VC m c from (iN (i := i) om (iX (.inr (.inr (.inr om))))).symm)
 refine aC (bN J J) J <| bD (aP kR) J <| Ck [1,2,5,7,26,27,28,37,38,39,40,43,44,45,46,47,48,49,50,51,52,53,54,55,56,59,60,61,62,65,66,67,68,69] J <| aU J <| aF ?_
 have hvb : VN (c.2.2.getD i default).2 := of_decide_eq_true h61
 have hokI : okB m c.2.2 i = true := okB_yes om om h61 om
 have hsb := mC (bs := c.2.2) i om (fun j hj => (nD (hok j hj)).1)
 refine cV (z := 6) J kR <| aC (aL (l := lvQ s) J J gG J J) J ?_
 refine aC (bC J J J J J) J <| aC (aL (l := lvM (c.2.2.getD i default).2) J J gG J J) J ?_
 refine aC (bH (b := lvQ (nq (c.2.2.getD i default).2)) (aJ J (kP (c.2.2.getD i default).2 hIb.2.1 hIb.2.2 hvb) dD) J) J <| aC (aJ J (jS s (nq (c.2.2.getD i default).2) (by rw [hs]; exact hsb.mono om) (hvb.bd.mono (by decide))) dD) J <| bZ (cC (cs' := qc (s + nq (c.2.2.getD i default).2)) J J J gG J J J J) ?_
 refine bD (aP kR) J <| aE <| Ck [1,2,5,26,27,28,37,38,39,40,43,44,45,46,47,48,49,50,51,52,53,54,55,56,59,60,61,62,65,66,67,68] J <| aH (z := 2) J <| aA (cI (((i + 1 : Nat) : Int)) (aS J J om) om) J <| Um J J <| Wn <| aD <| ⟨⟨i + 1, s + nq (c.2.2.getD i default).2⟩, ⟨J, J, J, J, J, J, trivial⟩, ⟨gG, gG, trivial⟩, ⟨om, by rw [psum, ← hs], fun j hj => ?_, om⟩, by show c.2.2.length - (i + 1) < c.2.2.length - i; omega⟩
 by_cases e : j = i
 ·rw [e]; exact hokI
 ·exact hok j om
theorem mvmodel_run (k : Nat) (ss : List ST) (hI : ∀ s, s ∈ ss → IS s) : Run Tryz.prog T E0 (.call 92 [lvMo k ss] (.v (.bool (VMo ss)))) := by
 refine bF Tryz.func92 J J (dF J) <| Rg 2 J <| aY (dK J J) J <| Ua J J <| Wn <| Rg 4 J <| aA (bC J J J J J) J <| aA (aL J J (by repeat (first | exact g0 | refine g1 (by decide) ?_)) J J) J ?_
 refine aA (aX J J) J <| Ua J J <| Wn <| aB <| Rg 6 J <| Um J J <| aA (bQ J J) J <| aW (fun h12 => ?_) (fun h12 => ?_)
 ·refine Um J J <| K1 J J <| K1 J J <| aA (bL J J) J <| Wn <| aT J <| aB <| Rg 1 J <| Ua J J <| Wn <| bB <| post (n := 0) (.inr J) J ?_ dD
  exact congrArg (fun z => LV.v (.bool z)) (show false = VMo ss from (VMo_no om).symm)
 refine Um J J <| aI J (eB J) J <| aI J (dZ J J) J <| aW (fun h15 => ?_) (fun h15 => ?_)
 ·refine aA (bN J J) J <| Wn <| aT J <| aB <| Rg 1 J <| Ua J J <| Wn <| bB <| post (n := 0) (.inr J) J ?_ dD
  exact congrArg (fun z => LV.v (.bool z)) (show false = VMo ss from (VMo_no om).symm)
 refine aA (bN J J) J <| Wn <| aU J <| aF <| aB <| Rg 4 J <| aA (bC J J J J J) J <| aA (aL J J (by repeat (first | exact g0 | refine g1 (by decide) ?_)) J J) J ?_
 refine aA (aX J J) J <| Um J J <| Nk [3,18,19,20] J <| aK <| aZ (α := Nat) (fun i => [(3, .v (.int .i64 (ss.length : Int))), (18, .sl k (ss.map stc)), (19, .v (.int .i64 (ss.length : Int))), (20, .v (.int .i64 (i : Int)))]) (fun i => []) (fun i n => i ≤ ss.length ∧ (ss.take i).all (VS ss.length) = true ∧ 0 < n) (fun i => ss.length - i) (0) ⟨J, J, J, J, trivial⟩ trivial ⟨Nat.zero_le _, by simp, om⟩ ?_
 rintro i n hF
 change WC _ _ _ _ _ (_ :: _) ([]) n _
 obtain ⟨hi, ha, hn0⟩ := hF
 refine Rg 1 J <| aA (bQ J J) J <| aW (fun h21 => ?_) (fun h21 => ?_)
 rotate_left
 ·refine Wn <| aU J <| aV <| aR <| aQ J <| Rg 1 J <| Ua J J <| Wn <| aO <| post (n := 0) (.inr J) J ?_ dD
  exact congrArg (fun z => LV.v (.bool z)) (show true = VMo ss from (VMo_yes om om (gA ha om)).symm)
 refine Wn <| aT J <| aF <| aK ?_
 have hIs := hI _ (bE (us := ss) (i := i) om)
 refine Rg 4 J <| aA (bS J J J J J om J) J <| aA (dC (l := .agg [_, _, _]) J J J) J <| aY (dO J) J <| bA (cC (cs' := [_, _, _]) J J J gG J J J J) ?_
 refine Wn <| aB <| Rg 30 J <| aA (bC J J J J J) J <| aA (aL J J gG J J) J ?_
 refine aA (bQ J J) J <| aW (fun h26 => ?_) (fun h26 => ?_)
 ·refine Um J J <| K1 J J <| K1 J J <| K1 J J <| aA (bL J J) J <| Um J J <| K1 J J <| K1 J J <| K1 J J <| aA (bL J J) J <| Um J J <| K1 J J <| K1 J J <| K1 J J <| aA (bL J J) J <| Um J J <| K1 J J <| K1 J J <| K1 J J <| K1 J J <| aA (bL J J) J <| Um J J <| K1 J J <| K1 J J ?_
  refine K1 J J <| K1 J J <| aA (bL J J) J <| Nk [3,5,18,19,20,28,29,30,33,34,35,38,39,40,43,44,45,46,49,50,51,52,53] J <| aT J <| aB <| Rg 1 J <| Ua J J <| Nk [2] J <| bB <| aM <| bG <| aM <| post (n := 0) (.inr J) J ?_ dD
  exact congrArg (fun z => LV.v (.bool z)) (show false = VMo ss from (eY (i := i) om (kY (.inl om))).symm)
 refine Um J J <| aI J (bC J J J J J) J <| aI J (aL J J gG J J) J ?_
 refine aI J (dZ J J) J <| aW (fun h30 => ?_) (fun h30 => ?_)
 ·refine aA (bN J J) J <| Um J J <| K1 J J <| K1 J J <| K1 J J <| aA (bL J J) J <| Um J J <| K1 J J <| K1 J J <| K1 J J <| aA (bL J J) J <| Um J J <| K1 J J <| K1 J J <| K1 J J <| K1 J J <| aA (bL J J) J <| Um J J <| K1 J J <| K1 J J <| K1 J J <| K1 J J <| aA (bL J J) J <| cJ ?_
  refine Ck [3,5,18,19,20,28,29,30,33,34,35,38,39,40,43,44,45,46,49,50,51,52,53] J <| aT J <| aB <| Rg 1 J <| Ua J J <| Nk [2] J <| bB <| aM <| bG <| aM <| post (n := 0) (.inr J) J ?_ dD
  exact congrArg (fun z => LV.v (.bool z)) (show false = VMo ss from (eY (i := i) om (kY (.inr (.inl om)))).symm)
 refine aA (bN J J) J <| Um J J <| aI J (bC J J J J J) J <| aI J (aL J J gG J J) J ?_
 refine aI J (bQ J J) J <| aW (fun h35 => ?_) (fun h35 => ?_)
 ·refine aA (bN J J) J <| Um J J <| K1 J J <| K1 J J <| K1 J J <| aA (bL J J) J <| Um J J <| K1 J J <| K1 J J <| K1 J J <| K1 J J <| aA (bL J J) J <| Um J J <| K1 J J <| K1 J J <| K1 J J <| K1 J J <| aA (bL J J) J <| Nk [3,5,18,19,20,28,29,30,33,34,35,38,39,40,43,44,45,46,49,50,51,52,53] J <| aT J <| aB <| Rg 1 J <| Ua J J ?_
  refine Nk [2] J <| bB <| aM <| bG <| aM <| post (n := 0) (.inr J) J ?_ dD
  exact congrArg (fun z => LV.v (.bool z)) (show false = VMo ss from (eY (i := i) om (kY (.inr (.inr (.inl om))))).symm)
 refine aA (bN J J) J <| Um J J <| aI J (bC J J J J J) J <| aI J (aL J J gG J J) J ?_
 refine aI J (dZ J J) J <| aW (fun h40 => ?_) (fun h40 => ?_)
 ·refine aA (bN J J) J <| Um J J <| K1 J J <| K1 J J <| K1 J J <| K1 J J <| aA (bL J J) J <| Um J J <| K1 J J <| K1 J J <| K1 J J <| K1 J J <| aA (bL J J) J <| Nk [3,5,18,19,20,28,29,30,33,34,35,38,39,40,43,44,45,46,49,50,51,52,53] J <| aT J <| aB <| Rg 1 J <| Ua J J <| Nk [2] J <| bB <| aM <| bG ?_
  refine aM <| post (n := 0) (.inr J) J ?_ dD
  exact congrArg (fun z => LV.v (.bool z)) (show false = VMo ss from (eY (i := i) om (kY (.inr (.inr (.inr (.inl om)))))).symm)
 refine aA (bN J J) J <| Um J J <| aI J (bC J J J J J) J <| aI J (aL J J gG J J) J ?_
 refine aI J (aX J J) J <| aI J (bQ J J) J <| aW (fun h46 => ?_) (fun h46 => ?_)
 ·refine aA (bN J J) J <| Um J J <| K1 J J <| K1 J J <| K1 J J <| K1 J J <| aA (bL J J) J <| Nk [3,5,18,19,20,28,29,30,33,34,35,38,39,40,43,44,45,46,49,50,51,52,53] J <| aT J <| aB <| Rg 1 J <| Ua J J <| Nk [2] J <| bB <| aM <| bG <| aM <| post (n := 0) (.inr J) J ?_ dD
  exact congrArg (fun z => LV.v (.bool z)) (show false = VMo ss from (eY (i := i) om (kY (.inr (.inr (.inr (.inr (.inl om))))))).symm)
 refine aA (bN J J) J <| Um J J <| aI J (bC J J J J J) J <| aI J (aL J J gG J J) J ?_
 refine aI J (aX J J) J <| aI J (dZ J J) J <| aW (fun h52 => ?_) (fun h52 => ?_)
 ·refine aA (bN J J) J <| Nk [3,5,18,19,20,28,29,30,33,34,35,38,39,40,43,44,45,46,49,50,51,52,53] J <| aT J <| aB <| Rg 1 J <| Ua J J <| Nk [2] J <| bB <| aM <| bG <| aM <| post (n := 0) (.inr J) J ?_ dD
  exact congrArg (fun z => LV.v (.bool z)) (show false = VMo ss from (eY (i := i) om (kY (.inr (.inr (.inr (.inr (.inr om))))))).symm)
 refine aA (bN J J) J <| Nk [3,5,18,19,20,28,29,30,33,34,35,38,39,40,43,44,45,46,49,50,51,52,53] J <| aU J <| aF <| Rg 4 J <| aA (bC J J J J J) J <| aA (aL J J gG J J) J ?_
 refine aA (aX J J) J <| Um J J <| Nk [3,18,19,20,28,29,30,33,34,35,38,39,40,43,44,45,46,49,50,51,52,55,56,57] J <| cB <| aZ (α := Nat) (fun j => [(3, .v (.int .i64 (ss.length : Int))), (18, .sl k (ss.map stc)), (19, .v (.int .i64 (ss.length : Int))), (20, .v (.int .i64 (i : Int))), (55, .sl (ss.getD i default).2.1 ((ss.getD i default).2.2.map chc)), (56, .v (.int .i64 ((ss.getD i default).2.2.length : Int))), (57, .v (.int .i64 (j : Int)))]) (fun j => []) (fun j n => j ≤ (ss.getD i default).2.2.length ∧ ((ss.getD i default).2.2.take j).all (VC ss.length) = true ∧ 0 < n) (fun j => (ss.getD i default).2.2.length - j) (0) ⟨J, J, J, J, J, J, J, trivial⟩ trivial ⟨Nat.zero_le _, by simp, om⟩ ?_
 rintro j n hF
 change WC _ _ _ _ _ (_ :: _) ([]) n _
 obtain ⟨hj, hb, hn2⟩ := hF
 refine Rg 1 J <| aA (bQ J J) J <| aW (fun h58 => ?_) (fun h58 => ?_)
 rotate_left
 ·refine Wn <| aU J <| aV <| aR <| eZ J <| aE <| aH (z := 2) J <| aA (cI (((i + 1 : Nat) : Int)) (aS J J om) om) J <| Um J J <| Wn <| aD <| ⟨i + 1, ⟨J, J, J, J, trivial⟩, trivial, ⟨om, fH ha om (VS_yes om om om om om om (gA hb om)), om⟩, by show ss.length - (i + 1) < ss.length - i; omega⟩
 refine Wn <| aT J <| aF <| aK ?_
 have hIc := hIs.2.2 _ (bE (us := (ss.getD i default).2.2) (i := j) om)
 refine Rg 4 J <| aA (bS J J J J J om J) J <| aA (dC (l := .agg [_, _, _]) J J J) J <| aY (dO J) J <| bA (cC (cs' := [_, _, _]) J J J gG J J J J) ?_
 refine Wn <| Rg 4 J <| Um J J <| aA (aL (l := lvC ((ss.getD i default).2.2.getD j default)) J J gG J J) J ?_
 refine aA (aJ J (mchoice_run ss.length ((ss.getD i default).2.2.getD j default) hIc om) dD) J <| eK (fun h63 => ?_) (fun h63 => ?_)
 ·refine aA (eA J) J <| Nk [3,18,19,20,55,56,57,64] J <| bT J <| bY <| aE <| aH (z := 2) J <| aA (cI (((j + 1 : Nat) : Int)) (aS J J om) om) J <| Um J J <| Wn <| aD <| ⟨j + 1, ⟨J, J, J, J, J, J, J, trivial⟩, trivial, ⟨om, fH hb om h63, om⟩, by show (ss.getD i default).2.2.length - (j + 1) < (ss.getD i default).2.2.length - j; omega⟩
 refine aA (eA J) J <| Nk [3,18,19,20,55,56,57,64] J <| bR J <| Rg 1 J <| Ua J J <| Wn <| aO <| aM <| bG <| dP <| aM <| bG <| aM <| post (n := 0) (.inr J) J ?_ dD
 exact congrArg (fun z => LV.v (.bool z)) (show false = VMo ss from (eY (i := i) om (VS_no2 (j := j) om h63)).symm)
theorem qvmodel_run (k : Nat) (ss : List ST) (hI : ∀ s, s ∈ ss → IS s) : Run Tryz.prog T E0 (.call 21 [lvMo k ss] (.v (.bool (VMo ss)))) := by
 refine bF Tryz.func21 J J (dF J) <| Rg 2 J <| aY (dK J J) J <| Ua J J <| Wn <| aB <| Rg 10 J <| aA (bC J J J J J) J <| aA (aL J J (by repeat (first | exact g0 | refine g1 (by decide) ?_)) J J) J ?_
 refine aA (aX J J) J <| aA (bQ J J) J <| aW (fun h10 => ?_) (fun h10 => ?_)
 ·refine Um J J <| K1 J J <| K1 J J <| K1 J J <| K1 J J <| aA (bL J J) J <| Wn <| aT J <| aB <| Rg 1 J <| Ua J J <| Wn <| bB <| post (n := 0) (.inr J) J ?_ dD
  exact congrArg (fun z => LV.v (.bool z)) (show false = VMo ss from (VMo_no om).symm)
 refine Um J J <| aI J (bC J J J J J) J <| aI J (aL J J (by repeat (first | exact g0 | refine g1 (by decide) ?_)) J J) J ?_
 refine aI J (aX J J) J <| aI J (dZ J J) J <| aW (fun h15 => ?_) (fun h15 => ?_)
 ·refine aA (bN J J) J <| Wn <| aT J <| aB <| Rg 1 J <| Ua J J <| Wn <| bB <| post (n := 0) (.inr J) J ?_ dD
  exact congrArg (fun z => LV.v (.bool z)) (show false = VMo ss from (VMo_no om).symm)
 refine aA (bN J J) J <| Wn <| aU J <| aF <| aB <| Rg 4 J <| aA (bC J J J J J) J <| aA (aL J J (by repeat (first | exact g0 | refine g1 (by decide) ?_)) J J) J ?_
 refine aA (aX J J) J <| Um J J <| Nk [1,18,19,20] J <| aK <| aZ (α := Nat) (fun i => [(1, .ptr 0 0), (18, .sl k (ss.map stc)), (19, .v (.int .i64 (ss.length : Int))), (20, .v (.int .i64 (i : Int)))]) (fun i => [(0, { cells := [.sl k (ss.map stc)], sz := 1, elem := (24), st := 0 })]) (fun i n => i ≤ ss.length ∧ (ss.take i).all (VS ss.length) = true ∧ 0 < n) (fun i => ss.length - i) (0) ⟨J, J, J, J, trivial⟩ ⟨(by repeat (first | exact g0 | refine g1 (by decide) ?_)), trivial⟩ ⟨Nat.zero_le _, by simp, om⟩ ?_
 rintro i n hF
 change WC _ _ _ _ _ (_ :: _) (_ :: _) n _
 obtain ⟨hi, ha, hn0⟩ := hF
 refine Rg 1 J <| aA (bQ J J) J <| aW (fun h21 => ?_) (fun h21 => ?_)
 rotate_left
 ·refine Wn <| aU J <| aV <| aR <| aQ J <| Rg 1 J <| Ua J J <| Wn <| aO <| post (n := 0) (.inr J) J ?_ dD
  exact congrArg (fun z => LV.v (.bool z)) (show true = VMo ss from (VMo_yes om om (gA ha om)).symm)
 refine Wn <| aT J <| aF <| aK ?_
 have hIs := hI _ (bE (us := ss) (i := i) om)
 refine Rg 4 J <| aA (bS J J J J J om J) J <| aA (dC (l := .agg [_, _, _]) J J J) J <| aY (dO J) J <| bA (cC (cs' := [_, _, _]) J J J gG J J J J) ?_
 refine Wn <| aB <| Rg 30 J <| aA (bC J J J J J) J <| aA (aL J J gG J J) J ?_
 refine aA (bQ J J) J <| aW (fun h26 => ?_) (fun h26 => ?_)
 ·refine Um J J <| K1 J J <| K1 J J <| K1 J J <| aA (bL J J) J <| Um J J <| K1 J J <| K1 J J <| K1 J J <| aA (bL J J) J <| Um J J <| K1 J J <| K1 J J <| K1 J J <| aA (bL J J) J <| Um J J <| K1 J J <| K1 J J <| K1 J J <| K1 J J <| aA (bL J J) J <| Um J J <| K1 J J <| K1 J J ?_
  refine K1 J J <| K1 J J <| aA (bL J J) J <| Nk [1,4,18,19,20,28,29,30,33,34,35,38,39,40,43,44,45,46,49,50,51,52,53] J <| aT J <| aB <| Rg 1 J <| Ua J J <| Nk [2] J <| bB <| aM <| bG <| aM <| post (n := 0) (.inr J) J ?_ dD
  exact congrArg (fun z => LV.v (.bool z)) (show false = VMo ss from (eY (i := i) om (kY (.inl om))).symm)
 refine Um J J <| aI J (bC J J J J J) J <| aI J (aL J J gG J J) J ?_
 refine aI J (dZ J J) J <| aW (fun h30 => ?_) (fun h30 => ?_)
 ·refine aA (bN J J) J <| Um J J <| K1 J J <| K1 J J <| K1 J J <| aA (bL J J) J <| Um J J <| K1 J J <| K1 J J <| K1 J J <| aA (bL J J) J <| Um J J <| K1 J J <| K1 J J <| K1 J J <| K1 J J <| aA (bL J J) J <| Um J J <| K1 J J <| K1 J J <| K1 J J <| K1 J J <| aA (bL J J) J <| cJ ?_
  refine Ck [1,4,18,19,20,28,29,30,33,34,35,38,39,40,43,44,45,46,49,50,51,52,53] J <| aT J <| aB <| Rg 1 J <| Ua J J <| Nk [2] J <| bB <| aM <| bG <| aM <| post (n := 0) (.inr J) J ?_ dD
  exact congrArg (fun z => LV.v (.bool z)) (show false = VMo ss from (eY (i := i) om (kY (.inr (.inl om)))).symm)
 refine aA (bN J J) J <| Um J J <| aI J (bC J J J J J) J <| aI J (aL J J gG J J) J ?_
 refine aI J (bQ J J) J <| aW (fun h35 => ?_) (fun h35 => ?_)
 ·refine aA (bN J J) J <| Um J J <| K1 J J <| K1 J J <| K1 J J <| aA (bL J J) J <| Um J J <| K1 J J <| K1 J J <| K1 J J <| K1 J J <| aA (bL J J) J <| Um J J <| K1 J J <| K1 J J <| K1 J J <| K1 J J <| aA (bL J J) J <| Nk [1,4,18,19,20,28,29,30,33,34,35,38,39,40,43,44,45,46,49,50,51,52,53] J <| aT J <| aB <| Rg 1 J <| Ua J J ?_
  refine Nk [2] J <| bB <| aM <| bG <| aM <| post (n := 0) (.inr J) J ?_ dD
  exact congrArg (fun z => LV.v (.bool z)) (show false = VMo ss from (eY (i := i) om (kY (.inr (.inr (.inl om))))).symm)
 refine aA (bN J J) J <| Um J J <| aI J (bC J J J J J) J <| aI J (aL J J gG J J) J ?_
 refine aI J (dZ J J) J <| aW (fun h40 => ?_) (fun h40 => ?_)
 ·refine aA (bN J J) J <| Um J J <| K1 J J <| K1 J J <| K1 J J <| K1 J J <| aA (bL J J) J <| Um J J <| K1 J J <| K1 J J <| K1 J J <| K1 J J <| aA (bL J J) J <| Nk [1,4,18,19,20,28,29,30,33,34,35,38,39,40,43,44,45,46,49,50,51,52,53] J <| aT J <| aB <| Rg 1 J <| Ua J J <| Nk [2] J <| bB <| aM <| bG ?_
  refine aM <| post (n := 0) (.inr J) J ?_ dD
  exact congrArg (fun z => LV.v (.bool z)) (show false = VMo ss from (eY (i := i) om (kY (.inr (.inr (.inr (.inl om)))))).symm)
 refine aA (bN J J) J <| Um J J <| aI J (bC J J J J J) J <| aI J (aL J J gG J J) J ?_
 refine aI J (aX J J) J <| aI J (bQ J J) J <| aW (fun h46 => ?_) (fun h46 => ?_)
 ·refine aA (bN J J) J <| Um J J <| K1 J J <| K1 J J <| K1 J J <| K1 J J <| aA (bL J J) J <| Nk [1,4,18,19,20,28,29,30,33,34,35,38,39,40,43,44,45,46,49,50,51,52,53] J <| aT J <| aB <| Rg 1 J <| Ua J J <| Nk [2] J <| bB <| aM <| bG <| aM <| post (n := 0) (.inr J) J ?_ dD
  exact congrArg (fun z => LV.v (.bool z)) (show false = VMo ss from (eY (i := i) om (kY (.inr (.inr (.inr (.inr (.inl om))))))).symm)
 refine aA (bN J J) J <| Um J J <| aI J (bC J J J J J) J <| aI J (aL J J gG J J) J ?_
 refine aI J (aX J J) J <| aI J (dZ J J) J <| aW (fun h52 => ?_) (fun h52 => ?_)
 ·refine aA (bN J J) J <| Nk [1,4,18,19,20,28,29,30,33,34,35,38,39,40,43,44,45,46,49,50,51,52,53] J <| aT J <| aB <| Rg 1 J <| Ua J J <| Nk [2] J <| bB <| aM <| bG <| aM <| post (n := 0) (.inr J) J ?_ dD
  exact congrArg (fun z => LV.v (.bool z)) (show false = VMo ss from (eY (i := i) om (kY (.inr (.inr (.inr (.inr (.inr om))))))).symm)
 refine aA (bN J J) J <| Nk [1,4,18,19,20,28,29,30,33,34,35,38,39,40,43,44,45,46,49,50,51,52,53] J <| aU J <| aF <| Rg 4 J <| aA (bC J J J J J) J <| aA (aL J J gG J J) J ?_
 refine aA (aX J J) J <| Um J J <| Nk [1,18,19,20,28,29,30,33,34,35,38,39,40,43,44,45,46,49,50,51,52,55,56,57] J <| cB <| aZ (α := Nat) (fun j => [(1, .ptr 0 0), (18, .sl k (ss.map stc)), (19, .v (.int .i64 (ss.length : Int))), (20, .v (.int .i64 (i : Int))), (55, .sl (ss.getD i default).2.1 ((ss.getD i default).2.2.map chc)), (56, .v (.int .i64 ((ss.getD i default).2.2.length : Int))), (57, .v (.int .i64 (j : Int)))]) (fun j => [(0, { cells := [.sl k (ss.map stc)], sz := 1, elem := (24), st := 0 })]) (fun j n => j ≤ (ss.getD i default).2.2.length ∧ ((ss.getD i default).2.2.take j).all (VC ss.length) = true ∧ 0 < n) (fun j => (ss.getD i default).2.2.length - j) (0) ⟨J, J, J, J, J, J, J, trivial⟩ ⟨gG, trivial⟩ ⟨Nat.zero_le _, by simp, om⟩ ?_
 rintro j n hF
 change WC _ _ _ _ _ (_ :: _) (_ :: _) n _
 obtain ⟨hj, hb, hn2⟩ := hF
 refine Rg 1 J <| aA (bQ J J) J <| aW (fun h58 => ?_) (fun h58 => ?_)
 rotate_left
 ·refine Wn <| aU J <| aV <| aR <| eZ J <| aE <| aH (z := 2) J <| aA (cI (((i + 1 : Nat) : Int)) (aS J J om) om) J <| Um J J <| Wn <| aD <| ⟨i + 1, ⟨J, J, J, J, trivial⟩, ⟨gG, trivial⟩, ⟨om, fH ha om (VS_yes om om om om om om (gA hb om)), om⟩, by show ss.length - (i + 1) < ss.length - i; omega⟩
 refine Wn <| aT J <| aF <| aK ?_
 have hIc := hIs.2.2 _ (bE (us := (ss.getD i default).2.2) (i := j) om)
 refine Rg 4 J <| aA (bS J J J J J om J) J <| aA (dC (l := .agg [_, _, _]) J J J) J <| aY (dO J) J <| bA (cC (cs' := [_, _, _]) J J J gG J J J J) ?_
 refine Wn <| Rg 6 J <| aA (aL (l := lvC ((ss.getD i default).2.2.getD j default)) J J gG J J) J ?_
 refine aA (bC J J J J J) J <| aA (aL J J gG J J) J ?_
 refine aA (cI ((ss.length : Int)) (aX J J) (by simp)) J <| aA (aJ J (qchoice_run ss.length ((ss.getD i default).2.2.getD j default) hIc om) dD) J <| eK (fun h65 => ?_) (fun h65 => ?_)
 ·refine aA (eA J) J <| Nk [1,18,19,20,55,56,57,66] J <| bT J <| bY <| aE <| aH (z := 2) J <| aA (cI (((j + 1 : Nat) : Int)) (aS J J om) om) J <| Um J J <| Wn <| aD <| ⟨j + 1, ⟨J, J, J, J, J, J, J, trivial⟩, ⟨gG, trivial⟩, ⟨om, fH hb om h65, om⟩, by show (ss.getD i default).2.2.length - (j + 1) < (ss.getD i default).2.2.length - j; omega⟩
 refine aA (eA J) J <| Nk [1,18,19,20,55,56,57,66] J <| bR J <| Rg 1 J <| Ua J J <| Wn <| aO <| aM <| bG <| dP <| aM <| bG <| aM <| post (n := 0) (.inr J) J ?_ dD
 exact congrArg (fun z => LV.v (.bool z)) (show false = VMo ss from (eY (i := i) om (VS_no2 (j := j) om h65)).symm)
end Go.Proofs.YtahljdjhhapngaaGreat
set_option maxHeartbeats 16000000
namespace Go.Proofs.YtahljdjhhapngaaGreat
open Go.Ab Go.RowKit
theorem mreduced_wcB (rows0 : List X1) (cols w : Nat) (hne : 0 < rows0.length) (ln : rows0.length < 1000000) (hw : Wid w (vX rows0)) (hcw : cols ≤ w) (lw : w < 1000000) (β : Nat) (hβ : β ≤ 268435456) (hgb : GB (vX rows0) cols β) : WC Tryz.prog T E0 Tryz.f129.ntmps (codeOf Tryz.f129) (argsEnv 0 [.sl 1 (rows0.map fX), .v (.int .i64 (cols : Int))]) [] 0 (fun x e h n => (x = .normal ∨ x = .ret) ∧ ∃ (q : Nat) (rows : List X1) (d : X), vX rows = (gjn (vX rows0) cols).1 ∧ d.1 = gjd (vX rows0) cols ∧ resE e T h Tryz.f129.results.toList = some [.ref 4 1 0 rows.length, outV q 1 ((gjn (vX rows0) cols).2.map d64), lvX d] ∧ getH h 4 = some { cells := (rows.map fX).flatten, sz := 1, elem := 104, st := 0 } ∧ ((gjn (vX rows0) cols).2.map d64 ≠ [] → getH h q = some { cells := ((gjn (vX rows0) cols).2.map d64).flatten, sz := 1, elem := 3, st := 0 })) := by
 obtain ⟨_, _, _, hr1, rfl, rfl, rfl⟩ := clone_own rows0 hne om
 refine Rg 3 J <| Ua J J <| Ua J J <| aY (dO J) J <| Wn <| Rg 3 J <| Um J J <| aY (oCallO J hr1 (by first | (simp [-cD]; done) | simp)) J <| Ua J J <| Wn <| Rg 3 J <| aA (aJ J (iM 1 (by unfold I64; omega)) (by first | (simp [-cD]; done) | simp)) J <| aY (dO J) J <| bA (cC (cs' := [_, _, _, _]) J J J J J J J J) <| Wn <| Rg 1 J <| Ua J J <| Wn <| aB <| Rg 2 J <| Um J J <| Um J J <| Wn <| aK ?_
 refine aZ (α := Nat × Nat × (List X1) × (List Nat) × X) (fun ⟨c, q, rows, leads, d⟩ => [(6, .ptr (0 + (0 + 1 + 1)) 0), (7, .ref (0 + 3 + 1) 1 0 rows.length), (8, .ptr (0 + 3 + 3 + 1) 0), (9, outV q 1 (leads.map d64)), (18, .v (.int .i64 (cols : Int))), (19, .v (.int .i64 (c : Int)))]) (fun ⟨c, q, rows, leads, d⟩ => outH q 1 3 (leads.map d64) [((0 + 3 + 1), { cells := (rows.map fX).flatten, sz := 1, elem := 104, st := 0 }), ((0 + 3 + 3 + 1), { cells := xc d, sz := 4, elem := 102, st := 0 }), (2, { cells := [.v (.int .i64 0), .sl 0 [], .v (.int .i64 0), .sl 0 []], sz := 4, elem := 102, st := 0 })]) (fun ⟨c, q, rows, leads, d⟩ n => c ≤ cols ∧ vX rows = (gjn (vX rows0) c).1 ∧ leads = (gjn (vX rows0) c).2 ∧ 8 ≤ q ∧ q < n ∧ d.1 = gjd (vX rows0) c) (fun ⟨c, q, rows, leads, d⟩ => cols - c) (0, 8, rows0, [], xint 1) ⟨J, J, J, J, J, J, trivial⟩ ⟨J, J, J, trivial⟩ ⟨Nat.zero_le _, rfl, rfl, om, om, rfl⟩ ?_
 rintro ⟨c, q, rows, leads, d⟩ n hF
 change WC _ _ _ _ _ (_ :: _) (outH _ _ _ _ _) n _
 obtain ⟨hc, hv, hld, hq5, hqn, hdv⟩ := hF
 have GI := hgb.all hw hcw c hc
 have hrl0 : rows.length = rows0.length := by rw [← cY rows, hv, cW, cY]
 have hll : leads.length ≤ rows.length := by have := GI.led; rw [cY] at this; rw [hld]; omega
 have hwid : ∀ i, i < rows.length → (rows.getD i default).2.length = w := by
  intro i hi
  have := GI.wid.row (i := i) (by rw [← hv, cY]; exact hi)
  rw [← hv, dE] at this
  simpa using this
 refine Rg 1 J <| aA (bQ J J) J <| aW (fun h20 => ?_) (fun h20 => ?_)
 rotate_left
 ·refine Wn <| aU J <| aV <| aR <| aQ J <| bJ (z := 6) J kR <| Dm J J <| Dm J J <| aC (aL (l := .agg [_, _, _, _]) J J (aN om (g1 (by decide) g0)) J J) J <| aC (gO J) J <| aC (gO J) J <| bZ (cC (cs' := [_, _, _, _]) J J J (aN om (g1 (by decide) (g1 (by decide) g0))) J J J J) <| bD (aP kR) J <| aO ?_
  have hcc : c = cols := by omega
  subst hcc
  refine ⟨.inr J, q, rows, d, hv, hdv, ?_, g1 (by decide) (aN om g0), ?_⟩
  ·rw [← hld]; rfl
  ·rw [← hld]; exact fun hu => g1 om (dG hu)
 refine Wn <| aT J <| aF <| aK <| Rg 2 J <| Um J J <| Ua J J <| Wn <| Rg 3 J <| Um J J <| aA (oLenO J J) J <| Ua J J <| Wn <| Rg 2 J <| Um J J <| Ua J J <| Wn <| aK <| aZ (α := Nat) (fun a => [(6, .ptr (0 + (0 + 1 + 1)) 0), (7, .ref (0 + 3 + 1) 1 0 rows.length), (8, .ptr (0 + 3 + 3 + 1) 0), (9, outV q 1 (leads.map d64)), (10, .v (.int .i64 (c : Int))), (11, .v (.int .i64 (leads.length : Int))), (12, .v (.int .i64 (a : Int))), (18, .v (.int .i64 (cols : Int))), (19, .v (.int .i64 (c : Int)))]) (fun a => outH q 1 3 (leads.map d64) [((0 + 3 + 1), { cells := (rows.map fX).flatten, sz := 1, elem := 104, st := 0 }), ((0 + 3 + 3 + 1), { cells := xc d, sz := 4, elem := 102, st := 0 }), (2, { cells := [.v (.int .i64 0), .sl 0 [], .v (.int .i64 0), .sl 0 []], sz := 4, elem := 102, st := 0 })]) (fun a n => leads.length ≤ a ∧ a ≤ rows.length ∧ (∀ k, leads.length ≤ k → k < a → ent (vX rows) k c = 0) ∧ q < n) (fun a => rows.length - a) (leads.length) ⟨J, J, J, J, J, J, J, J, J, trivial⟩ (dL dG (aN om g0) (aN om (g1 (by decide) g0)) (aN om (g1 (by decide) (g1 (by decide) g0)))) ⟨Nat.le_refl _, hll, by intro k h1 h2; omega, om⟩ ?_
 rintro a n hG
 change WC _ _ _ _ _ (_ :: _) (outH _ _ _ _ _) n _
 obtain ⟨hle1, hle2, hz, hqn2⟩ := hG
 refine aB <| Rg 15 J <| Um J J <| Um J J <| aA (lL J J) J <| aA (bQ J J) J <| aW (fun h28 => ?_) (fun h28 => ?_)
 rotate_left
 ·refine Um J J <| K1 J J <| K1 J J <| K1 J J <| K1 J J <| K1 J J <| K1 J J <| K1 J J <| K1 J J <| K1 J J <| aA (bN J J) J <| Nk [6,7,8,9,10,11,12,18,19,30,31,32,33,34,35,36,37,38,39] J <| aU J <| aV <| aR <| aQ J <| Ck [6,7,8,9,10,11,12,18,19,30,31,32,33,34,35,36,37,38] J <| aB <| Rg 4 J <| Um J J <| Um J J <| aA (lL J J) J <| aA (eC J J) J ?_
  refine aW (fun h45 => ?_) (fun h45 => ?_)
  rotate_left
  ·omega
  refine Nk [6,7,8,9,10,11,12,18,19,30,31,32,33,34,35,36,37,38,45] J <| aT J <| aV <| aQ J <| Ck [6,7,8,9,18,19,30,31,32,33,34,35,36,37,38] J <| aH (z := 2) J <| aA (cI (((c + 1 : Nat) : Int)) (aS J J om) om) J <| Um J J <| Wn <| aD ?_
  have hpv : pivot (vX rows) leads.length c = a := jW hle1 (by rw [cY]; exact hle2) hz (.inl (by rw [cY]; omega))
  have hpn : pivot (gjn (vX rows0) c).1 (gjn (vX rows0) c).2.length c = (gjn (vX rows0) c).1.length := by rw [← hv, ← hld, hpv, cY]; omega
  refine ⟨⟨c + 1, q, rows, leads, d⟩, ⟨J, J, J, J, J, J, trivial⟩, (dL dG (aN om g0) (aN om (g1 (by decide) g0)) (aN om (g1 (by decide) (g1 (by decide) g0)))), ⟨om, by rw [lH hpn]; exact hv, by rw [lH hpn]; exact hld, om, om, by rw [gjd_no hpn]; exact hdv⟩, by show cols - (c + 1) < cols - c; omega⟩
 refine Um J J <| aI J (eB J) J <| aI J (eB J) J <| aI J (cK (j := a) J J J J om om J) J <| aI J (eJ (f := fX) (us := rows) (j := a) J J (aN om g0) (fun _ => rfl) J (by decide) om J) J <| aI J (eB J) J <| aI J (bS J J J J J (by have := hwid a om; omega) J) J <| aI J (dC (l := .agg [_, _, _, _]) J J J) J <| aI J (aJ J (iK ((rows.getD a default).2.getD c default)) (by first | (simp [-cD]; done) | simp)) J <| aI J (eC J J) J <| aW (fun h38 => ?_) (fun h38 => ?_)
 ·have hez : ent (vX rows) a c = 0 := by rw [← iB]; exact fD.1 h38
  refine aA (bL J J) J <| Nk [6,7,8,9,10,11,12,18,19,30,31,32,33,34,35,36,37,38,39] J <| aT J <| aF <| cB <| aH (z := 3) J <| Um J J <| aA (cI (((a + 1 : Nat) : Int)) (aS J J om) om) J <| Ua J J <| Wn <| cG <| aD <| ⟨a + 1, ⟨J, J, J, J, J, J, J, J, J, trivial⟩, (dL dG (aN om g0) (aN om (g1 (by decide) g0)) (aN om (g1 (by decide) (g1 (by decide) g0)))), ⟨om, om, ?_, om⟩, by show rows.length - (a + 1) < rows.length - a; omega⟩
  intro k h1 h2
  by_cases e : k = a
  ·subst e; exact hez
  ·exact hz k h1 om
 have hen : ent (vX rows) a c ≠ 0 := by rw [← iB]; exact fun k => h38 (fD.2 k)
 refine aA (bL J J) J <| Nk [6,7,8,9,10,11,12,18,19,30,31,32,33,34,35,36,37,38,39] J <| aU J <| aV <| aR <| aQ J <| Ck [6,7,8,9,10,11,12,18,19,30,31,32,33,34,35,36,37,38] J <| aB <| Rg 4 J <| Um J J <| Um J J <| aA (lL J J) J <| aA (eC J J) J <| aW (fun h45 => ?_) (fun h45 => ?_)
 ·omega
 refine Nk [6,7,8,9,10,11,12,18,19,30,31,32,33,34,35,36,37,38,45] J <| aU J <| aF <| aB ?_
 have hrl : leads.length < rows.length := by omega
 have hpv : pivot (vX rows) leads.length c = a := jW hle1 (by rw [cY]; exact hle2) hz (.inr hen)
 rw [hv, hld] at hpv
 have hal : a < (gjn (vX rows0) c).1.length := by rw [← hv, cY]; omega
 have hgy := lY hpv hal
 have hsp : ent (sw (vX rows) a leads.length) leads.length c ≠ 0 := by rw [lG (by rw [cY]; omega) (by rw [cY]; omega)]; exact hen
 have hbv : BdL (β) (vX rows) := by rw [hv]; exact GI.bds om
 have hbc : β ≤ 268435456 := hβ
 have hbp := hgb.pos
 have hdb : Bd β d.1 := by rw [hdv]; exact hgb.dts c om
 obtain ⟨M, hM⟩ : ∃ M, M = mid (vX rows) a leads.length c := ⟨_, rfl⟩
 have hMl : M.length = rows.length := by rw [hM, oF, cY]
 have hMb : BdL (2 * β + 1) M := by rw [hM]; exact hbv.mid om hsp
 have hMw : Wid w M := by rw [hM]; exact (show Wid w (vX rows) by rw [hv]; exact GI.wid).mid (by rw [cY]; omega) (by rw [cY]; omega) c
 refine Rg 3 J <| Um J J <| Um J J <| aA (eL J J) J <| aW (fun h48 => ?_) (fun h48 => ?_)
 rotate_left
 ·refine Nk [6,7,8,9,10,11,12,18,19,30,31,32,33,34,35,36,37,38,48] J <| aU J <| aF ?_
  obtain ⟨rows1, hr1⟩ : ∃ z, z = rows := ⟨_, rfl⟩
  obtain ⟨d1, hd1e⟩ : ∃ z, z = d := ⟨_, rfl⟩
  have hae : a = leads.length := by omega
  have hd1 : d1.1 = d.1 := by rw [hd1e]
  have hv1 : vX rows1 = sw (vX rows) a leads.length := by rw [hr1, hae, sw_same (by rw [cY]; omega)]
  have hl1 : rows1.length = rows.length := by simp [hr1]
  have hp1 : ((rows1.getD leads.length default).2.getD c default).1 ≠ 0 := by rw [iB, hv1]; exact hsp
  have hb1 : BdL (β) (vX rows1) := by rw [hv1]; exact hbv.sw _ _
  have hbr : ∀ x, x ∈ (rows1.getD leads.length default).2 → Bd (β) x.1 := by
   intro x hx
   have := hb1.row leads.length
   rw [dE] at this
   exact this _ (List.mem_map.2 ⟨x, hx, rfl⟩)
  have hwr : (rows1.getD leads.length default).2.length = w := by
   have := ((show Wid w (vX rows) by rw [hv]; exact GI.wid).sw (i := a) (r := leads.length) (by rw [cY]; omega) (by rw [cY]; omega)).row (i := leads.length) (by rw [jK, cY]; omega)
   rw [← hv1, dE, List.length_map] at this; exact this
  have hbpp := hbr _ (bE (show c < (rows1.getD leads.length default).2.length by omega))
  have hb1p := Bd1.div hbpp hp1
  obtain ⟨p, hpe⟩ : ∃ p, p = (rows1.getD leads.length default).2.getD c default := ⟨_, rfl⟩
  have hpv1 : p.1 = ent (vX rows) a c := by rw [hpe, iB, hv1, lG (by rw [cY]; omega) (by rw [cY]; omega)]
  have hd1b : Bd (β) d1.1 := by rw [hd1]; exact hdb
  have hd2v : (xmul d1 p).1 = gjd (vX rows0) (c + 1) := by
   rw [nZ hpv hal, ← hv, ← hld]
   show d1.1 * p.1 = _
   rw [hpv1, hd1, if_neg om, hdv]
  refine fY (outH q 1 3 (leads.map d64) [((0 + 3 + 1), { cells := (rows1.map fX).flatten, sz := 1, elem := 104, st := 0 }), ((0 + 3 + 3 + 1), { cells := xc d1, sz := 4, elem := 102, st := 0 }), (2, { cells := [.v (.int .i64 0), .sl 0 [], .v (.int .i64 0), .sl 0 []], sz := 4, elem := 102, st := 0 })]) (dL dG (aN om (g0.trans (by rw [hr1]))) (aN om (g1 (by decide) (g0.trans (by rw [hd1e])))) (aN om (g1 (by decide) (g1 (by decide) g0)))) <| Rg 9 J <| Um J J <| Um J J <| aA (cK (j := leads.length) J J J J om om J) J <| aA (eJ (f := fX) (us := rows1) (j := leads.length) J J (aN om g0) (fun _ => rfl) J (by decide) om J) J <| Um J J <| aA (bS J J J J J om J) J <| aA (bH (b := lvX p) (dC (l := .agg [_, _, _, _]) J J J) (by rw [hpe]; rfl)) J <| aY (dO J) J <| bA (cC (cs' := xc p) J J J g0 J J J J) <| Nk [6,7,8,9,10,11,13,18,19,30,31,32,33,34,35,36,37,38] J <| Rg 4 J <| aA (aL (l := .agg [_, _, _, _]) J J (g1 om (g1 om (aN om (g1 (by decide) g0)))) J J) J <| aA (aL (l := lvX p) J J g0 J J) J <| aA (aJ J (iZ d1 p (hd1b.mono om) (by rw [hpe]; exact hbpp.mono om)) (by first | (simp [-cD]; done) | simp)) J <| bA (cC (cs' := [_, _, _, _]) J J J (g1 om (g1 om (aN om (g1 (by decide) g0)))) J J J J) <| Nk [6,7,8,9,10,11,13,18,19,30,31,32,33,34,35,36,37,38] J ?_
  obtain ⟨r, hr, np, rfl, hnp⟩ := qH (rows1.getD leads.length default).1 (rows1.getD leads.length default).2 (xdiv (xint 1) p) om (fun x hx => (hbr x hx).mono om) (by rw [hpe]; exact hb1p.mono om)
  refine bJ (z := 12) J kR <| Dm J J <| Dm J J <| Dm J J <| Dm J J <| aC (cK (j := leads.length) J J J J om om J) J <| aC (eJ (f := fX) (us := rows1) (j := leads.length) J J (g1 om (g1 om (g1 om (aN om g0)))) (fun _ => rfl) J (by decide) om J) J <| aC (aJ J (iM 1 (by unfold I64; omega)) (by first | (simp [-cD]; done) | simp)) J <| aC (aL (l := lvX p) J J (g1 om g0) J J) J <| aC (aJ J (rdiv_run (xint 1) p (by rw [hpe]; exact hp1) (Bd1.mono om) (by rw [hpe]; exact hbpp.mono om)) (by first | (simp [-cD]; done) | simp)) J <| aC (aJ J (hr) (by first | (simp [-cD]; done) | simp)) J <| aC (cK (j := leads.length) J J J J om om J) J <| bZ (eG (f := fX) (us := rows1) (1, np) J J J (g1 om (g1 om (g1 om (aN om g0)))) (fun _ => rfl) J J om J) <| bD (aP kR) J <| Ck [6,7,8,9,10,11,18,19,30,31,32,33,34,35,36,37,38] J <| aB ?_
  obtain ⟨rowsM, hr2⟩ : ∃ z, z = rows1.set leads.length (1, np) := ⟨_, rfl⟩
  rw [← hr2]
  have hl2 : rowsM.length = rows.length := by rw [hr2, List.length_set]; exact hl1
  have hv2 : vX rowsM = M := by
   rw [hr2, pW, hv1, hM]; unfold mid
   rw [hnp, ← dE, hv1]
   have : (xdiv (xint 1) p).1 = 1 / ent (sw (vX rows) a leads.length) leads.length c := by show (1 : Rat) / p.1 = _; rw [hpv1, lG (by rw [cY]; omega) (by rw [cY]; omega)]
   rw [this]
  refine Rg 3 J <| Um J J <| aA (lL J J) J <| Um J J <| Nk [6,7,8,9,10,11,18,19,30,31,32,33,34,35,36,37,38,87,88] J <| aK <| aZ (α := Nat × (List X1)) (fun ⟨j, rows2⟩ => [(6, .ptr (0 + (0 + 1 + 1)) 0), (7, .ref (0 + 3 + 1) 1 0 rows2.length), (8, .ptr (0 + 3 + 3 + 1) 0), (9, outV q 1 (leads.map d64)), (10, .v (.int .i64 (c : Int))), (11, .v (.int .i64 (leads.length : Int))), (18, .v (.int .i64 (cols : Int))), (19, .v (.int .i64 (c : Int))), (87, .v (.int .i64 (rows.length : Int))), (88, .v (.int .i64 (j : Int)))]) (fun ⟨j, rows2⟩ => outH q 1 3 (leads.map d64) [((0 + 3 + 1), { cells := (rows2.map fX).flatten, sz := 1, elem := 104, st := 0 }), ((0 + 3 + 3 + 1), { cells := xc (xmul d1 p), sz := 4, elem := 102, st := 0 }), (2, { cells := [.v (.int .i64 0), .sl 0 [], .v (.int .i64 0), .sl 0 []], sz := 4, elem := 102, st := 0 })]) (fun ⟨j, rows2⟩ n => j ≤ rows.length ∧ rows2.length = rows.length ∧ (∀ k, k < rows.length → (vX rows2).getD k default = if k < j then elr M leads.length c k else M.getD k default) ∧ q < n) (fun ⟨j, rows2⟩ => rows.length - j) (0, rowsM) ⟨rfl, congrArg some (by rw [hl2]), rfl, rfl, rfl, rfl, rfl, rfl, rfl, rfl, trivial⟩ (dL (fun hu => (g1 om (g1 om (g1 om (g1 om (dG hu)))))) g0 (g1 om g0) (g1 om (g1 om (g1 om (g1 om (aN om (g1 (by decide) (g1 (by decide) g0)))))))) ⟨Nat.zero_le _, hl2, by intro k hk; rw [if_neg om, hv2], om⟩ ?_
  rintro ⟨j, rows2⟩ n hJ
  change WC _ _ _ _ _ (_ :: _) (outH _ _ _ _ _) n _
  obtain ⟨hjl, hl4, hst, hqn4⟩ := hJ
  refine Rg 1 J <| aA (bQ J J) J <| aW (fun h89 => ?_) (fun h89 => ?_)
  rotate_left
  ·refine Wn <| aU J <| aV <| aR <| aQ J ?_
   have hfin : vX rows2 = elim M leads.length c := elim_eq (j := j) (by rw [cY]; omega) om (by rw [hMl]; exact hst)
   refine aH (z := 5) J <| Um J J <| Um J J <| aA (dA (cs := [_]) (rows := [[_]]) J J (by decide) J J J) J <| dB (te := ti3) (f := d64) (q := q) (us := leads) (u := c) J J J J J (fun _ => rfl) (by decide) (by show (2 * (leads.length + 1) + 256) * 8 ≤ _; omega) om (gN om (gN om (gN om J))) (gN om (gN om (gN om J))) J <| Ua J J <| Wn <| aE <| Ck [6,7,8,9,18,19] J <| aH (z := 2) J <| aA (cI (((c + 1 : Nat) : Int)) (aS J J om) om) J <| Um J J <| Wn <| aD <| ⟨⟨c + 1, _, rows2, leads ++ [c], xmul d1 p⟩, ⟨J, J, J, J, J, J, trivial⟩, (dL dG (aN om g0) (aN om (g1 (by decide) g0)) (aN om (g1 (by decide) (g1 (by decide) g0)))), ⟨om, by rw [hgy, hfin, hM, hv, hld], by rw [hgy, hld], om, om, hd2v⟩, by show cols - (c + 1) < cols - c; omega⟩
  refine Wn <| aT J <| aF <| aK <| Rg 2 J <| Um J J <| Ua J J <| cJ ?_
  have hrj : vX rows2 = vX rows2 := rfl
  have hj1 : (vX rows2).getD j default = M.getD j default := by rw [hst j om, if_neg om]
  have hj2 : (vX rows2).getD leads.length default = M.getD leads.length default := elim_row om (by rw [hMl]; exact hst)
  have hej : ent (vX rows2) j c = ent M j c := by unfold ent; rw [hj1]
  have hwj : (rows2.getD j default).2.length = w := by have := hMw.row (i := j) om; rw [← hj1, dE] at this; simpa using this
  have hwl : (rows2.getD leads.length default).2.length = w := by have := hMw.row (i := leads.length) om; rw [← hj2, dE] at this; simpa using this
  refine Rg 14 J <| Um J J <| Um J J <| aA (eL J J) J <| aW (fun h93 => ?_) (fun h93 => ?_)
  rotate_left
  ·refine Um J J <| K1 J J <| K1 J J <| K1 J J <| K1 J J <| K1 J J <| K1 J J <| K1 J J <| K1 J J <| K1 J J <| aA (bN J J) J <| Nk [6,7,8,9,10,11,14,18,19,87,88,95,96,97,98,99,100,101,102,103,104] J <| bT J <| bY <| aE <| Ck [6,7,8,9,10,11,18,19,87,88,95,96,97,98,99,100,101,102,103] J <| aH (z := 2) J <| aA (cI (((j + 1 : Nat) : Int)) (aS J J om) om) J <| Um J J <| Wn <| aD <| ⟨⟨j + 1, rows2⟩, ⟨J, J, J, J, J, J, J, J, J, J, trivial⟩, (dL dG (aN om g0) (aN om (g1 (by decide) g0)) (aN om (g1 (by decide) (g1 (by decide) g0)))), ⟨om, hl4, (by have := lX (A := vX rows2) (M := M) (j := j) om (by rw [hMl]; exact hst) (nX (.inl om)).symm; rwa [hMl] at this), om⟩, by show rows.length - (j + 1) < rows.length - j; omega⟩
  refine Um J J <| aI J (eB J) J <| aI J (eB J) J <| aI J (cK (j := j) J J J J om om J) J <| aI J (eJ (f := fX) (us := rows2) (j := j) J J (aN om g0) (fun _ => rfl) J (by decide) om J) J <| aI J (eB J) J <| aI J (bS J J J J J om J) J <| aI J (dC (l := .agg [_, _, _, _]) J J J) J <| aI J (aJ J (iK ((rows2.getD j default).2.getD c default)) (by first | (simp [-cD]; done) | simp)) J <| aI J (eL J J) J <| aW (fun h103 => ?_) (fun h103 => ?_)
  rotate_left
  ·refine aA (bL J J) J <| Nk [6,7,8,9,10,11,14,18,19,87,88,95,96,97,98,99,100,101,102,103,104] J <| bT J <| bY <| aE <| Ck [6,7,8,9,10,11,18,19,87,88,95,96,97,98,99,100,101,102,103] J <| aH (z := 2) J <| aA (cI (((j + 1 : Nat) : Int)) (aS J J om) om) J <| Um J J <| Wn <| aD <| ⟨⟨j + 1, rows2⟩, ⟨J, J, J, J, J, J, J, J, J, J, trivial⟩, (dL dG (aN om g0) (aN om (g1 (by decide) g0)) (aN om (g1 (by decide) (g1 (by decide) g0)))), ⟨om, hl4, (by have := lX (A := vX rows2) (M := M) (j := j) om (by rw [hMl]; exact hst) (nX (.inr (by rw [← hej, ← iB]; exact fD.1 om))).symm; rwa [hMl] at this), om⟩, by show rows.length - (j + 1) < rows.length - j; omega⟩
  refine aA (bL J J) J <| Nk [6,7,8,9,10,11,14,18,19,87,88,95,96,97,98,99,100,101,102,103,104] J <| bR J ?_
  have hen2 : ent M j c ≠ 0 := by rw [← hej, ← iB]; exact fun k => h103 (fD.2 k)
  have hbj : ∀ x, x ∈ (rows2.getD j default).2 → Bd (2 * β + 1) x.1 := by
   intro x hx
   have := hMb.row j
   rw [← hj1, dE] at this
   exact this _ (List.mem_map.2 ⟨x, hx, rfl⟩)
  have hbl : ∀ x, x ∈ (rows2.getD leads.length default).2 → Bd (2 * β + 1) x.1 := by
   intro x hx
   have := hMb.row leads.length
   rw [← hj2, dE] at this
   exact this _ (List.mem_map.2 ⟨x, hx, rfl⟩)
  have hbe := hbj _ (bE (show c < (rows2.getD j default).2.length by omega))
  obtain ⟨r, hr, nw, rfl, hnw⟩ := nA (rows2.getD j default).1 (rows2.getD leads.length default).1 (rows2.getD j default).2 (rows2.getD leads.length default).2 (xneg ((rows2.getD j default).2.getD c default)) om om (fun x hx => (hbj x hx).mono om) (fun x hx => (hbl x hx).mono om) (hbe.neg.mono om)
  refine cV (z := 21) J kR <| Dm J J <| Dm J J <| Dm J J <| Dm J J <| aC (cK (j := j) J J J J om om J) J <| aC (eJ (f := fX) (us := rows2) (j := j) J J (aN om g0) (fun _ => rfl) J (by decide) om J) J <| Dm J J <| Dm J J <| aC (cK (j := j) J J J J om om J) J <| aC (eJ (f := fX) (us := rows2) (j := j) J J (aN om g0) (fun _ => rfl) J (by decide) om J) J <| Dm J J <| aC (bS J J J J J om J) J <| aC (dC (l := .agg [_, _, _, _]) J J J) J <| aC (aJ J (jX ((rows2.getD j default).2.getD c default)) (by first | (simp [-cD]; done) | simp)) J <| Dm J J <| Dm J J <| aC (cK (j := leads.length) J J J J om om J) J <| aC (eJ (f := fX) (us := rows2) (j := leads.length) J J (aN om g0) (fun _ => rfl) J (by decide) om J) J <| aC (aJ J (hr) (by first | (simp [-cD]; done) | simp)) J <| aC (cK (j := j) J J J J om om J) J <| bZ (eG (f := fX) (us := rows2) (1, nw) J J J (aN om g0) (fun _ => rfl) J J om J) <| bD (aP kR) J <| aE ?_
  refine Ck [6,7,8,9,10,11,18,19,87,88,95,96,97,98,99,100,101,102,103] J <| aH (z := 2) J <| aA (cI (((j + 1 : Nat) : Int)) (aS J J om) om) J <| Um J J <| Wn <| aD <| ⟨⟨j + 1, rows2.set j (1, nw)⟩, ⟨rfl, congrArg some (by rw [List.length_set]), rfl, rfl, rfl, rfl, rfl, rfl, rfl, rfl, trivial⟩, dL (fun hu => g1 om (dG hu)) g0 (g1 (by decide) (aN om (g1 (by decide) g0))) (g1 (by decide) (aN om (g1 (by decide) (g1 (by decide) g0)))), ⟨om, by rw [List.length_set]; exact hl4, by rw [pW]; exact (by have := elim_next (A := vX rows2) (M := M) (j := j) (by rw [cY]; omega) om (by rw [hMl]; exact hst) (x := nw.map (·.1)) (by rw [elr_pos om hen2, ← hej, ← hj1, ← hj2, dE, dE, ← iB, hnw]; rfl); rwa [hMl] at this), om⟩, by show rows.length - (j + 1) < rows.length - j; omega⟩
 refine Nk [6,7,8,9,10,11,12,18,19,30,31,32,33,34,35,36,37,38,48] J <| aT J <| aB <| bJ (z := 16) J kR <| Dm J J <| Dm J J <| Dm J J <| Dm J J <| Dm J J <| Dm J J <| aC (cK (j := leads.length) J J J J om om J) J <| aC (eJ (f := fX) (us := rows) (j := leads.length) J J (aN om g0) (fun _ => rfl) J (by decide) om J) J <| Dm J J <| Dm J J <| aC (cK (j := a) J J J J om om J) J <| aC (eJ (f := fX) (us := rows) (j := a) J J (aN om g0) (fun _ => rfl) J (by decide) om J) J <| aC (cK (j := a) J J J J om om J) J <| bZ (eG (f := fX) (us := rows) (rows.getD leads.length default) J J J (aN om g0) (fun _ => rfl) J J om J) <| aC (cK (j := leads.length) J J J J om om J) J <| bZ (eG (f := fX) (us := (rows.set a (rows.getD leads.length default))) (rows.getD a default) J J J g0 (fun _ => rfl) J J (by rw [List.length_set]; omega) J) <| bD (aP kR) J <| Ck [6,7,8,9,10,11,18,19,30,31,32,33,34,35,36,37,38] J <| Rg 3 J ?_
 refine aA (aL (l := .agg [_, _, _, _]) J J (g1 om (g1 om (aN om (g1 (by decide) g0)))) J J) J <| aA (aJ J (jX d) (by first | (simp [-cD]; done) | simp)) J <| bA (cC (cs' := [_, _, _, _]) J J J (g1 om (g1 om (aN om (g1 (by decide) g0)))) J J J J) <| Nk [6,7,8,9,10,11,18,19,30,31,32,33,34,35,36,37,38] J ?_
 obtain ⟨rows1, hr1⟩ : ∃ z, z = ((rows.set a (rows.getD leads.length default)).set leads.length (rows.getD a default)) := ⟨_, rfl⟩
 obtain ⟨d1, hd1e⟩ : ∃ z, z = xneg d := ⟨_, rfl⟩
 rw [← hr1]
 have hd1 : d1.1 = -d.1 := by rw [hd1e]; rfl
 have hv1 : vX rows1 = sw (vX rows) a leads.length := by rw [hr1, pW, pW, ← dE, ← dE]; exact sw_comm om
 have hl1 : rows1.length = rows.length := by simp [hr1]
 have hp1 : ((rows1.getD leads.length default).2.getD c default).1 ≠ 0 := by rw [iB, hv1]; exact hsp
 have hb1 : BdL (β) (vX rows1) := by rw [hv1]; exact hbv.sw _ _
 have hbr : ∀ x, x ∈ (rows1.getD leads.length default).2 → Bd (β) x.1 := by
  intro x hx
  have := hb1.row leads.length
  rw [dE] at this
  exact this _ (List.mem_map.2 ⟨x, hx, rfl⟩)
 have hwr : (rows1.getD leads.length default).2.length = w := by
  have := ((show Wid w (vX rows) by rw [hv]; exact GI.wid).sw (i := a) (r := leads.length) (by rw [cY]; omega) (by rw [cY]; omega)).row (i := leads.length) (by rw [jK, cY]; omega)
  rw [← hv1, dE, List.length_map] at this; exact this
 have hbpp := hbr _ (bE (show c < (rows1.getD leads.length default).2.length by omega))
 have hb1p := Bd1.div hbpp hp1
 obtain ⟨p, hpe⟩ : ∃ p, p = (rows1.getD leads.length default).2.getD c default := ⟨_, rfl⟩
 have hpv1 : p.1 = ent (vX rows) a c := by rw [hpe, iB, hv1, lG (by rw [cY]; omega) (by rw [cY]; omega)]
 have hd1b : Bd (β) d1.1 := by rw [hd1]; exact hdb.neg
 have hd2v : (xmul d1 p).1 = gjd (vX rows0) (c + 1) := by
  rw [nZ hpv hal, ← hv, ← hld]
  show d1.1 * p.1 = _
  rw [hpv1, hd1, if_pos om, hdv]
 refine fY (outH q 1 3 (leads.map d64) [((0 + 3 + 1), { cells := (rows1.map fX).flatten, sz := 1, elem := 104, st := 0 }), ((0 + 3 + 3 + 1), { cells := xc d1, sz := 4, elem := 102, st := 0 }), (2, { cells := [.v (.int .i64 0), .sl 0 [], .v (.int .i64 0), .sl 0 []], sz := 4, elem := 102, st := 0 })]) (dL (fun hu => (g1 om (g1 om (g1 om (dG hu))))) (g1 (by decide) g0) (g0.trans (by rw [hd1e]; rfl)) (g1 om (g1 om (g1 om (aN om (g1 (by decide) (g1 (by decide) g0))))))) <| Rg 9 J <| Um J J <| Um J J <| aA (cK (j := leads.length) J J J J om om J) J <| aA (eJ (f := fX) (us := rows1) (j := leads.length) J J (aN om g0) (fun _ => rfl) J (by decide) om J) J <| Um J J <| aA (bS J J J J J om J) J <| aA (bH (b := lvX p) (dC (l := .agg [_, _, _, _]) J J J) (by rw [hpe]; rfl)) J <| aY (dO J) J <| bA (cC (cs' := xc p) J J J g0 J J J J) <| Nk [6,7,8,9,10,11,13,18,19,30,31,32,33,34,35,36,37,38] J <| Rg 4 J <| aA (aL (l := .agg [_, _, _, _]) J J (g1 om (g1 om (aN om (g1 (by decide) g0)))) J J) J <| aA (aL (l := lvX p) J J g0 J J) J <| aA (aJ J (iZ d1 p (hd1b.mono om) (by rw [hpe]; exact hbpp.mono om)) (by first | (simp [-cD]; done) | simp)) J <| bA (cC (cs' := [_, _, _, _]) J J J (g1 om (g1 om (aN om (g1 (by decide) g0)))) J J J J) <| Nk [6,7,8,9,10,11,13,18,19,30,31,32,33,34,35,36,37,38] J ?_
 obtain ⟨r, hr, np, rfl, hnp⟩ := qH (rows1.getD leads.length default).1 (rows1.getD leads.length default).2 (xdiv (xint 1) p) om (fun x hx => (hbr x hx).mono om) (by rw [hpe]; exact hb1p.mono om)
 refine bJ (z := 12) J kR <| Dm J J <| Dm J J <| Dm J J <| Dm J J <| aC (cK (j := leads.length) J J J J om om J) J <| aC (eJ (f := fX) (us := rows1) (j := leads.length) J J (g1 om (g1 om (g1 om (aN om g0)))) (fun _ => rfl) J (by decide) om J) J <| aC (aJ J (iM 1 (by unfold I64; omega)) (by first | (simp [-cD]; done) | simp)) J <| aC (aL (l := lvX p) J J (g1 om g0) J J) J <| aC (aJ J (rdiv_run (xint 1) p (by rw [hpe]; exact hp1) (Bd1.mono om) (by rw [hpe]; exact hbpp.mono om)) (by first | (simp [-cD]; done) | simp)) J <| aC (aJ J (hr) (by first | (simp [-cD]; done) | simp)) J <| aC (cK (j := leads.length) J J J J om om J) J <| bZ (eG (f := fX) (us := rows1) (1, np) J J J (g1 om (g1 om (g1 om (aN om g0)))) (fun _ => rfl) J J om J) <| bD (aP kR) J <| Ck [6,7,8,9,10,11,18,19,30,31,32,33,34,35,36,37,38] J <| aB ?_
 obtain ⟨rowsM, hr2⟩ : ∃ z, z = rows1.set leads.length (1, np) := ⟨_, rfl⟩
 rw [← hr2]
 have hl2 : rowsM.length = rows.length := by rw [hr2, List.length_set]; exact hl1
 have hv2 : vX rowsM = M := by
  rw [hr2, pW, hv1, hM]; unfold mid
  rw [hnp, ← dE, hv1]
  have : (xdiv (xint 1) p).1 = 1 / ent (sw (vX rows) a leads.length) leads.length c := by show (1 : Rat) / p.1 = _; rw [hpv1, lG (by rw [cY]; omega) (by rw [cY]; omega)]
  rw [this]
 refine Rg 3 J <| Um J J <| aA (lL J J) J <| Um J J <| Nk [6,7,8,9,10,11,18,19,30,31,32,33,34,35,36,37,38,87,88] J <| aK <| aZ (α := Nat × (List X1)) (fun ⟨j, rows2⟩ => [(6, .ptr (0 + (0 + 1 + 1)) 0), (7, .ref (0 + 3 + 1) 1 0 rows2.length), (8, .ptr (0 + 3 + 3 + 1) 0), (9, outV q 1 (leads.map d64)), (10, .v (.int .i64 (c : Int))), (11, .v (.int .i64 (leads.length : Int))), (18, .v (.int .i64 (cols : Int))), (19, .v (.int .i64 (c : Int))), (87, .v (.int .i64 (rows.length : Int))), (88, .v (.int .i64 (j : Int)))]) (fun ⟨j, rows2⟩ => outH q 1 3 (leads.map d64) [((0 + 3 + 1), { cells := (rows2.map fX).flatten, sz := 1, elem := 104, st := 0 }), ((0 + 3 + 3 + 1), { cells := xc (xmul d1 p), sz := 4, elem := 102, st := 0 }), (2, { cells := [.v (.int .i64 0), .sl 0 [], .v (.int .i64 0), .sl 0 []], sz := 4, elem := 102, st := 0 })]) (fun ⟨j, rows2⟩ n => j ≤ rows.length ∧ rows2.length = rows.length ∧ (∀ k, k < rows.length → (vX rows2).getD k default = if k < j then elr M leads.length c k else M.getD k default) ∧ q < n) (fun ⟨j, rows2⟩ => rows.length - j) (0, rowsM) ⟨rfl, congrArg some (by rw [hl2]), rfl, rfl, rfl, rfl, rfl, rfl, rfl, rfl, trivial⟩ (dL (fun hu => (g1 om (g1 om (g1 om (g1 om (dG hu)))))) g0 (g1 om g0) (g1 om (g1 om (g1 om (g1 om (aN om (g1 (by decide) (g1 (by decide) g0)))))))) ⟨Nat.zero_le _, hl2, by intro k hk; rw [if_neg om, hv2], om⟩ ?_
 rintro ⟨j, rows2⟩ n hJ
 change WC _ _ _ _ _ (_ :: _) (outH _ _ _ _ _) n _
 obtain ⟨hjl, hl4, hst, hqn4⟩ := hJ
 refine Rg 1 J <| aA (bQ J J) J <| aW (fun h89 => ?_) (fun h89 => ?_)
 rotate_left
 ·refine Wn <| aU J <| aV <| aR <| aQ J ?_
  have hfin : vX rows2 = elim M leads.length c := elim_eq (j := j) (by rw [cY]; omega) om (by rw [hMl]; exact hst)
  refine aH (z := 5) J <| Um J J <| Um J J <| aA (dA (cs := [_]) (rows := [[_]]) J J (by decide) J J J) J <| dB (te := ti3) (f := d64) (q := q) (us := leads) (u := c) J J J J J (fun _ => rfl) (by decide) (by show (2 * (leads.length + 1) + 256) * 8 ≤ _; omega) om (gN om (gN om (gN om J))) (gN om (gN om (gN om J))) J <| Ua J J <| Wn <| aE <| Ck [6,7,8,9,18,19] J <| aH (z := 2) J <| aA (cI (((c + 1 : Nat) : Int)) (aS J J om) om) J <| Um J J <| Wn <| aD <| ⟨⟨c + 1, _, rows2, leads ++ [c], xmul d1 p⟩, ⟨J, J, J, J, J, J, trivial⟩, (dL dG (aN om g0) (aN om (g1 (by decide) g0)) (aN om (g1 (by decide) (g1 (by decide) g0)))), ⟨om, by rw [hgy, hfin, hM, hv, hld], by rw [hgy, hld], om, om, hd2v⟩, by show cols - (c + 1) < cols - c; omega⟩
 refine Wn <| aT J <| aF <| aK <| Rg 2 J <| Um J J <| Ua J J <| cJ ?_
 have hrj : vX rows2 = vX rows2 := rfl
 have hj1 : (vX rows2).getD j default = M.getD j default := by rw [hst j om, if_neg om]
 have hj2 : (vX rows2).getD leads.length default = M.getD leads.length default := elim_row om (by rw [hMl]; exact hst)
 have hej : ent (vX rows2) j c = ent M j c := by unfold ent; rw [hj1]
 have hwj : (rows2.getD j default).2.length = w := by have := hMw.row (i := j) om; rw [← hj1, dE] at this; simpa using this
 have hwl : (rows2.getD leads.length default).2.length = w := by have := hMw.row (i := leads.length) om; rw [← hj2, dE] at this; simpa using this
 refine Rg 14 J <| Um J J <| Um J J <| aA (eL J J) J <| aW (fun h93 => ?_) (fun h93 => ?_)
 rotate_left
 ·refine Um J J <| K1 J J <| K1 J J <| K1 J J <| K1 J J <| K1 J J <| K1 J J <| K1 J J <| K1 J J <| K1 J J <| aA (bN J J) J <| Nk [6,7,8,9,10,11,14,18,19,87,88,95,96,97,98,99,100,101,102,103,104] J <| bT J <| bY <| aE <| Ck [6,7,8,9,10,11,18,19,87,88,95,96,97,98,99,100,101,102,103] J <| aH (z := 2) J <| aA (cI (((j + 1 : Nat) : Int)) (aS J J om) om) J <| Um J J <| Wn <| aD <| ⟨⟨j + 1, rows2⟩, ⟨J, J, J, J, J, J, J, J, J, J, trivial⟩, (dL dG (aN om g0) (aN om (g1 (by decide) g0)) (aN om (g1 (by decide) (g1 (by decide) g0)))), ⟨om, hl4, (by have := lX (A := vX rows2) (M := M) (j := j) om (by rw [hMl]; exact hst) (nX (.inl om)).symm; rwa [hMl] at this), om⟩, by show rows.length - (j + 1) < rows.length - j; omega⟩
 refine Um J J <| aI J (eB J) J <| aI J (eB J) J <| aI J (cK (j := j) J J J J om om J) J <| aI J (eJ (f := fX) (us := rows2) (j := j) J J (aN om g0) (fun _ => rfl) J (by decide) om J) J <| aI J (eB J) J <| aI J (bS J J J J J om J) J <| aI J (dC (l := .agg [_, _, _, _]) J J J) J <| aI J (aJ J (iK ((rows2.getD j default).2.getD c default)) (by first | (simp [-cD]; done) | simp)) J <| aI J (eL J J) J <| aW (fun h103 => ?_) (fun h103 => ?_)
 rotate_left
 ·refine aA (bL J J) J <| Nk [6,7,8,9,10,11,14,18,19,87,88,95,96,97,98,99,100,101,102,103,104] J <| bT J <| bY <| aE <| Ck [6,7,8,9,10,11,18,19,87,88,95,96,97,98,99,100,101,102,103] J <| aH (z := 2) J <| aA (cI (((j + 1 : Nat) : Int)) (aS J J om) om) J <| Um J J <| Wn <| aD <| ⟨⟨j + 1, rows2⟩, ⟨J, J, J, J, J, J, J, J, J, J, trivial⟩, (dL dG (aN om g0) (aN om (g1 (by decide) g0)) (aN om (g1 (by decide) (g1 (by decide) g0)))), ⟨om, hl4, (by have := lX (A := vX rows2) (M := M) (j := j) om (by rw [hMl]; exact hst) (nX (.inr (by rw [← hej, ← iB]; exact fD.1 om))).symm; rwa [hMl] at this), om⟩, by show rows.length - (j + 1) < rows.length - j; omega⟩
 refine aA (bL J J) J <| Nk [6,7,8,9,10,11,14,18,19,87,88,95,96,97,98,99,100,101,102,103,104] J <| bR J ?_
 have hen2 : ent M j c ≠ 0 := by rw [← hej, ← iB]; exact fun k => h103 (fD.2 k)
 have hbj : ∀ x, x ∈ (rows2.getD j default).2 → Bd (2 * β + 1) x.1 := by
  intro x hx
  have := hMb.row j
  rw [← hj1, dE] at this
  exact this _ (List.mem_map.2 ⟨x, hx, rfl⟩)
 have hbl : ∀ x, x ∈ (rows2.getD leads.length default).2 → Bd (2 * β + 1) x.1 := by
  intro x hx
  have := hMb.row leads.length
  rw [← hj2, dE] at this
  exact this _ (List.mem_map.2 ⟨x, hx, rfl⟩)
 have hbe := hbj _ (bE (show c < (rows2.getD j default).2.length by omega))
 obtain ⟨r, hr, nw, rfl, hnw⟩ := nA (rows2.getD j default).1 (rows2.getD leads.length default).1 (rows2.getD j default).2 (rows2.getD leads.length default).2 (xneg ((rows2.getD j default).2.getD c default)) om om (fun x hx => (hbj x hx).mono om) (fun x hx => (hbl x hx).mono om) (hbe.neg.mono om)
 refine cV (z := 21) J kR <| Dm J J <| Dm J J <| Dm J J <| Dm J J <| aC (cK (j := j) J J J J om om J) J <| aC (eJ (f := fX) (us := rows2) (j := j) J J (aN om g0) (fun _ => rfl) J (by decide) om J) J <| Dm J J <| Dm J J <| aC (cK (j := j) J J J J om om J) J <| aC (eJ (f := fX) (us := rows2) (j := j) J J (aN om g0) (fun _ => rfl) J (by decide) om J) J <| Dm J J <| aC (bS J J J J J om J) J <| aC (dC (l := .agg [_, _, _, _]) J J J) J <| aC (aJ J (jX ((rows2.getD j default).2.getD c default)) (by first | (simp [-cD]; done) | simp)) J <| Dm J J <| Dm J J <| aC (cK (j := leads.length) J J J J om om J) J <| aC (eJ (f := fX) (us := rows2) (j := leads.length) J J (aN om g0) (fun _ => rfl) J (by decide) om J) J <| aC (aJ J (hr) (by first | (simp [-cD]; done) | simp)) J <| aC (cK (j := j) J J J J om om J) J <| bZ (eG (f := fX) (us := rows2) (1, nw) J J J (aN om g0) (fun _ => rfl) J J om J) <| bD (aP kR) J <| aE ?_
 refine Ck [6,7,8,9,10,11,18,19,87,88,95,96,97,98,99,100,101,102,103] J <| aH (z := 2) J <| aA (cI (((j + 1 : Nat) : Int)) (aS J J om) om) J <| Um J J <| Wn <| aD <| ⟨⟨j + 1, rows2.set j (1, nw)⟩, ⟨rfl, congrArg some (by rw [List.length_set]), rfl, rfl, rfl, rfl, rfl, rfl, rfl, rfl, trivial⟩, dL (fun hu => g1 om (dG hu)) g0 (g1 (by decide) (aN om (g1 (by decide) g0))) (g1 (by decide) (aN om (g1 (by decide) (g1 (by decide) g0)))), ⟨om, by rw [List.length_set]; exact hl4, by rw [pW]; exact (by have := elim_next (A := vX rows2) (M := M) (j := j) (by rw [cY]; omega) om (by rw [hMl]; exact hst) (x := nw.map (·.1)) (by rw [elr_pos om hen2, ← hej, ← hj1, ← hj2, dE, dE, ← iB, hnw]; rfl); rwa [hMl] at this), om⟩, by show rows.length - (j + 1) < rows.length - j; omega⟩
theorem mreduced_runB (rows0 : List X1) (cols w : Nat) (hne : 0 < rows0.length) (ln : rows0.length < 1000000) (hw : Wid w (vX rows0)) (hcw : cols ≤ w) (lw : w < 1000000) (β : Nat) (hβ : β ≤ 268435456) (hgb : GB (vX rows0) cols β) : ∃ r, Run Tryz.prog T E0 (.call 129 [.sl 1 (rows0.map fX), .v (.int .i64 (cols : Int))] r) ∧ ∃ (rows : List X1) (d : X), r = .tup [.sl 1 (rows.map fX), .sl (kd (gjn (vX rows0) cols).2.length) ((gjn (vX rows0) cols).2.map d64), lvX d] ∧ vX rows = (gjn (vX rows0) cols).1 ∧ d.1 = gjd (vX rows0) cols := by
 refine eP Tryz.func129 J J (dF J) ((mreduced_wcB rows0 cols w hne ln hw hcw lw β hβ hgb).mono ?_)
 rintro x e h n ⟨hx, q, rows, d, h1, h2, h3, h4, h5⟩
 refine ⟨.tup [.sl 1 (rows.map fX), .sl (kd (gjn (vX rows0) cols).2.length) ((gjn (vX rows0) cols).2.map d64), lvX d], ⟨rows, d, rfl, h1, h2⟩, ?_⟩
 rw [← kS]
 exact postRO (n := n) hx h3 (by simp) h4 (by show (0 : Nat) ≠ 2; decide) J (by decide) J (cS (n := 1) (fun _ => rfl)) (bO dfX) h5 (by decide) (cS (n := 1) (fun _ => rfl)) cZ (by simp)
theorem oG (al : List X1) (kb : Nat) (bl : List X) (w : Nat) (hne : 0 < al.length) (ln : al.length < 100000) (hw : ∀ r, r ∈ al → r.2.length = w) (hk : ∀ r, r ∈ al → r.1 = kd r.2.length) (hbl : bl.length = al.length) (hw9 : w ≤ 60) (β : Nat) (hβ : β ≤ 268435456) (hgb : GB (wR (vX al) (bl.map (·.1))) w β) : ∃ r, Run Tryz.prog T E0 (.call 108 [.sl 1 (al.map fX), .sl kb (bl.map xc), .v (.int .i64 (w : Int))] r) ∧ (if nosol (gjn (wR (vX al) (bl.map (·.1))) w) w = true then r = .tup [.v (.int .i64 0), .sl 0 []] else ∃ xs : List X, r = .tup [.v (.int .i64 (solk (gjn (wR (vX al) (bl.map (·.1))) w) w)), .sl 1 (xs.map xc)] ∧ xs.map (·.1) = solv (gjn (wR (vX al) (bl.map (·.1))) w) w (gjn (wR (vX al) (bl.map (·.1))) w).2.length) := by
 refine eP Tryz.func108 J J (dF J) <| Rg 2 J <| Ua J J <| Ua J J <| Wn <| Rg 1 J <| Ua J J <| Wn <| aB <| Rg 3 J <| Um J J <| aA (aX J J) J <| Um J J <| Wn <| aK <| aZ (α := Nat × Nat × (List X1)) (fun ⟨i, q, ds⟩ => [(1, .sl kb (bl.map xc)), (2, .v (.int .i64 (w : Int))), (8, outV q 1 (ds.map fX)), (19, .sl 1 (al.map fX)), (20, .v (.int .i64 (al.length : Int))), (21, .v (.int .i64 (i : Int)))]) (fun ⟨i, q, ds⟩ => outH q 1 104 (ds.map fX) []) (fun ⟨i, q, ds⟩ n => i ≤ al.length ∧ ds = (List.range i).map (wX al bl) ∧ ds.length = i ∧ q < n) (fun ⟨i, q, ds⟩ => al.length - i) (0, 0, []) ⟨J, J, J, J, J, J, trivial⟩ trivial ⟨Nat.zero_le _, rfl, rfl, om⟩ ?_
 rintro ⟨i, q, ds⟩ n hF
 change WC _ _ _ _ _ (_ :: _) (outH _ _ _ _ _) n _
 obtain ⟨hi, hds, hdl, hq⟩ := hF
 refine Rg 1 J <| aA (bQ J J) J <| aW (fun h22 => ?_) (fun h22 => ?_)
 ·refine Wn <| aT J <| aF <| aK <| Rg 5 J <| Um J J <| aA (bS J J J J J om J) J <| aA (dC J J J) J <| Ua J J <| Ua J J <| cJ ?_
  have hm := bE (us := al) (i := i) om
  have hrw := hw _ hm
  have hrk := hk _ hm
  have hc0 : ((al.getD i default).2.map xc) = [] → Run Tryz.prog T E0 (.call 128 [.sl (al.getD i default).1 ((al.getD i default).2.map xc)] (.sl 0 [])) := fun h => by
   rw [hrk, xc_nil h]; exact clone1_nil
  have hc1 : ((al.getD i default).2.map xc) ≠ [] → Run Tryz.prog T E0 (.callO 128 [.sl (al.getD i default).1 ((al.getD i default).2.map xc)] (.ref 0 4 0 ((al.getD i default).2.map xc).length) { cells := ((al.getD i default).2.map xc).flatten, sz := 4, elem := 102, st := 0 }) := fun h => by
   have h2 : 0 < (al.getD i default).2.length := by
    rcases Nat.eq_zero_or_pos (al.getD i default).2.length with h3 | h3
    ·exact absurd (by rw [List.length_eq_zero_iff.1 h3]; rfl) h
    ·exact h3
   obtain ⟨_, _, _, h4, rfl, rfl, rfl⟩ := clone1_own (al.getD i default).1 (al.getD i default).2 (by rw [hrk, kd, if_neg om]; decide) h2 om
   rw [List.length_map]; exact h4
  refine oY (z := 12) J kR <| Dm J J <| Dm J J <| WD.callV (us := (al.getD i default).2.map xc) (sz := 4) (el := 102) J hc0 hc1 dD J <| Dm J J <| Dm J J <| aC (bS J J J J J om J) J <| aC (dC (l := .agg [_, _, _, _]) J J J) J <| aC (dA (cs := [_, _, _, _]) (rows := [[_, _, _, _]]) J J (by decide) J J J) J <| WD.ap (te := ti102) (k0 := 0) (us := (al.getD i default).2.map xc) (rows := [xc (bl.getD i default)]) (.inl J) J J J J J (by decide) (by intro r hr; rw [List.mem_singleton] at hr; subst hr; rfl) (cS (n := 4) (fun _ => rfl)) (by simp) (by rw [List.length_map, hrw]; show (2 * (w + 1) + 256) * 64 ≤ _; omega) (by rw [List.length_map, hrw]; show w + 1 < _; omega) (aN om J) J <| aC (dA (cs := [_]) (rows := [[_]]) J J (by decide) J J J) J <| jN _ (outH_swap om) <| WD.ap (te := ti104) (k0 := 0) (us := ds.map fX) (rows := [[_]]) (.inl J) J J J (by rw [jV]; rfl) J (by decide) (by intro r hr; rw [List.mem_singleton] at hr; subst hr; rfl) (cS (n := 1) (fun _ => rfl)) (by simp) (by rw [List.length_map]; show (2 * (ds.length + 1) + 256) * 24 ≤ _; omega) (by rw [List.length_map]; show ds.length + 1 < _; omega) (g1 om J) J <| aC (gO J) J <| bD (iQ (rn n) (by simp only [List.reverse_cons, List.reverse_nil, List.nil_append, List.cons_append, List.map_cons, List.map_nil, ren, Nat.add_assoc, rn_add, rn_lt hq]; kernel_rfl)) J <| Fz.rows (d := 8) ds (wX al bl i) (ys := ((al.getD i default).2 ++ [bl.getD i default]).map xc) [(1, _), (2, _), (19, _), (20, _), (21, _)] ⟨J, J, J, J, J, trivial⟩ J (by simp) J om (by simp) (by decide) (by simp) (cS (n := 4) (fun _ => rfl)) (bO qZ) <| aE <| aH (z := 2) J <| aA (cI (((i + 1 : Nat) : Int)) (aS J J om) om) J <| Um J J <| Wn <| aD <| ⟨⟨i + 1, _, ds ++ [wX al bl i]⟩, ⟨J, J, J, J, J, J, trivial⟩, cM, ⟨om, by rw [List.range_succ, List.map_append, hds]; rfl, by simp; omega, om⟩, by show al.length - (i + 1) < al.length - i; omega⟩
 refine Wn <| aU J <| aV <| aR <| aQ J ?_
 obtain ⟨d0, dt, rfl⟩ : ∃ d0 dt, ds = d0 :: dt := by
  cases ds with
  | nil => simp at hdl; omega
  | cons d dt => exact ⟨d, dt, rfl⟩
 obtain rfl : i = al.length := by omega
 have hvw : vX (d0 :: dt) = (wR (vX al) (bl.map (·.1))) := by rw [hds]; exact vX_w al bl
 have hwid : Wid (w + 1) (wR (vX al) (bl.map (·.1))) := wR_wid (fun r hr => by obtain ⟨s, hs, rfl⟩ := List.mem_map.1 hr; rw [List.length_map]; exact hw s hs)
 obtain ⟨r, hr, rows, d, rfl, hrows, _⟩ := mreduced_runB (d0 :: dt) w (w + 1) (by simp) om (by rw [hvw]; exact hwid) om om β hβ (by rw [hvw]; exact hgb)
 rw [hvw] at hr hrows
 obtain ⟨_, gw, gl, gc⟩ := hgb.all hwid om w (Nat.le_refl _)
 have hrl : rows.length = al.length := by
  have := congrArg List.length hrows
  rw [cW, nJ] at this; simpa [vX] using this
 rw [nJ] at gl
 have gl : (gjn (wR (vX al) (bl.map (·.1))) w).2.length ≤ rows.length := by simpa [vX, hrl] using gl
 generalize gjn (wR (vX al) (bl.map (·.1))) w = S at *
 have hwr := wid_vX gw hrows
 refine Rg 11 J <| Um J J <| Um J J <| aY (kQ [.sl 1 ((d0 :: dt).map fX), .v (.int .i64 (w : Int))] [(q, { cells := ((d0 :: dt).map fX).flatten, sz := 1, elem := 104, st := 1 })] J hr (.own (ob := { cells := ((d0 :: dt).map fX).flatten, sz := 1, elem := 104, st := 0 }) ((d0 :: dt).map fX) (by simp) g0 (by show (0 : Nat) ≠ 2; decide) J (by decide) (by simp [keys]) J (cS (n := 1) (fun _ => rfl)) (bO dfX) (.data (.v _) .nil)) (by intro p hp; rw [List.mem_singleton] at hp; subst hp; exact ⟨_, g0, by show (0 : Nat) ≠ 2; decide, rfl⟩)) J <| Um J J <| aA (dT J J) J <| aA (dT J J) J <| aA (dT J J) J <| aY (dO J) J <| Ua J J <| Ua J J <| bA (cC (cs' := [_, _, _, _]) J J J g0 J J J J) <| Nk [2,11,12] J <| aB <| Rg 6 J <| Um J J <| Um J J <| aA (aX J J) J <| aA (bH (b := .sl 1 ((rows.drop S.2.length).map fX)) (oSlLo (i := S.2.length) J J J (cS (f := fX) (n := 1) (fun _ => rfl)) J J (by rw [List.length_map]; omega)) (by rw [List.map_drop])) J <| aA (aX J J) J <| Um J J <| Wn <| aK ?_
 refine aZ (α := Nat) (fun i => [(2, .v (.int .i64 (w : Int))), (11, .sl 1 (rows.map fX)), (12, .sl (kd S.2.length) (S.2.map d64)), (48, .sl 1 ((rows.drop S.2.length).map fX)), (49, .v (.int .i64 ((rows.drop S.2.length).length : Int))), (50, .v (.int .i64 (i : Int)))]) (fun i => []) (fun i n => i ≤ (rows.drop S.2.length).length ∧ ∀ k, S.2.length ≤ k → k < S.2.length + i → ent S.1 k w = 0) (fun i => (rows.drop S.2.length).length - i) (0) ⟨J, J, J, J, J, J, trivial⟩ trivial ⟨Nat.zero_le _, by intro k h1 h2; omega⟩ ?_
 rintro i n hF
 change WC _ _ _ _ _ (_ :: _) ([]) n _
 obtain ⟨hi2, hz⟩ := hF
 refine Rg 1 J <| aA (bQ J J) J <| aW (fun h51 => ?_) (fun h51 => ?_)
 ·refine Wn <| aT J <| aF <| aK <| Rg 3 J <| aA (bS J J J J J om J) J <| aA (dC J J J) J <| Ua J J <| cJ ?_
  have hdm : S.2.length + i < rows.length := by rw [List.length_drop] at h51; omega
  have hrl2 : (((rows.drop S.2.length).getD i default).2).length = w + 1 := by rw [dropD]; exact hwr _ (bE hdm)
  have he : ent S.1 (S.2.length + i) w = (((rows.drop S.2.length).getD i default).2.getD w default).1 := by rw [← hrows, ent_vX hdm, dropD]
  refine Rg 6 J <| Um J J <| Um J J <| aA (bS (j := w) J J J J om om J) J <| aA (dC (l := .agg [_, _, _, _]) J J J) J <| aA (aJ J (iK (((rows.drop S.2.length).getD i default).2.getD w default)) dD) J <| aA (eL J J) J <| aW (fun h59 => ?_) (fun h59 => ?_)
  ·refine Nk [2,11,12,48,49,50,59] J <| bR J <| Rg 2 J <| Ua J J <| Ua J J <| Wn <| aO <| aM <| bG <| aM ?_
   have hsl : S.1.length = rows.length := by rw [← hrows]; simp [vX]
   have hns : nosol S w = true := nosol_yes (k := S.2.length + i) om om (by rw [he]; intro h0; exact h59 (fD.2 h0))
   exact ⟨.tup [.v (.int .i64 0), .sl 0 []], by rw [if_pos hns], post (n := 0) (.inr J) J J dD⟩
  refine Nk [2,11,12,48,49,50,59] J <| bT J <| bY <| aE <| aH (z := 2) J <| aA (cI (((i + 1 : Nat) : Int)) (aS J J om) om) J <| Um J J <| Wn <| aD <| ⟨i + 1, ⟨J, J, J, J, J, J, trivial⟩, trivial, ⟨om, fun k h1 h2 => ?_⟩, by show (rows.drop S.2.length).length - (i + 1) < (rows.drop S.2.length).length - i; omega⟩
  by_cases hk : k < S.2.length + i
  ·exact hz k h1 hk
  ·obtain rfl : k = S.2.length + i := by omega
   rw [he]; exact fD.1 om
 refine Wn <| aU J <| aV <| aR <| aQ J ?_
 have hns : nosol S w = false := by
  have hsl : S.1.length = rows.length := by rw [← hrows]; simp [vX]
  rw [List.length_drop] at h51 hi2
  exact nosol_no om (fun k h1 h2 => hz k h1 om)
 refine Rg 3 J <| Um J J <| aY (oMk (a := w) (b := w) J J J J om om (by decide) om (by show 64 * w ≤ _; omega) om) J <| Ua J J <| Wn <| aB <| Rg 3 J <| Um J J <| aA (aX J J) J <| Um J J <| Wn <| aK <| aZ (α := Nat × Nat × (List X)) (fun ⟨i, q2, xs⟩ => [(2, .v (.int .i64 (w : Int))), (11, .sl 1 (rows.map fX)), (12, .sl (kd S.2.length) (S.2.map d64)), (16, .ref q2 4 0 w), (63, .sl (kd S.2.length) (S.2.map d64)), (64, .v (.int .i64 (S.2.length : Int))), (65, .v (.int .i64 (i : Int)))]) (fun ⟨i, q2, xs⟩ => [(q2, { cells := (xs.map xc).flatten, sz := 4, elem := 102, st := 0 })]) (fun ⟨i, q2, xs⟩ n => i ≤ S.2.length ∧ xs.length = w ∧ xs.map (·.1) = solv S w i) (fun ⟨i, q2, xs⟩ => S.2.length - i) (0, _, List.replicate w x0) ⟨J, J, J, J, J, J, J, trivial⟩ ⟨g0.trans (by rw [List.map_replicate]; rfl), trivial⟩ ⟨Nat.zero_le _, by simp, by rw [List.map_replicate]; rfl⟩ ?_
 rintro ⟨i, q2, xs⟩ n hF
 change WC _ _ _ _ _ (_ :: _) (_ :: _) n _
 obtain ⟨hi4, hxl, hxs⟩ := hF
 refine Rg 1 J <| aA (bQ J J) J <| aW (fun h66 => ?_) (fun h66 => ?_)
 ·refine Wn <| aT J <| aF <| aK <| Rg 5 J <| Um J J <| aA (bS J J J J J om J) J <| aA (dC J J J) J <| Ua J J <| Ua J J <| cJ ?_
  have hld := gc _ (bE (us := S.2) (i := i) om)
  have hrl4 : ((rows.getD i default).2).length = w + 1 := hwr _ (bE om)
  have he4 : ent S.1 i w = ((rows.getD i default).2.getD w default).1 := by rw [← hrows, ent_vX om]
  refine aH (z := 11) J <| Um J J <| Um J J <| Um J J <| Um J J <| aA (bS J J J J J om J) J <| aA (dC J J J) J <| Um J J <| aA (bS (j := w) J J J J om om J) J <| aA (dC (l := .agg [_, _, _, _]) J J J) J <| aA (cK J J J J J om J) J <| bA (eG (f := xc) (us := xs) ((rows.getD i default).2.getD w default) J J J g0 (fun _ => rfl) J J om J) <| Wn <| aE <| Ck [2,11,12,16,63,64,65] J <| aH (z := 2) J <| aA (cI (((i + 1 : Nat) : Int)) (aS J J om) om) J <| Um J J <| Wn <| aD <| ⟨⟨i + 1, _, xs.set (S.2.getD i default) ((rows.getD i default).2.getD w default)⟩, ⟨J, J, J, J, J, J, J, trivial⟩, ⟨g0, trivial⟩, ⟨om, by rw [List.length_set]; exact hxl, ?_⟩, by show S.2.length - (i + 1) < S.2.length - i; omega⟩
  rw [List.map_set, hxs, solv, he4]
 refine Wn <| aU J <| aV <| aR <| aQ J <| aB ?_
 have hxs' : xs.map (·.1) = solv S w S.2.length := by rw [hxs, show i = S.2.length by omega]
 refine Rg 4 J <| Um J J <| aA (aX J J) J <| Um J J <| aA (bQ J J) J <| aW (fun h84 => ?_) (fun h84 => ?_)
 ·refine Wn <| aT J <| aB <| Rg 3 J <| Um J J <| Ua J J <| Ua J J <| Nk [6,7] J <| bB <| ⟨.tup [.v (.int .i64 2), .sl 1 (xs.map xc)], by rw [if_neg (by rw [hns]; decide)]; exact ⟨xs, by unfold solk; rw [if_pos om], hxs'⟩, ?_⟩
  exact lO (n := 0) [(q2, { cells := (xs.map xc).flatten, sz := 4, elem := 102, st := 1 })] (.inr J) J (.data (.v _) (.own (ob := { cells := (xs.map xc).flatten, sz := 4, elem := 102, st := 0 }) _ (by rw [List.length_map, hxl]) g0 (by show (0 : Nat) ≠ 2; decide) J (by decide) (List.mem_singleton.2 J) J (cS (n := 4) (fun _ => rfl)) (bO qZ) .nil)) (by intro p hp; rw [List.mem_singleton] at hp; subst hp; exact ⟨_, g0, by show (0 : Nat) ≠ 2; decide, rfl⟩)
 refine Wn <| aU J <| aF <| Rg 3 J <| Um J J <| Ua J J <| Ua J J <| Nk [6,7] J <| aO <| ⟨.tup [.v (.int .i64 1), .sl 1 (xs.map xc)], by rw [if_neg (by rw [hns]; decide)]; exact ⟨xs, by unfold solk; rw [if_neg om], hxs'⟩, ?_⟩
 exact lO (n := 0) [(q2, { cells := (xs.map xc).flatten, sz := 4, elem := 102, st := 1 })] (.inr J) J (.data (.v _) (.own (ob := { cells := (xs.map xc).flatten, sz := 4, elem := 102, st := 0 }) _ (by rw [List.length_map, hxl]) g0 (by show (0 : Nat) ≠ 2; decide) J (by decide) (List.mem_singleton.2 J) J (cS (n := 4) (fun _ => rfl)) (bO qZ) .nil)) (by intro p hp; rw [List.mem_singleton] at hp; subst hp; exact ⟨_, g0, by show (0 : Nat) ≠ 2; decide, rfl⟩)
end Go.Proofs.YtahljdjhhapngaaGreat
namespace Go.Proofs.YtahljdjhhapngaaGreat
open Go.Ab Go.RowKit
theorem mean_run (c : CH) (kv : Nat) (vx : List X) (n0 : Nat) (hc : VB n0 c.2.2) (hl : vx.length = n0) (β : Nat) (h1β : 1 ≤ β) (hβ : β ≤ 2147483648) (hv : ∀ x, x ∈ vx → Bd β x.1) : Run Tryz.prog T E0 (.call 113 [lvC c, .sl kv (vx.map xc)] (lvX (xmean c.2.2 vx c.2.2.length))) := by
 have hcl := hc.len
 refine bF Tryz.func113 J J (dF J) <| Rg 2 J <| aY (dK J J) J <| aY (dO J) J <| Wn <| Rg 1 J <| aY (dO J) J <| Wn <| aB <| Rg 4 J <| aA (bC J J J J J) J <| aA (aL J J gG J J) J ?_
 refine aA (aX J J) J <| Um J J <| Wn <| aK <| aZ (α := Nat) (fun i => [(1, .sl kv (vx.map xc)), (4, .ptr (0 + 1) 0), (5, .ptr (0 + 2) 0), (9, .sl c.2.1 (c.2.2.map brc)), (10, .v (.int .i64 (c.2.2.length : Int))), (11, .v (.int .i64 (i : Int)))]) (fun i => [((0 + 2), { cells := xc ((xmean c.2.2 vx i)), sz := 4, elem := (102), st := 0 }), ((0 + 1), { cells := xc (x0), sz := 4, elem := (102), st := 0 })]) (fun i n => i ≤ c.2.2.length ∧ 4 ≤ n) (fun i => c.2.2.length - i) (0) ⟨J, J, J, J, J, J, trivial⟩ ⟨gG, gG, trivial⟩ ⟨Nat.zero_le _, om⟩ ?_
 rintro i n hF
 change WC _ _ _ _ _ (_ :: _) (_ :: _) n _
 obtain ⟨hi, hn⟩ := hF
 refine Rg 1 J <| aA (bQ J J) J <| aW (fun h12 => ?_) (fun h12 => ?_)
 rotate_left
 ·refine Wn <| aU J <| aV <| aR <| aQ J <| Rg 2 J <| aA (aL (l := lvX (xmean c.2.2 vx i)) J J gG J J) J ?_
  refine bA (cC (cs' := xc (xmean c.2.2 vx i)) J J J gG J J J J) ?_
  refine Wn <| aO ?_
  have hin : i = c.2.2.length := by omega
  rw [← hin]
  refine post (n := 0) (.inr J) J ?_ dD
  rfl
 refine Wn <| aT J <| aF <| aK ?_
 have hto := hc.to i om
 have hvn := hc.vn i om
 have hi3 := hvn.all3
 have hm1 := lU hc h1β hv i hi
 have hm2 : i * (β + 3) ≤ 8 * (β + 3) := Nat.mul_le_mul_right _ om
 have hg := kJ h1β hv (c.2.2.getD i default).1.toNat
 refine Rg 4 J <| aA (bS J J J J J om J) J <| aA (dC (l := .agg (brc (c.2.2.getD i default))) J J J) J <| aY (dO J) J <| bA (cC (cs' := brc (c.2.2.getD i default)) J J J g0 J J J J) <| Wn <| cV (z := 12) J kR <| aC (aL (l := lvX (xmean c.2.2 vx i)) J J gG J J) J ?_
 refine aC (bC J J J J J) J <| aC (aL (l := lvM (c.2.2.getD i default).2) J J gG J J) J ?_
 refine aC (bH (b := lvX (nx (c.2.2.getD i default).2)) (aJ J (fC (c.2.2.getD i default).2 hi3.1 hi3.2.1 hi3.2.2) dD) J) J <| Dm J J <| aC (bC J J J J J) J <| aC (aL J J gG J J) J ?_
 refine aC (bS (j := (c.2.2.getD i default).1.toNat) J J J J om om J) J <| aC (dC (l := lvX (vx.getD (c.2.2.getD i default).1.toNat default)) J J J) J <| aC (aJ J (iZ (nx (c.2.2.getD i default).2) (vx.getD (c.2.2.getD i default).1.toNat default) (hvn.bd.mono om) (hg.mono om)) dD) J <| aC (bH (b := lvX (xmean c.2.2 vx (i + 1))) (aJ J (iY (xmean c.2.2 vx i) (xmul (nx (c.2.2.getD i default).2) (vx.getD (c.2.2.getD i default).1.toNat default)) (hm1.mono om) ((hvn.bd.mul hg).mono om)) dD) J) J <| bZ (cC (cs' := xc (xmean c.2.2 vx (i + 1))) J J J gG J J J J) ?_
 refine bD (aP kR) J <| aE <| Ck [1,4,5,9,10,11] J <| aH (z := 2) J <| aA (cI (((i + 1 : Nat) : Int)) (aS J J om) om) J <| Um J J <| Wn <| aD <| ⟨i + 1, ⟨J, J, J, J, J, J, trivial⟩, ⟨gG, gG, trivial⟩, ⟨om, om⟩, by show c.2.2.length - (i + 1) < c.2.2.length - i; omega⟩
theorem pX (c : CH) (d : X) (kv : Nat) (vx : List X) (n0 : Nat) (hr : VN c.1) (hc : VB n0 c.2.2) (hd : Bd 2 d.1) (hl : vx.length = n0) (β : Nat) (h1β : 1 ≤ β) (hβ : β ≤ 2147483648) (hv : ∀ x, x ∈ vx → Bd β x.1) : Run Tryz.prog T E0 (.call 80 [lvC c, lvX d, .sl kv (vx.map xc)] (lvX (xyl c d vx))) := by
 have hcl := hc.len
 have hi3 := hr.all3
 have hm1 := lU hc h1β hv c.2.2.length (Nat.le_refl _)
 have hm2 : c.2.2.length * (β + 3) ≤ 8 * (β + 3) := Nat.mul_le_mul_right _ om
 refine bF Tryz.func80 J J (dF J) <| Rg 3 J <| aY (dK J J) J <| aY (dK J J) J <| aY (dO J) J <| Wn <| bJ (z := 10) J kR <| aC (bC J J J J J) J <| aC (aL (l := lvM c.1) J J gG J J) J ?_
 refine aC (bH (b := lvX (nx c.1)) (aJ J (fC c.1 hi3.1 hi3.2.1 hi3.2.2) dD) J) J <| aC (aL (l := lvX d) J J gG J J) J ?_
 refine aC (aL (l := lvC c) J J gG J J) J ?_
 refine Dm J J <| aC (aJ J (mean_run c kv vx n0 hc hl β h1β hβ hv) (bM (by intro c hc; simp only [List.mem_cons, List.not_mem_nil, or_false] at hc; rcases hc with rfl | rfl; exact jB; exact (.sl _ _ fun row hr => bO qZ row hr)))) J <| aC (aJ J (iZ d (xmean c.2.2 vx c.2.2.length) (hd.mono om) (hm1.mono om)) dD) J <| aC (bH (b := lvX (xyl c d vx)) (aJ J (iY (nx c.1) (xmul d (xmean c.2.2 vx c.2.2.length)) (hr.bd.mono om) ((hd.mul hm1).mono om)) dD) J) J <| bZ (cC (cs' := xc (xyl c d vx)) J J J gG J J J J) ?_
 refine bD (aP kR) J <| Ck [6] J <| aO <| post (n := 0) (.inr J) J ?_ dD
 rfl
theorem wants1_run (a b : X) (ha : Bd 34359738368 a.1) (hb : Bd 34359738368 b.1) : Run Tryz.prog T E0 (.call 122 [lvX a, lvX b] (.v (.int .i64 (b.1 - a.1).num.sign))) := by
 refine bF Tryz.func122 J J (dF J) <| Rg 3 J <| aY (dK J J) J <| aY (dK J J) J <| Ua J J <| Wn <| Rg 4 J <| aA (aL (l := lvX b) J J gG J J) J ?_
 refine aA (aL (l := lvX a) J J gG J J) J ?_
 refine aA (aJ J (oP b a hb ha) dD) J <| Ua J J <| Wn <| aO <| post (n := 0) (.inr J) J ?_ dD
 rfl
theorem wants_run (pl : Int) : Run Tryz.prog T E0 (.call 98 [.v (.int .i64 pl)] (.fn (.func (if pl = 1 then 122 else 76)) [] [])) := by
 refine bF Tryz.func98 J J (dF J) <| Rg 1 J <| Ua J J <| Wn <| Rg 1 J <| Um J J <| Wn <| cB <| Rg 2 J <| aA (eC J J) J <| aW (fun h5 => ?_) (fun h5 => ?_)
 ·refine Ua J J <| Wn <| bR J <| Rg 1 J <| Ua J J <| Wn <| aO <| dP ?_
  rw [if_pos (show pl = 1 by omega)]
  refine post (n := 0) (.inr J) J ?_ dD
  rfl
 refine Ua J J <| Wn <| bT J <| Rg 1 J <| Ua J J <| Wn <| aO <| dP ?_
 rw [if_neg (show ¬ pl = 1 by omega)]
 refine post (n := 0) (.inr J) J ?_ dD
 rfl
theorem cmpf_run (pl : Int) (a b : X) (ha : Bd 34359738368 a.1) (hb : Bd 34359738368 b.1) : Run Tryz.prog T E0 (.call (if pl = 1 then 122 else 76) [lvX a, lvX b] (.v (.int .i64 (sgnF pl a.1 b.1)))) := by
 unfold sgnF
 by_cases h : pl = 1
 ·rw [if_pos h, if_pos h]; exact wants1_run a b ha hb
 ·rw [if_neg h, if_neg h]; exact oP a b ha hb
end Go.Proofs.YtahljdjhhapngaaGreat
namespace Go.Proofs.YtahljdjhhapngaaGreat
open Go.Ab Go.RowKit
theorem lI (n0 : Nat) (H : Hp) (k kv : Nat) (ss : List Go.Ab.ST) (d : X) (vx : List X) (st : List Int) (pl : Int) (qs : Nat) (hnd : subsM H H) (hlt : ∀ q o, getH H q = some o → q < n0) (hq : getH H qs = some { cells := ((st).map ic).flatten, sz := 1, elem := (3), st := 0 }) (hV : VMo ss = true) (hd : Bd 2 d.1) (hl : vx.length = ss.length) (hst : st.length = ss.length) (β : Nat) (h1β : 1 ≤ β) (hβ : β ≤ 2147483648) (hv : ∀ x, x ∈ vx → Bd β x.1) : WC Tryz.prog T E0 Tryz.f97.ntmps (codeOf Tryz.f97) (argsEnv 0 [lvMo k ss, lvX d, .sl kv (vx.map xc), .ref qs 1 0 ss.length, .v (.int .i64 pl)]) H n0 (fun x e' h' n' => (x = .normal ∨ x = .ret) ∧ n0 ≤ n' ∧ ((resE e' T h' Tryz.f97.results.toList = some [.v (.bool false)] ∧ NoImp ss d.1 pl (vl vx) ∧ ∀ q o, getH H q = some o → getH h' q = some o) ∨ ∃ i j, resE e' T h' Tryz.f97.results.toList = some [.v (.bool true)] ∧ i < ss.length ∧ (ss.getD i default).1.1 = pl ∧ j < (ss.getD i default).2.2.length ∧ btr pl (yl d.1 (ch ss i j) (vl vx)) (vl vx i) ∧ getH h' qs = some { cells := ((st.set i (j : Int)).map ic).flatten, sz := 1, elem := (3), st := 0 } ∧ ∀ q o, q ≠ qs → getH H q = some o → getH h' q = some o)) := by
 have hV1 := iO hV
 have hn40 := hV1.wt.len
 have hql := hlt qs _ hq
 change WC _ _ _ _ _ [(0, lvMo k ss), (1, lvX d), (2, .sl kv (vx.map xc)), (3, .ref qs 1 0 ss.length), (4, .v (.int .i64 pl))] _ _ _
 refine Rg 3 J <| aY (dK J J) J <| aY (dK J J) J <| Ua J J <| Wn <| Rg 3 J <| Um J J <| aA (aJ J (wants_run pl) (bM (by intro c hc; simp only [List.mem_cons, List.not_mem_nil, or_false] at hc; rcases hc with rfl; exact .v _))) J <| Ua J J <| Wn <| aB <| Rg 4 J <| aA (bC J J J J J) J <| aA (aL J J gG J J) J ?_
 refine aA (aX J J) J <| Um J J <| Nk [2,3,4,6,11,19,20,21] J <| aK <| aZ (α := Nat) (fun i => [(2, .sl kv (vx.map xc)), (3, .ref qs 1 0 ss.length), (4, .v (.int .i64 pl)), (6, .ptr (n0 + 1) 0), (11, .fn (.func (if pl = 1 then 122 else 76)) [] []), (19, .sl k (ss.map stc)), (20, .v (.int .i64 (ss.length : Int))), (21, .v (.int .i64 (i : Int)))]) (fun i => (n0 + 1, { cells := xc (d), sz := 4, elem := (102), st := 0 }) :: H) (fun i n => i ≤ ss.length ∧ (∀ a, a < i → (ss.getD a default).1.1 = pl → ∀ b, b < (ss.getD a default).2.2.length → ¬ btr pl (yl d.1 (ch ss a b) (vl vx)) (vl vx a)) ∧ n0 + 3 ≤ n) (fun i => ss.length - i) (0) ⟨J, J, J, J, J, J, J, J, trivial⟩ ⟨gG, cQ hnd (by intro q o hq'; have := hlt q o hq'; repeat (first | exact hq' | refine g1 om ?_))⟩ ⟨Nat.zero_le _, fun a ha => absurd ha om, om⟩ ?_
 rintro i n hF
 change WC _ _ _ _ _ [(2, .sl kv (vx.map xc)), (3, .ref qs 1 0 ss.length), (4, .v (.int .i64 pl)), (6, .ptr (n0 + 1) 0), (11, .fn (.func (if pl = 1 then 122 else 76)) [] []), (19, .sl k (ss.map stc)), (20, .v (.int .i64 (ss.length : Int))), (21, .v (.int .i64 (i : Int)))] ((n0 + 1, { cells := xc (d), sz := 4, elem := (102), st := 0 }) :: H) n _
 obtain ⟨hi, hA, hn⟩ := hF
 refine Rg 1 J <| aA (bQ J J) J <| aW (fun h22 => ?_) (fun h22 => ?_)
 rotate_left
 ·refine Wn <| aU J <| aV <| aR <| aQ J <| Rg 1 J <| Ua J J <| Wn <| aO <| ⟨.inr J, om, .inl ⟨rfl, fun a ha ho b hb => hA a om ho b hb, (by intro q o hq'; have := hlt q o hq'; repeat (first | exact hq' | refine g1 om ?_))⟩⟩
 refine Wn <| aT J <| aF <| aK ?_
 have hm := bE (us := ss) (i := i) om
 have hcl := hV1.cs _ hm
 refine Rg 6 J <| Um J J <| aA (bS J J J J J om J) J <| aA (dC (l := .agg (stc (ss.getD i default))) J J J) J <| aY (dO J) J <| Ua J J <| bA (cC (cs' := stc (ss.getD i default)) J J J g0 J J J J) <| Wn <| aB <| Rg 4 J <| aA (bC J J J J J) J <| aA (aL J J gG J J) J ?_
 refine Um J J <| aA (eL J J) J <| aW (fun h29 => ?_) (fun h29 => ?_)
 ·refine Nk [2,3,4,6,11,12,13,19,20,21,29] J <| aT J <| aV <| aQ J <| aH (z := 2) J <| aA (cI (((i + 1 : Nat) : Int)) (aS J J om) om) J <| Um J J <| Wn <| aD <| ⟨i + 1, ⟨J, J, J, J, J, J, J, J, trivial⟩, ⟨gG, cQ hnd (by intro q o hq'; have := hlt q o hq'; repeat (first | exact hq' | refine g1 om ?_))⟩, ⟨om, fun a ha ho => ?_, om⟩, by show ss.length - (i + 1) < ss.length - i; omega⟩
  by_cases e : a = i
  ·subst e; exact absurd ho om
  ·exact hA a om ho
 refine Nk [2,3,4,6,11,12,13,19,20,21,29] J <| aU J <| aF <| Rg 4 J <| aA (bC J J J J J) J <| aA (aL J J gG J J) J ?_
 refine aA (aX J J) J <| Um J J <| Nk [2,3,4,6,11,12,19,20,21,31,32,33] J <| cB <| aZ (α := Nat) (fun j => [(2, .sl kv (vx.map xc)), (3, .ref qs 1 0 ss.length), (4, .v (.int .i64 pl)), (6, .ptr (n0 + 1) 0), (11, .fn (.func (if pl = 1 then 122 else 76)) [] []), (12, .v (.int .i64 (i : Int))), (19, .sl k (ss.map stc)), (20, .v (.int .i64 (ss.length : Int))), (21, .v (.int .i64 (i : Int))), (31, .sl (ss.getD i default).2.1 ((ss.getD i default).2.2.map chc)), (32, .v (.int .i64 ((ss.getD i default).2.2.length : Int))), (33, .v (.int .i64 (j : Int)))]) (fun j => (n0 + 1, { cells := xc (d), sz := 4, elem := (102), st := 0 }) :: H) (fun j n => j ≤ (ss.getD i default).2.2.length ∧ (∀ b, b < j → ¬ btr pl (yl d.1 (ch ss i b) (vl vx)) (vl vx i)) ∧ n0 + 3 ≤ n) (fun j => (ss.getD i default).2.2.length - j) (0) ⟨J, J, J, J, J, J, J, J, J, J, J, J, trivial⟩ ⟨gG, cQ hnd (by intro q o hq'; have := hlt q o hq'; repeat (first | exact hq' | refine g1 om ?_))⟩ ⟨Nat.zero_le _, fun a ha => absurd ha om, om⟩ ?_
 rintro j n hF
 change WC _ _ _ _ _ [(2, .sl kv (vx.map xc)), (3, .ref qs 1 0 ss.length), (4, .v (.int .i64 pl)), (6, .ptr (n0 + 1) 0), (11, .fn (.func (if pl = 1 then 122 else 76)) [] []), (12, .v (.int .i64 (i : Int))), (19, .sl k (ss.map stc)), (20, .v (.int .i64 (ss.length : Int))), (21, .v (.int .i64 (i : Int))), (31, .sl (ss.getD i default).2.1 ((ss.getD i default).2.2.map chc)), (32, .v (.int .i64 ((ss.getD i default).2.2.length : Int))), (33, .v (.int .i64 (j : Int)))] ((n0 + 1, { cells := xc (d), sz := 4, elem := (102), st := 0 }) :: H) n _
 obtain ⟨hj, hB, hn2⟩ := hF
 refine Rg 1 J <| aA (bQ J J) J <| aW (fun h34 => ?_) (fun h34 => ?_)
 rotate_left
 ·refine Wn <| aU J <| aV <| aR <| eZ J <| aE <| aH (z := 2) J <| aA (cI (((i + 1 : Nat) : Int)) (aS J J om) om) J <| Um J J <| Wn <| aD <| ⟨i + 1, ⟨J, J, J, J, J, J, J, J, trivial⟩, ⟨gG, cQ hnd (by intro q o hq'; have := hlt q o hq'; repeat (first | exact hq' | refine g1 om ?_))⟩, ⟨om, fun a ha ho b hb => ?_, om⟩, by show ss.length - (i + 1) < ss.length - i; omega⟩
  by_cases e : a = i
  ·subst e; exact hB b om
  ·exact hA a om ho b hb
 refine Wn <| aT J <| aF <| aK ?_
 have hmc := bE (us := (ss.getD i default).2.2) (i := j) om
 obtain ⟨hrw, hvb⟩ := jJ hV hm hmc
 have hyb := xyl_bd hrw hvb hd h1β hv
 have hgb := kJ h1β hv i
 refine Rg 6 J <| Um J J <| aA (bS J J J J J om J) J <| aA (dC (l := lvC ((ss.getD i default).2.2.getD j default)) J J J) J <| aY (dO J) J <| Ua J J <| bA (cC (cs' := chc ((ss.getD i default).2.2.getD j default)) J J J g0 J J J J) <| Nk [2,3,4,6,11,12,14,15,19,20,21,31,32,33] J <| bJ (z := 11) J kR <| Dm J J <| aC (aL (l := lvC ((ss.getD i default).2.2.getD j default)) J J g0 J J) J <| aC (aL (l := lvX d) J J gG J J) J ?_
 refine Dm J J <| aC (aJ J (pX ((ss.getD i default).2.2.getD j default) d kv vx ss.length hrw hvb hd hl β h1β hβ hv) (bM (by intro c hc; simp only [List.mem_cons, List.not_mem_nil, or_false] at hc; rcases hc with rfl | rfl | rfl; exact jB; exact jB; exact (.sl _ _ fun row hr => bO qZ row hr)))) J <| Dm J J <| Dm J J <| aC (bS (j := i) J J J J om om J) J <| aC (dC (l := lvX (vx.getD i default)) J J J) J <| aC (oCallVD J J (cmpf_run pl (xyl ((ss.getD i default).2.2.getD j default) d vx) (vx.getD i default) (hyb.mono om) (hgb.mono om)) (data3 d0 (by intro c hc; simp only [List.mem_cons, List.not_mem_nil, or_false] at hc; rcases hc with rfl | rfl; exact jB; exact jB) d0)) J <| aC (dZ J J) J <| kZ (fun h48 => ?_) (fun h48 => ?_)
 rotate_left
 ·refine bD (aP kR) J <| Ck [2,3,4,6,11,12,14,19,20,21,31,32,33,48] J <| bT J <| bY <| aE <| aH (z := 2) J <| aA (cI (((j + 1 : Nat) : Int)) (aS J J om) om) J <| Um J J <| Wn <| aD <| ⟨j + 1, ⟨J, J, J, J, J, J, J, J, J, J, J, J, trivial⟩, ⟨gG, cQ hnd (by intro q o hq'; have := hlt q o hq'; repeat (first | exact hq' | refine g1 om ?_))⟩, ⟨om, fun b hb => ?_, om⟩, by show (ss.getD i default).2.2.length - (j + 1) < (ss.getD i default).2.2.length - j; omega⟩
  by_cases e : b = j
  ·subst e; exact fun hb2 => h48 (oS.2 (by rw [xyl_v, jL]; exact hb2))
  ·exact hB b om
 refine bD (aP kR) J <| Ck [2,3,4,6,11,12,14,19,20,21,31,32,33,48] J <| bR J <| Rg 5 J <| Um J J <| Um J J <| Um J J <| aA (cK (j := i) J J J J om om J) J <| bA (eG (f := ic) (us := st) (j : Int) J J J (by have := hlt qs _ hq; repeat (first | exact hq | refine g1 om ?_)) (fun _ => rfl) J J om J) ?_
 refine Nk [] J <| Rg 1 J <| Ua J J <| Wn <| aO <| aM <| bG <| dP <| aM <| bG <| aM <| ⟨.inr J, om, .inr ⟨i, j, rfl, om, om, om, by have := oS.1 h48; rwa [xyl_v, jL] at this, g0, fun q o hne hq' => ?_⟩⟩
 have := hlt q o hq'
 repeat (first | exact hq' | refine g1 om ?_)
end Go.Proofs.YtahljdjhhapngaaGreat
namespace Go.Proofs.YtahljdjhhapngaaGreat
open Go.Ab Go.RowKit
theorem worth_share (n0 : Nat) (H : Hp) (k : Nat) (ss : List Go.Ab.ST) (d : X) (st : List Int) (qs : Nat) (hnd : subsM H H) (hlt : ∀ q o, getH H q = some o → q < n0) (hq : getH H qs = some { cells := ((st).map ic).flatten, sz := 1, elem := (3), st := 0 }) (hV : VMo ss = true) (hd : Bd 2 d.1) (hd0 : 0 < d.1) (hd1 : d.1 < 1) (hst : vSt ss st = true) : WC Tryz.prog T E0 Tryz.f71.ntmps (codeOf Tryz.f71) (argsEnv 0 [lvMo k ss, lvX d, .ref qs 1 0 ss.length]) H n0 (fun x e' h' n' => (x = .normal ∨ x = .ret) ∧ n0 ≤ n' ∧ ∃ xs : List X, resE e' T h' Tryz.f71.results.toList = some [.sl 1 (xs.map xc)] ∧ xs.length = ss.length ∧ WV ss d.1 st (vl xs) ∧ (∀ x, x ∈ xs → Bd 268435456 x.1) ∧ ∀ q o, getH H q = some o → getH h' q = some o) := by
 have hV1 := iO hV
 have hn40 := hV1.wt.len
 have hpos := hV1.pos
 have hsl := gR hst
 have hD := iP hV hd0 hd1
 have hql := hlt qs _ hq
 have hfr : ∀ q, n0 ≤ q → getH H q = none := fun q hq => by
  cases h : getH H q with
  | none => rfl
  | some o => have := hlt q o h; omega
 change WC _ _ _ _ _ [(0, lvMo k ss), (1, lvX d), (2, .ref qs 1 0 ss.length)] _ _ _
 refine Rg 3 J <| aY (dK J J) J <| aY (dK J J) J <| Ua J J <| Wn <| Rg 4 J <| aA (bC J J J J J) J <| aA (aL J J gG J J) J ?_
 refine aA (aX J J) J <| Ua J J <| Wn <| Rg 1 J <| Ua J J <| Wn <| Rg 1 J <| Ua J J <| Wn <| aB <| Rg 4 J <| aA (bC J J J J J) J <| aA (aL J J gG J J) J ?_
 refine aA (aX J J) J <| Um J J <| Nk [2,4,7,8,9,22,23,24] J <| aK <| aZ (α := Nat × Nat × Nat × (List X1) × (List X)) (fun ⟨i, qa, qb, al, bl⟩ => [(2, .ref qs 1 0 ss.length), (4, .ptr (n0 + 1) 0), (7, .v (.int .i64 (ss.length : Int))), (8, outV qa 1 (al.map fX)), (9, outV qb 4 (bl.map xc)), (22, .sl k (ss.map stc)), (23, .v (.int .i64 (ss.length : Int))), (24, .v (.int .i64 (i : Int)))]) (fun ⟨i, qa, qb, al, bl⟩ => outH qa 1 104 (al.map fX) (outH qb 4 102 (bl.map xc) ((n0 + 1, { cells := xc (d), sz := 4, elem := (102), st := 0 }) :: H))) (fun ⟨i, qa, qb, al, bl⟩ n => i ≤ ss.length ∧ al.length = i ∧ bl.length = i ∧ (∀ a, a < i → RowOk ss.length d.1 (ch ss a (st.getD a default).toNat).2.2 a ((al.getD a default).2.map (·.1)) ∧ (al.getD a default).1 = kd (al.getD a default).2.length ∧ (bl.getD a default).1 = nq (ch ss a (st.getD a default).toNat).1) ∧ (∀ r, r ∈ al → ∀ x, x ∈ r.2 → Bd 8 x.1) ∧ (∀ x, x ∈ bl → Bd 8 x.1) ∧ n0 + 1 < qa ∧ n0 + 1 < qb ∧ qa ≠ qb ∧ qa < n ∧ qb < n ∧ n0 + 6 ≤ n) (fun ⟨i, qa, qb, al, bl⟩ => ss.length - i) (0, n0 + 2, n0 + 3, [], []) ⟨J, J, J, J, J, J, J, J, trivial⟩ ⟨gG, cQ hnd (by intro q o hq'; have := hlt q o hq'; repeat (first | exact hq' | refine g1 om ?_))⟩ ⟨Nat.zero_le _, rfl, rfl, fun a ha => absurd ha om, by simp, by simp, om, om, om, om, om, om⟩ ?_
 rintro ⟨i, qa, qb, al, bl⟩ n hF
 change WC _ _ _ _ _ (_ :: _) (outH _ _ _ _ _) n _
 obtain ⟨hi, hal, hbl, hrows, hba, hbb, hqa, hqb, hqab, hqa3, hqb3, hn⟩ := hF
 obtain ⟨nK, hnK⟩ : ∃ z, z = n := ⟨n, rfl⟩
 subst hnK
 refine Rg 1 J <| aA (bQ J J) J <| aW (fun h25 => ?_) (fun h25 => ?_)
 rotate_left
 ·refine Wn <| aU J <| aV <| aR <| aQ J ?_
  obtain ⟨a0, at', rfl⟩ : ∃ a t, al = a :: t := by
   cases al with
   | nil => simp at hal; omega
   | cons a t => exact ⟨a, t, rfl⟩
  obtain ⟨b0, bt, rfl⟩ : ∃ a t, bl = a :: t := by
   cases bl with
   | nil => simp at hbl; omega
   | cons a t => exact ⟨a, t, rfl⟩
  obtain rfl : i = ss.length := by omega
  obtain ⟨hg1, _, hns, hsvl, hwv, hsb⟩ := worth_sys hD hn40 hst (A := vX (a0 :: at')) (b := (b0 :: bt).map (·.1)) (by rw [cY]; exact hal) (by rw [List.length_map]; exact hbl) (fun a ha => by rw [dE]; exact (hrows a ha).1) (fun a ha => by show fn_ ((b0 :: bt).map (·.1)) a = _; exact (jL (b0 :: bt) a).symm.trans (hrows a ha).2.2) (fun r hr x hx => by obtain ⟨y, hy, rfl⟩ := List.mem_map.1 hr; obtain ⟨z, hz, rfl⟩ := List.mem_map.1 hx; exact hba y hy z hz) (fun x hx => by obtain ⟨y, hy, rfl⟩ := List.mem_map.1 hx; exact hbb y hy)
  have hrow2 : ∀ r, r ∈ a0 :: at' → r.2.length = ss.length ∧ r.1 = kd r.2.length := fun r hr => by
   obtain ⟨a, ha, rfl⟩ := List.getElem_of_mem hr
   have h1 := hrows a om
   rw [show (a0 :: at').getD a default = (a0 :: at')[a] by rw [List.getD_eq_getElem?_getD, List.getElem?_eq_getElem ha]; rfl] at h1
   have h2 := h1.1.1
   rw [List.length_map] at h2
   exact ⟨h2, h1.2.1⟩
  obtain ⟨r, hr, hphi⟩ := oG (a0 :: at') 1 (b0 :: bt) ss.length (by simp) om (fun r hr => (hrow2 r hr).1) (fun r hr => (hrow2 r hr).2) om om 268435456 (Nat.le_refl _) hg1
  rw [if_neg (by rw [hns]; decide)] at hphi
  obtain ⟨xs, rfl, hxs⟩ := hphi
  have hxl : xs.length = ss.length := by have := congrArg List.length hxs; rw [hsvl, List.length_map] at this; exact this
  refine Rg 9 J <| Um J J <| Um J J <| Um J J <| aY (kQ [.sl 1 ((a0 :: at').map fX), .sl 1 ((b0 :: bt).map xc), .v (.int .i64 (ss.length : Int))] [(qa, { cells := ((a0 :: at').map fX).flatten, sz := 1, elem := 104, st := 1 }), (qb, { cells := ((b0 :: bt).map xc).flatten, sz := 4, elem := 102, st := 1 })] J hr (.own (ob := { cells := ((a0 :: at').map fX).flatten, sz := 1, elem := 104, st := 0 }) ((a0 :: at').map fX) (by simp) g0 (by show (0 : Nat) ≠ 2; decide) J (by decide) (by simp [keys]) J (cS (f := fX) (n := 1) (fun _ => rfl)) (bO dfX) (.own (ob := { cells := ((b0 :: bt).map xc).flatten, sz := 4, elem := 102, st := 0 }) ((b0 :: bt).map xc) (by simp) (g1 om g0) (by show (0 : Nat) ≠ 2; decide) J (by decide) (by simp [keys]) J (cS (f := xc) (n := 4) (fun _ => rfl)) (bO qZ) (.data (.v _) .nil))) (by intro p hp; simp only [List.mem_cons, List.not_mem_nil, or_false] at hp; rcases hp with rfl | rfl; exact ⟨_, g0, (by show (0 : Nat) ≠ 2; decide), rfl⟩; exact ⟨_, g1 om g0, (by show (0 : Nat) ≠ 2; decide), rfl⟩)) J <| Um J J <| aA (dT J J) J <| aA (dT J J) J <| Ua J J <| Ua J J <| Nk [17] J <| Rg 2 J <| Um J J <| Ua J J <| Wn <| aO <| ⟨.inr J, om, xs, rfl, hxl, by unfold vl; rw [hxs]; exact hwv, fun x hx => hsb _ (by rw [← hxs]; exact List.mem_map.2 ⟨x, hx, rfl⟩), (by intro q o hq'; have := hlt q o hq'; repeat (first | exact hq' | refine g1 om ?_))⟩
 refine Wn <| aT J <| aF <| aK ?_
 have hm := bE (us := ss) (i := i) om
 obtain ⟨hs0, hs1⟩ := nI hst (i := i) om
 have hmc := bE (us := (ss.getD i default).2.2) (i := (st.getD i default).toNat) om
 obtain ⟨hrw, hvb⟩ : VN (ch ss i (st.getD i default).toNat).1 ∧ VB ss.length (ch ss i (st.getD i default).toNat).2.2 := jJ hV hm hmc
 have hr3 := hrw.all3
 have hcl := hV1.cs _ hm
 have hqsn : qs < nK := by omega
 refine Rg 6 J <| Um J J <| aA (bS J J J J J om J) J <| aA (dC (l := .agg (stc (ss.getD i default))) J J J) J <| aY (dO J) J <| Ua J J <| bA (cC (cs' := stc (ss.getD i default)) J J J g0 J J J J) <| Wn <| bJ (z := 10) J kR <| aC (bC J J J J J) J <| aC (aL J J gG J J) J ?_
 refine Dm J J <| Dm J J <| aC (cK (j := i) J J J J om om J) J <| aC (eJ (f := ic) (us := st) (j := i) J J (by have := hlt qs _ hq; repeat (first | exact hq | refine g1 om ?_ | refine aN om ?_)) (fun _ => rfl) J (by decide) om J) J ?_
 refine aC (bS (j := (st.getD i default).toNat) J J J J om om J) J <| aC (dC (l := lvC (ch ss i (st.getD i default).toNat)) J J J) J <| WD.S (dO J) J <| bZ (cC (cs' := chc (ch ss i (st.getD i default).toNat)) J J J g0 J J J J) <| bD (iQ (rn nK) (by simp only [List.reverse_cons, List.reverse_nil, List.nil_append, List.cons_append, List.map_cons, List.map_nil, ren, keys, Nat.add_assoc, rn_add, rn_lt hqsn]; kernel_rfl)) J <| Ck [2,4,7,8,9,10,12,22,23,24] J <| Rg 3 J <| Um J J <| aY (oMk (a := ss.length) (b := ss.length) J J J J om om (by decide) om (by show 64 * ss.length ≤ _; omega) om) J <| Ua J J <| Wn <| aB <| Rg 4 J <| aA (bC J J J J J) J <| aA (aL J J gG J J) J ?_
 refine aA (aX J J) J <| Um J J <| Nk [2,4,7,8,9,10,12,13,22,23,24,40,41,42] J <| aK <| aZ (α := Nat × (List X)) (fun ⟨j, row⟩ => [(2, .ref qs 1 0 ss.length), (4, .ptr (n0 + 1) 0), (7, .v (.int .i64 (ss.length : Int))), (8, outV qa 1 (al.map fX)), (9, outV qb 4 (bl.map xc)), (10, .v (.int .i64 (i : Int))), (12, .ptr (nK + 1 + 6 + 8) 0), (13, .ref (nK + 1 + 6 + 10 + 1) 4 0 ss.length), (22, .sl k (ss.map stc)), (23, .v (.int .i64 (ss.length : Int))), (24, .v (.int .i64 (i : Int))), (40, .sl (ch ss i (st.getD i default).toNat).2.1 ((ch ss i (st.getD i default).toNat).2.2.map brc)), (41, .v (.int .i64 ((ch ss i (st.getD i default).toNat).2.2.length : Int))), (42, .v (.int .i64 (j : Int)))]) (fun ⟨j, row⟩ => ((nK + 1 + 6 + 10 + 1), { cells := (row.map xc).flatten, sz := 4, elem := (102), st := 0 }) :: ((nK + 1 + 6 + 8), { cells := chc (ch ss i (st.getD i default).toNat), sz := 3, elem := (57), st := 0 }) :: outH qa 1 104 (al.map fX) (outH qb 4 102 (bl.map xc) ((n0 + 1, { cells := xc (d), sz := 4, elem := (102), st := 0 }) :: H))) (fun ⟨j, row⟩ n => j ≤ (ch ss i (st.getD i default).toNat).2.2.length ∧ RowP ss.length d.1 (ch ss i (st.getD i default).toNat).2.2 j (row.map (·.1)) ∧ nK + 24 ≤ n) (fun ⟨j, row⟩ => (ch ss i (st.getD i default).toNat).2.2.length - j) (0, List.replicate ss.length x0) ⟨J, J, J, J, J, J, J, J, J, J, J, J, J, J, trivial⟩ ⟨g0.trans (by rw [List.map_replicate]; rfl), gG, cR (fun hne => by rw [dU hne]; repeat (first | exact g0 | refine g1 om ?_ | refine aN om ?_)) (cR (fun hne => by rw [dU hne]; repeat (first | exact g0 | refine g1 om ?_ | refine aN om ?_)) ⟨(by repeat (first | exact g0 | refine g1 om ?_ | refine aN om ?_)), cQ hnd (by intro q o hq'; have := hlt q o hq'; repeat (first | exact hq' | refine g1 om ?_ | refine aN om ?_))⟩)⟩ ⟨Nat.zero_le _, by rw [List.map_replicate]; exact RowP.init _ _ _, om⟩ ?_
 rintro ⟨j, row⟩ n hF
 change WC _ _ _ _ _ [(2, .ref qs 1 0 ss.length), (4, .ptr (n0 + 1) 0), (7, .v (.int .i64 (ss.length : Int))), (8, outV qa 1 (al.map fX)), (9, outV qb 4 (bl.map xc)), (10, .v (.int .i64 (i : Int))), (12, .ptr (nK + 1 + 6 + 8) 0), (13, .ref (nK + 1 + 6 + 10 + 1) 4 0 ss.length), (22, .sl k (ss.map stc)), (23, .v (.int .i64 (ss.length : Int))), (24, .v (.int .i64 (i : Int))), (40, .sl (ch ss i (st.getD i default).toNat).2.1 ((ch ss i (st.getD i default).toNat).2.2.map brc)), (41, .v (.int .i64 ((ch ss i (st.getD i default).toNat).2.2.length : Int))), (42, .v (.int .i64 (j : Int)))] (((nK + 1 + 6 + 10 + 1), { cells := (row.map xc).flatten, sz := 4, elem := (102), st := 0 }) :: ((nK + 1 + 6 + 8), { cells := chc (ch ss i (st.getD i default).toNat), sz := 3, elem := (57), st := 0 }) :: outH qa 1 104 (al.map fX) (outH qb 4 102 (bl.map xc) ((n0 + 1, { cells := xc (d), sz := 4, elem := (102), st := 0 }) :: H))) n _
 obtain ⟨hj, hR, hn2⟩ := hF
 have hrl : row.length = ss.length := by have := hR.1; rwa [List.length_map] at this
 refine Rg 1 J <| aA (bQ J J) J <| aW (fun h43 => ?_) (fun h43 => ?_)
 ·refine Nk [2,4,7,8,9,10,12,13,22,23,24,40,41,42,43] J <| aT J <| aF <| aK ?_
  have hto := hvb.to j om
  have hvn := hvb.vn j om
  have hi3 := hvn.all3
  have hbl8 := hvb.len
  refine Rg 4 J <| aA (bS J J J J J om J) J <| aA (dC (l := .agg (brc ((ch ss i (st.getD i default).toNat).2.2.getD j default))) J J J) J <| aY (dO J) J <| bA (cC (cs' := brc ((ch ss i (st.getD i default).toNat).2.2.getD j default)) J J J g0 J J J J) <| Nk [2,4,7,8,9,10,12,13,15,22,23,24,40,41,42] J <| cV (z := 11) J kR <| Dm J J <| aC (bC J J J J J) J <| aC (aL J J gG J J) J ?_
  refine aC (aL (l := lvX d) J J (by repeat (first | exact g0 | refine g1 om ?_ | refine aN om ?_)) J J) J ?_
  refine aC (bC J J J J J) J <| aC (aL (l := lvM ((ch ss i (st.getD i default).toNat).2.2.getD j default).2) J J gG J J) J ?_
  refine aC (bH (b := lvX (nx ((ch ss i (st.getD i default).toNat).2.2.getD j default).2)) (aJ J (fC ((ch ss i (st.getD i default).toNat).2.2.getD j default).2 hi3.1 hi3.2.1 hi3.2.2) dD) J) J <| aC (aJ J (iZ d (nx ((ch ss i (st.getD i default).toNat).2.2.getD j default).2) (hd.mono om) (hvn.bd.mono om)) dD) J <| aC (aJ J (jX (xmul d (nx ((ch ss i (st.getD i default).toNat).2.2.getD j default).2))) dD) J <| aC (cK (j := ((ch ss i (st.getD i default).toNat).2.2.getD j default).1.toNat) J J J J om om J) J <| bZ (eG (f := xc) (us := row) (xneg (xmul d (nx ((ch ss i (st.getD i default).toNat).2.2.getD j default).2))) J J J gG (fun _ => rfl) J J om J) ?_
  refine bD (aP kR) J <| aE <| Ck [2,4,7,8,9,10,12,13,22,23,24,40,41,42] J <| aH (z := 2) J <| aA (cI (((j + 1 : Nat) : Int)) (aS J J om) om) J <| Um J J <| Wn <| aD <| ⟨⟨j + 1, row.set ((ch ss i (st.getD i default).toNat).2.2.getD j default).1.toNat (xneg (xmul d (nx ((ch ss i (st.getD i default).toNat).2.2.getD j default).2)))⟩, ⟨J, J, J, J, J, J, J, J, J, J, J, J, J, J, trivial⟩, ⟨gG, gG, cR (fun hne => by rw [dU hne]; repeat (first | exact g0 | refine g1 om ?_ | refine aN om ?_)) (cR (fun hne => by rw [dU hne]; repeat (first | exact g0 | refine g1 om ?_ | refine aN om ?_)) ⟨(by repeat (first | exact g0 | refine g1 om ?_ | refine aN om ?_)), cQ hnd (by intro q o hq'; have := hlt q o hq'; repeat (first | exact hq' | refine g1 om ?_ | refine aN om ?_))⟩)⟩, ⟨om, by rw [List.map_set]; exact hR.step hvb om hd, om⟩, by show (ch ss i (st.getD i default).toNat).2.2.length - (j + 1) < (ch ss i (st.getD i default).toNat).2.2.length - j; omega⟩
 refine Nk [2,4,7,8,9,10,12,13,22,23,24,40,41,42,43] J <| aU J <| aV <| aR <| aQ J <| Ck [2,4,7,8,9,10,12,13,22,23,24] J ?_
 have hjn : j = (ch ss i (st.getD i default).toNat).2.2.length := by have := hvb.len; omega
 subst hjn
 have hgi : Bd 4 (row.getD i default).1 := kJ (by decide) (fun x hx => hR.2.2.2 _ (List.mem_map.2 ⟨x, hx, rfl⟩)) i
 have hrowok := hR.done (i := i) om
 rw [show (row.map (·.1)).set i ((row.map (·.1)).getD i default + 1) = (row.set i (xadd (row.getD i default) (xint 1))).map (·.1) by rw [List.map_set]; congr 1; show _ = (row.getD i default).1 + 1; rw [jL]; rfl] at hrowok
 have hov : outV (nK + 1 + 6 + 10 + 1) 4 ((row.set i (xadd (row.getD i default) (xint 1))).map xc) = .ref (nK + 1 + 6 + 10 + 1) 4 0 ss.length := by
  rw [rM (fun h => by have := congrArg List.length h; rw [List.length_map, List.length_set, List.length_nil] at this; omega), List.length_map, List.length_set, hrl]
 have hqa2 : qa < n := by omega
 have hqb2 : qb < n := by omega
 have h12 : nK + (1 + (6 + 8)) < n := by omega
 have h12b : nK + (1 + (6 + 8)) ≠ qb := by omega
 have h12a : nK + (1 + (6 + 8)) ≠ qa := by omega
 have hqba : qb ≠ qa := by omega
 refine bJ (z := 10) J kR <| Dm J J <| Dm J J <| Dm J J <| Dm J J <| aC (cK (j := i) J J J J om om J) J <| aC (eJ (f := xc) (us := row) (j := i) (l := lvX (row.getD i default)) J J gG (fun _ => rfl) J (by decide) om J) J ?_
 refine aC (aJ J (iM 1 (by unfold I64; omega)) dD) J <| aC (aJ J (iY (row.getD i default) (xint 1) (hgi.mono om) (Bd1.mono om)) dD) J <| aC (cK (j := i) J J J J om om J) J <| bZ (eG (f := xc) (us := row) (xadd (row.getD i default) (xint 1)) J J J gG (fun _ => rfl) J J om J) ?_
 refine bD (aP kR) J <| Ck [2,4,7,8,9,12,13,22,23,24] J <| oY (z := 12) J kR <| Dm J J <| Dm J J <| aC (dA (cs := [_]) (rows := [[_]]) J J (by decide) J J J) J <| jN _ (subsM.get (cR (q := qa) (sz := 1) (el := 104) (us := al.map fX) (h := ((nK + 1 + 6 + 10 + 1), { cells := ((row.set i (xadd (row.getD i default) (xint 1))).map xc).flatten, sz := 4, elem := (102), st := 0 }) :: ((nK + 1 + 6 + 8), { cells := chc (ch ss i (st.getD i default).toNat), sz := 3, elem := (57), st := 0 }) :: outH qb 4 102 (bl.map xc) ((n0 + 1, { cells := xc (d), sz := 4, elem := (102), st := 0 }) :: H)) (fun hne => by rw [dU hne]; repeat (first | exact g0 | refine g1 om ?_ | refine aN om ?_)) ⟨(by repeat (first | exact g0 | refine g1 om ?_ | refine aN om ?_)), (by repeat (first | exact g0 | refine g1 om ?_ | refine aN om ?_)), cR (fun hne => by rw [dU hne]; repeat (first | exact g0 | refine g1 om ?_ | refine aN om ?_)) ⟨(by repeat (first | exact g0 | refine g1 om ?_ | refine aN om ?_)), cQ hnd (by intro q o hq'; have := hlt q o hq'; repeat (first | exact hq' | refine g1 om ?_ | refine aN om ?_))⟩⟩)) ?_
 refine WD.ap (te := ti104) (k0 := 0) (us := al.map fX) (rows := [[_]]) (.inl J) J J J (by rw [jV]; rfl) J (by decide) (by intro r hr; rw [List.mem_singleton] at hr; subst hr; rfl) (cS (f := fX) (n := 1) fun _ => rfl) (by simp) (by rw [List.length_map]; show (2 * (al.length + 1) + 256) * 24 ≤ _; omega) (by rw [List.length_map]; show al.length + 1 < _; omega) (gN om (gN om (eW om (gN om (hfr qa om))))) J <| Dm J J <| aC (bC J J J J J) J <| aC (aL (l := lvM (ch ss i (st.getD i default).toNat).1) J J (by repeat (first | exact g0 | refine g1 om ?_ | refine aN om ?_)) J J) J ?_
 refine aC (bH (b := lvX (nx (ch ss i (st.getD i default).toNat).1)) (aJ J (fC (ch ss i (st.getD i default).toNat).1 hr3.1 hr3.2.1 hr3.2.2) dD) J) J <| aC (dA (cs := [_, _, _, _]) (rows := [[_, _, _, _]]) J J (by decide) J J J) J <| jN _ (subsM.get (cR (q := qb) (sz := 4) (el := 102) (us := bl.map xc) (h := ((n + 1 + 10 + 3), { cells := (al.map fX).flatten ++ [[LV.ref (nK + 1 + 6 + 10 + 1) 4 0 ss.length]].flatten, sz := 1, elem := 104, st := 0 }) :: ((nK + 1 + 6 + 10 + 1), { cells := ((row.set i (xadd (row.getD i default) (xint 1))).map xc).flatten, sz := 4, elem := (102), st := 0 }) :: (n0 + 1, { cells := xc (d), sz := 4, elem := (102), st := 0 }) :: H) (fun hne => by rw [dU hne]; repeat (first | exact g0 | refine g1 om ?_ | refine aN om ?_)) ⟨(by repeat (first | exact g0 | refine g1 om ?_ | refine aN om ?_)), (by repeat (first | exact g0 | refine g1 om ?_ | refine aN om ?_)), (by repeat (first | exact g0 | refine g1 om ?_ | refine aN om ?_)), cQ hnd (by intro q o hq'; have := hlt q o hq'; repeat (first | exact hq' | refine g1 om ?_ | refine aN om ?_))⟩)) ?_
 refine WD.ap (te := ti102) (k0 := 0) (us := bl.map xc) (rows := [xc (nx (ch ss i (st.getD i default).toNat).1)]) (.inl J) J J J (by rw [jV]; rfl) J (by decide) (by intro r hr; rw [List.mem_singleton] at hr; subst hr; rfl) (cS (f := xc) (n := 4) fun _ => rfl) (by simp) (by rw [List.length_map]; show (2 * (bl.length + 1) + 256) * 64 ≤ _; omega) (by rw [List.length_map]; show bl.length + 1 < _; omega) (gN om (gN om (gN om (hfr qb om)))) J <| aC (gO J) J <| aC (gO J) J <| bD (iQ (rq2 qa qb n) (by simp only [List.reverse_cons, List.reverse_nil, List.nil_append, List.cons_append, List.map_cons, List.map_nil, ren, keys, Nat.add_assoc, rq2_a, rq2_b hqba, rq2_lt h12 h12a h12b, rq2_add hqa2 hqb2]; kernel_rfl)) J <| Fz.weakH (outH (nK + 1 + 6 + 10 + 1) 4 (102) ((row.set i (xadd (row.getD i default) (xint 1))).map xc) (((n + 1 + 10 + 3), { cells := (al.map fX).flatten ++ [outV (nK + 1 + 6 + 10 + 1) 4 ((row.set i (xadd (row.getD i default) (xint 1))).map xc)], sz := 1, elem := 104, st := 0 }) :: ((n + 1 + 10 + 9), { cells := (bl.map xc).flatten ++ [xc (nx (ch ss i (st.getD i default).toNat).1)].flatten, sz := 4, elem := 102, st := 0 }) :: (n0 + 1, { cells := xc (d), sz := 4, elem := (102), st := 0 }) :: H)) (subsM.get (cR (fun _ => (by repeat (first | exact g0 | refine g1 om ?_ | refine aN om ?_))) ⟨by rw [hov]; exact (by repeat (first | exact g0 | refine g1 om ?_ | refine aN om ?_)), (by repeat (first | exact g0 | refine g1 om ?_ | refine aN om ?_)), (by repeat (first | exact g0 | refine g1 om ?_ | refine aN om ?_)), cQ hnd (by intro q o hq'; have := hlt q o hq'; repeat (first | exact hq' | refine g1 om ?_ | refine aN om ?_))⟩)) ?_
 refine Fz.cellR [(2, _), (4, _), (7, _), (8, _), (9, _), (22, _), (23, _), (24, _)] ⟨J, J, J, J, J, J, J, J, trivial⟩ om (by decide) (cS (f := xc) (n := 4) fun _ => rfl) (bO qZ) (gN om (gN om (hfr _ om))) ?_
 rw [kS]
 refine aE <| aH (z := 2) J <| aA (cI (((i + 1 : Nat) : Int)) (aS J J om) om) J <| Um J J <| Wn <| aD <| ⟨⟨i + 1, (n + 1 + 10 + 3), (n + 1 + 10 + 9), al ++ [(kd (row.set i (xadd (row.getD i default) (xint 1))).length, (row.set i (xadd (row.getD i default) (xint 1))))], bl ++ [nx (ch ss i (st.getD i default).toNat).1]⟩, ⟨rfl, rfl, rfl, congrArg some (by rw [List.map_append]; exact outV_snoc.symm), congrArg some (by rw [List.map_append]; exact outV_snoc.symm), rfl, rfl, rfl, trivial⟩, by dsimp only; rw [List.map_append, List.map_append]; simp only [List.map_cons, List.map_nil]; rw [jU, jU]; exact ⟨gG, gG, gG, cQ hnd (by intro q o hq'; have := hlt q o hq'; repeat (first | exact hq' | refine g1 om ?_))⟩, ⟨om, by rw [List.length_append]; show al.length + 1 = _; omega, by rw [List.length_append]; show bl.length + 1 = _; omega, fun a ha => ?_, fun r hr => ?_, fun x hx => ?_, om, om, om, om, om, om⟩, by show ss.length - (i + 1) < ss.length - i; omega⟩
 ·by_cases e : a = i
  ·subst e
   rw [show (al ++ [(kd (row.set a (xadd (row.getD a default) (xint 1))).length, (row.set a (xadd (row.getD a default) (xint 1))))]).getD a default = (kd (row.set a (xadd (row.getD a default) (xint 1))).length, (row.set a (xadd (row.getD a default) (xint 1)))) by rw [← hal]; simp [List.getD_eq_getElem?_getD], show (bl ++ [nx (ch ss a (st.getD a default).toNat).1]).getD a default = nx (ch ss a (st.getD a default).toNat).1 by rw [← hbl]; simp [List.getD_eq_getElem?_getD]]
   exact ⟨hrowok.1, rfl, rfl⟩
  ·rw [show (al ++ [(kd (row.set i (xadd (row.getD i default) (xint 1))).length, (row.set i (xadd (row.getD i default) (xint 1))))]).getD a default = al.getD a default by simp only [List.getD_eq_getElem?_getD]; rw [List.getElem?_append_left om], show (bl ++ [nx (ch ss i (st.getD i default).toNat).1]).getD a default = bl.getD a default by simp only [List.getD_eq_getElem?_getD]; rw [List.getElem?_append_left om]]
   exact hrows a om
 ·rcases List.mem_append.1 hr with h | h
  ·exact hba r h
  ·rw [List.mem_singleton] at h; subst h
   exact fun x hx => hrowok.2 _ (List.mem_map.2 ⟨x, hx, rfl⟩)
 ·rcases List.mem_append.1 hx with h | h
  ·exact hbb x h
  ·rw [List.mem_singleton] at h; subst h
   exact hrw.bd.mono (by decide)
theorem worth_wc (n0 : Nat) (H : Hp) (k ks : Nat) (ss : List Go.Ab.ST) (d : X) (st : List Int) (hnd : subsM H H) (hlt : ∀ q o, getH H q = some o → q < n0) (hV : VMo ss = true) (hd : Bd 2 d.1) (hd0 : 0 < d.1) (hd1 : d.1 < 1) (hst : vSt ss st = true) : WC Tryz.prog T E0 Tryz.f71.ntmps (codeOf Tryz.f71) (argsEnv 0 [lvMo k ss, lvX d, .sl ks (st.map ic)]) H n0 (fun x e' h' n' => (x = .normal ∨ x = .ret) ∧ n0 ≤ n' ∧ ∃ xs : List X, resE e' T h' Tryz.f71.results.toList = some [.sl 1 (xs.map xc)] ∧ xs.length = ss.length ∧ WV ss d.1 st (vl xs) ∧ (∀ x, x ∈ xs → Bd 268435456 x.1) ∧ ∀ q o, getH H q = some o → getH h' q = some o) := by
 have hV1 := iO hV
 have hn40 := hV1.wt.len
 have hpos := hV1.pos
 have hsl := gR hst
 have hD := iP hV hd0 hd1
 have hfr : ∀ q, n0 ≤ q → getH H q = none := fun q hq => by
  cases h : getH H q with
  | none => rfl
  | some o => have := hlt q o h; omega
 change WC _ _ _ _ _ [(0, lvMo k ss), (1, lvX d), (2, .sl ks (st.map ic))] _ _ _
 refine Rg 3 J <| aY (dK J J) J <| aY (dK J J) J <| Ua J J <| Wn <| Rg 4 J <| aA (bC J J J J J) J <| aA (aL J J gG J J) J ?_
 refine aA (aX J J) J <| Ua J J <| Wn <| Rg 1 J <| Ua J J <| Wn <| Rg 1 J <| Ua J J <| Wn <| aB <| Rg 4 J <| aA (bC J J J J J) J <| aA (aL J J gG J J) J ?_
 refine aA (aX J J) J <| Um J J <| Nk [2,4,7,8,9,22,23,24] J <| aK <| aZ (α := Nat × Nat × Nat × (List X1) × (List X)) (fun ⟨i, qa, qb, al, bl⟩ => [(2, .sl ks (st.map ic)), (4, .ptr (n0 + 1) 0), (7, .v (.int .i64 (ss.length : Int))), (8, outV qa 1 (al.map fX)), (9, outV qb 4 (bl.map xc)), (22, .sl k (ss.map stc)), (23, .v (.int .i64 (ss.length : Int))), (24, .v (.int .i64 (i : Int)))]) (fun ⟨i, qa, qb, al, bl⟩ => outH qa 1 104 (al.map fX) (outH qb 4 102 (bl.map xc) ((n0 + 1, { cells := xc (d), sz := 4, elem := (102), st := 0 }) :: H))) (fun ⟨i, qa, qb, al, bl⟩ n => i ≤ ss.length ∧ al.length = i ∧ bl.length = i ∧ (∀ a, a < i → RowOk ss.length d.1 (ch ss a (st.getD a default).toNat).2.2 a ((al.getD a default).2.map (·.1)) ∧ (al.getD a default).1 = kd (al.getD a default).2.length ∧ (bl.getD a default).1 = nq (ch ss a (st.getD a default).toNat).1) ∧ (∀ r, r ∈ al → ∀ x, x ∈ r.2 → Bd 8 x.1) ∧ (∀ x, x ∈ bl → Bd 8 x.1) ∧ n0 + 1 < qa ∧ n0 + 1 < qb ∧ qa ≠ qb ∧ qa < n ∧ qb < n ∧ n0 + 6 ≤ n) (fun ⟨i, qa, qb, al, bl⟩ => ss.length - i) (0, n0 + 2, n0 + 3, [], []) ⟨J, J, J, J, J, J, J, J, trivial⟩ ⟨gG, cQ hnd (by intro q o hq'; have := hlt q o hq'; repeat (first | exact hq' | refine g1 om ?_))⟩ ⟨Nat.zero_le _, rfl, rfl, fun a ha => absurd ha om, by simp, by simp, om, om, om, om, om, om⟩ ?_
 rintro ⟨i, qa, qb, al, bl⟩ n hF
 change WC _ _ _ _ _ (_ :: _) (outH _ _ _ _ _) n _
 obtain ⟨hi, hal, hbl, hrows, hba, hbb, hqa, hqb, hqab, hqa3, hqb3, hn⟩ := hF
 obtain ⟨nK, hnK⟩ : ∃ z, z = n := ⟨n, rfl⟩
 subst hnK
 refine Rg 1 J <| aA (bQ J J) J <| aW (fun h25 => ?_) (fun h25 => ?_)
 rotate_left
 ·refine Wn <| aU J <| aV <| aR <| aQ J ?_
  obtain ⟨a0, at', rfl⟩ : ∃ a t, al = a :: t := by
   cases al with
   | nil => simp at hal; omega
   | cons a t => exact ⟨a, t, rfl⟩
  obtain ⟨b0, bt, rfl⟩ : ∃ a t, bl = a :: t := by
   cases bl with
   | nil => simp at hbl; omega
   | cons a t => exact ⟨a, t, rfl⟩
  obtain rfl : i = ss.length := by omega
  obtain ⟨hg1, _, hns, hsvl, hwv, hsb⟩ := worth_sys hD hn40 hst (A := vX (a0 :: at')) (b := (b0 :: bt).map (·.1)) (by rw [cY]; exact hal) (by rw [List.length_map]; exact hbl) (fun a ha => by rw [dE]; exact (hrows a ha).1) (fun a ha => by show fn_ ((b0 :: bt).map (·.1)) a = _; exact (jL (b0 :: bt) a).symm.trans (hrows a ha).2.2) (fun r hr x hx => by obtain ⟨y, hy, rfl⟩ := List.mem_map.1 hr; obtain ⟨z, hz, rfl⟩ := List.mem_map.1 hx; exact hba y hy z hz) (fun x hx => by obtain ⟨y, hy, rfl⟩ := List.mem_map.1 hx; exact hbb y hy)
  have hrow2 : ∀ r, r ∈ a0 :: at' → r.2.length = ss.length ∧ r.1 = kd r.2.length := fun r hr => by
   obtain ⟨a, ha, rfl⟩ := List.getElem_of_mem hr
   have h1 := hrows a om
   rw [show (a0 :: at').getD a default = (a0 :: at')[a] by rw [List.getD_eq_getElem?_getD, List.getElem?_eq_getElem ha]; rfl] at h1
   have h2 := h1.1.1
   rw [List.length_map] at h2
   exact ⟨h2, h1.2.1⟩
  obtain ⟨r, hr, hphi⟩ := oG (a0 :: at') 1 (b0 :: bt) ss.length (by simp) om (fun r hr => (hrow2 r hr).1) (fun r hr => (hrow2 r hr).2) om om 268435456 (Nat.le_refl _) hg1
  rw [if_neg (by rw [hns]; decide)] at hphi
  obtain ⟨xs, rfl, hxs⟩ := hphi
  have hxl : xs.length = ss.length := by have := congrArg List.length hxs; rw [hsvl, List.length_map] at this; exact this
  refine Rg 9 J <| Um J J <| Um J J <| Um J J <| aY (kQ [.sl 1 ((a0 :: at').map fX), .sl 1 ((b0 :: bt).map xc), .v (.int .i64 (ss.length : Int))] [(qa, { cells := ((a0 :: at').map fX).flatten, sz := 1, elem := 104, st := 1 }), (qb, { cells := ((b0 :: bt).map xc).flatten, sz := 4, elem := 102, st := 1 })] J hr (.own (ob := { cells := ((a0 :: at').map fX).flatten, sz := 1, elem := 104, st := 0 }) ((a0 :: at').map fX) (by simp) g0 (by show (0 : Nat) ≠ 2; decide) J (by decide) (by simp [keys]) J (cS (f := fX) (n := 1) (fun _ => rfl)) (bO dfX) (.own (ob := { cells := ((b0 :: bt).map xc).flatten, sz := 4, elem := 102, st := 0 }) ((b0 :: bt).map xc) (by simp) (g1 om g0) (by show (0 : Nat) ≠ 2; decide) J (by decide) (by simp [keys]) J (cS (f := xc) (n := 4) (fun _ => rfl)) (bO qZ) (.data (.v _) .nil))) (by intro p hp; simp only [List.mem_cons, List.not_mem_nil, or_false] at hp; rcases hp with rfl | rfl; exact ⟨_, g0, (by show (0 : Nat) ≠ 2; decide), rfl⟩; exact ⟨_, g1 om g0, (by show (0 : Nat) ≠ 2; decide), rfl⟩)) J <| Um J J <| aA (dT J J) J <| aA (dT J J) J <| Ua J J <| Ua J J <| Nk [17] J <| Rg 2 J <| Um J J <| Ua J J <| Wn <| aO <| ⟨.inr J, om, xs, rfl, hxl, by unfold vl; rw [hxs]; exact hwv, fun x hx => hsb _ (by rw [← hxs]; exact List.mem_map.2 ⟨x, hx, rfl⟩), (by intro q o hq'; have := hlt q o hq'; repeat (first | exact hq' | refine g1 om ?_))⟩
 refine Wn <| aT J <| aF <| aK ?_
 have hm := bE (us := ss) (i := i) om
 obtain ⟨hs0, hs1⟩ := nI hst (i := i) om
 have hmc := bE (us := (ss.getD i default).2.2) (i := (st.getD i default).toNat) om
 obtain ⟨hrw, hvb⟩ : VN (ch ss i (st.getD i default).toNat).1 ∧ VB ss.length (ch ss i (st.getD i default).toNat).2.2 := jJ hV hm hmc
 have hr3 := hrw.all3
 have hcl := hV1.cs _ hm
 refine Rg 6 J <| Um J J <| aA (bS J J J J J om J) J <| aA (dC (l := .agg (stc (ss.getD i default))) J J J) J <| aY (dO J) J <| Ua J J <| bA (cC (cs' := stc (ss.getD i default)) J J J g0 J J J J) <| Wn <| bJ (z := 10) J kR <| aC (bC J J J J J) J <| aC (aL J J gG J J) J ?_
 refine Dm J J <| Dm J J <| aC (bS (j := i) J J J J om om J) J <| aC (dC J J J) J <| aC (bS (j := (st.getD i default).toNat) J J J J om om J) J <| aC (dC (l := lvC (ch ss i (st.getD i default).toNat)) J J J) J <| WD.S (dO J) J <| bZ (cC (cs' := chc (ch ss i (st.getD i default).toNat)) J J J g0 J J J J) <| bD (iQ (rn nK) (by simp only [List.reverse_cons, List.reverse_nil, List.nil_append, List.cons_append, List.map_cons, List.map_nil, ren, keys, Nat.add_assoc, rn_add]; kernel_rfl)) J <| Ck [2,4,7,8,9,10,12,22,23,24] J <| Rg 3 J <| Um J J <| aY (oMk (a := ss.length) (b := ss.length) J J J J om om (by decide) om (by show 64 * ss.length ≤ _; omega) om) J <| Ua J J <| Wn <| aB <| Rg 4 J <| aA (bC J J J J J) J <| aA (aL J J gG J J) J ?_
 refine aA (aX J J) J <| Um J J <| Nk [2,4,7,8,9,10,12,13,22,23,24,40,41,42] J <| aK <| aZ (α := Nat × (List X)) (fun ⟨j, row⟩ => [(2, .sl ks (st.map ic)), (4, .ptr (n0 + 1) 0), (7, .v (.int .i64 (ss.length : Int))), (8, outV qa 1 (al.map fX)), (9, outV qb 4 (bl.map xc)), (10, .v (.int .i64 (i : Int))), (12, .ptr (nK + 1 + 6 + 8) 0), (13, .ref (nK + 1 + 6 + 10 + 1) 4 0 ss.length), (22, .sl k (ss.map stc)), (23, .v (.int .i64 (ss.length : Int))), (24, .v (.int .i64 (i : Int))), (40, .sl (ch ss i (st.getD i default).toNat).2.1 ((ch ss i (st.getD i default).toNat).2.2.map brc)), (41, .v (.int .i64 ((ch ss i (st.getD i default).toNat).2.2.length : Int))), (42, .v (.int .i64 (j : Int)))]) (fun ⟨j, row⟩ => ((nK + 1 + 6 + 10 + 1), { cells := (row.map xc).flatten, sz := 4, elem := (102), st := 0 }) :: ((nK + 1 + 6 + 8), { cells := chc (ch ss i (st.getD i default).toNat), sz := 3, elem := (57), st := 0 }) :: outH qa 1 104 (al.map fX) (outH qb 4 102 (bl.map xc) ((n0 + 1, { cells := xc (d), sz := 4, elem := (102), st := 0 }) :: H))) (fun ⟨j, row⟩ n => j ≤ (ch ss i (st.getD i default).toNat).2.2.length ∧ RowP ss.length d.1 (ch ss i (st.getD i default).toNat).2.2 j (row.map (·.1)) ∧ nK + 24 ≤ n) (fun ⟨j, row⟩ => (ch ss i (st.getD i default).toNat).2.2.length - j) (0, List.replicate ss.length x0) ⟨J, J, J, J, J, J, J, J, J, J, J, J, J, J, trivial⟩ ⟨g0.trans (by rw [List.map_replicate]; rfl), gG, cR (fun hne => by rw [dU hne]; repeat (first | exact g0 | refine g1 om ?_ | refine aN om ?_)) (cR (fun hne => by rw [dU hne]; repeat (first | exact g0 | refine g1 om ?_ | refine aN om ?_)) ⟨(by repeat (first | exact g0 | refine g1 om ?_ | refine aN om ?_)), cQ hnd (by intro q o hq'; have := hlt q o hq'; repeat (first | exact hq' | refine g1 om ?_ | refine aN om ?_))⟩)⟩ ⟨Nat.zero_le _, by rw [List.map_replicate]; exact RowP.init _ _ _, om⟩ ?_
 rintro ⟨j, row⟩ n hF
 change WC _ _ _ _ _ [(2, .sl ks (st.map ic)), (4, .ptr (n0 + 1) 0), (7, .v (.int .i64 (ss.length : Int))), (8, outV qa 1 (al.map fX)), (9, outV qb 4 (bl.map xc)), (10, .v (.int .i64 (i : Int))), (12, .ptr (nK + 1 + 6 + 8) 0), (13, .ref (nK + 1 + 6 + 10 + 1) 4 0 ss.length), (22, .sl k (ss.map stc)), (23, .v (.int .i64 (ss.length : Int))), (24, .v (.int .i64 (i : Int))), (40, .sl (ch ss i (st.getD i default).toNat).2.1 ((ch ss i (st.getD i default).toNat).2.2.map brc)), (41, .v (.int .i64 ((ch ss i (st.getD i default).toNat).2.2.length : Int))), (42, .v (.int .i64 (j : Int)))] (((nK + 1 + 6 + 10 + 1), { cells := (row.map xc).flatten, sz := 4, elem := (102), st := 0 }) :: ((nK + 1 + 6 + 8), { cells := chc (ch ss i (st.getD i default).toNat), sz := 3, elem := (57), st := 0 }) :: outH qa 1 104 (al.map fX) (outH qb 4 102 (bl.map xc) ((n0 + 1, { cells := xc (d), sz := 4, elem := (102), st := 0 }) :: H))) n _
 obtain ⟨hj, hR, hn2⟩ := hF
 have hrl : row.length = ss.length := by have := hR.1; rwa [List.length_map] at this
 refine Rg 1 J <| aA (bQ J J) J <| aW (fun h43 => ?_) (fun h43 => ?_)
 ·refine Nk [2,4,7,8,9,10,12,13,22,23,24,40,41,42,43] J <| aT J <| aF <| aK ?_
  have hto := hvb.to j om
  have hvn := hvb.vn j om
  have hi3 := hvn.all3
  have hbl8 := hvb.len
  refine Rg 4 J <| aA (bS J J J J J om J) J <| aA (dC (l := .agg (brc ((ch ss i (st.getD i default).toNat).2.2.getD j default))) J J J) J <| aY (dO J) J <| bA (cC (cs' := brc ((ch ss i (st.getD i default).toNat).2.2.getD j default)) J J J g0 J J J J) <| Nk [2,4,7,8,9,10,12,13,15,22,23,24,40,41,42] J <| cV (z := 11) J kR <| Dm J J <| aC (bC J J J J J) J <| aC (aL J J gG J J) J ?_
  refine aC (aL (l := lvX d) J J (by repeat (first | exact g0 | refine g1 om ?_ | refine aN om ?_)) J J) J ?_
  refine aC (bC J J J J J) J <| aC (aL (l := lvM ((ch ss i (st.getD i default).toNat).2.2.getD j default).2) J J gG J J) J ?_
  refine aC (bH (b := lvX (nx ((ch ss i (st.getD i default).toNat).2.2.getD j default).2)) (aJ J (fC ((ch ss i (st.getD i default).toNat).2.2.getD j default).2 hi3.1 hi3.2.1 hi3.2.2) dD) J) J <| aC (aJ J (iZ d (nx ((ch ss i (st.getD i default).toNat).2.2.getD j default).2) (hd.mono om) (hvn.bd.mono om)) dD) J <| aC (aJ J (jX (xmul d (nx ((ch ss i (st.getD i default).toNat).2.2.getD j default).2))) dD) J <| aC (cK (j := ((ch ss i (st.getD i default).toNat).2.2.getD j default).1.toNat) J J J J om om J) J <| bZ (eG (f := xc) (us := row) (xneg (xmul d (nx ((ch ss i (st.getD i default).toNat).2.2.getD j default).2))) J J J gG (fun _ => rfl) J J om J) ?_
  refine bD (aP kR) J <| aE <| Ck [2,4,7,8,9,10,12,13,22,23,24,40,41,42] J <| aH (z := 2) J <| aA (cI (((j + 1 : Nat) : Int)) (aS J J om) om) J <| Um J J <| Wn <| aD <| ⟨⟨j + 1, row.set ((ch ss i (st.getD i default).toNat).2.2.getD j default).1.toNat (xneg (xmul d (nx ((ch ss i (st.getD i default).toNat).2.2.getD j default).2)))⟩, ⟨J, J, J, J, J, J, J, J, J, J, J, J, J, J, trivial⟩, ⟨gG, gG, cR (fun hne => by rw [dU hne]; repeat (first | exact g0 | refine g1 om ?_ | refine aN om ?_)) (cR (fun hne => by rw [dU hne]; repeat (first | exact g0 | refine g1 om ?_ | refine aN om ?_)) ⟨(by repeat (first | exact g0 | refine g1 om ?_ | refine aN om ?_)), cQ hnd (by intro q o hq'; have := hlt q o hq'; repeat (first | exact hq' | refine g1 om ?_ | refine aN om ?_))⟩)⟩, ⟨om, by rw [List.map_set]; exact hR.step hvb om hd, om⟩, by show (ch ss i (st.getD i default).toNat).2.2.length - (j + 1) < (ch ss i (st.getD i default).toNat).2.2.length - j; omega⟩
 refine Nk [2,4,7,8,9,10,12,13,22,23,24,40,41,42,43] J <| aU J <| aV <| aR <| aQ J <| Ck [2,4,7,8,9,10,12,13,22,23,24] J ?_
 have hjn : j = (ch ss i (st.getD i default).toNat).2.2.length := by have := hvb.len; omega
 subst hjn
 have hgi : Bd 4 (row.getD i default).1 := kJ (by decide) (fun x hx => hR.2.2.2 _ (List.mem_map.2 ⟨x, hx, rfl⟩)) i
 have hrowok := hR.done (i := i) om
 rw [show (row.map (·.1)).set i ((row.map (·.1)).getD i default + 1) = (row.set i (xadd (row.getD i default) (xint 1))).map (·.1) by rw [List.map_set]; congr 1; show _ = (row.getD i default).1 + 1; rw [jL]; rfl] at hrowok
 have hov : outV (nK + 1 + 6 + 10 + 1) 4 ((row.set i (xadd (row.getD i default) (xint 1))).map xc) = .ref (nK + 1 + 6 + 10 + 1) 4 0 ss.length := by
  rw [rM (fun h => by have := congrArg List.length h; rw [List.length_map, List.length_set, List.length_nil] at this; omega), List.length_map, List.length_set, hrl]
 have hqa2 : qa < n := by omega
 have hqb2 : qb < n := by omega
 have h12 : nK + (1 + (6 + 8)) < n := by omega
 have h12b : nK + (1 + (6 + 8)) ≠ qb := by omega
 have h12a : nK + (1 + (6 + 8)) ≠ qa := by omega
 have hqba : qb ≠ qa := by omega
 refine bJ (z := 10) J kR <| Dm J J <| Dm J J <| Dm J J <| Dm J J <| aC (cK (j := i) J J J J om om J) J <| aC (eJ (f := xc) (us := row) (j := i) (l := lvX (row.getD i default)) J J gG (fun _ => rfl) J (by decide) om J) J ?_
 refine aC (aJ J (iM 1 (by unfold I64; omega)) dD) J <| aC (aJ J (iY (row.getD i default) (xint 1) (hgi.mono om) (Bd1.mono om)) dD) J <| aC (cK (j := i) J J J J om om J) J <| bZ (eG (f := xc) (us := row) (xadd (row.getD i default) (xint 1)) J J J gG (fun _ => rfl) J J om J) ?_
 refine bD (aP kR) J <| Ck [2,4,7,8,9,12,13,22,23,24] J <| oY (z := 12) J kR <| Dm J J <| Dm J J <| aC (dA (cs := [_]) (rows := [[_]]) J J (by decide) J J J) J <| jN _ (subsM.get (cR (q := qa) (sz := 1) (el := 104) (us := al.map fX) (h := ((nK + 1 + 6 + 10 + 1), { cells := ((row.set i (xadd (row.getD i default) (xint 1))).map xc).flatten, sz := 4, elem := (102), st := 0 }) :: ((nK + 1 + 6 + 8), { cells := chc (ch ss i (st.getD i default).toNat), sz := 3, elem := (57), st := 0 }) :: outH qb 4 102 (bl.map xc) ((n0 + 1, { cells := xc (d), sz := 4, elem := (102), st := 0 }) :: H)) (fun hne => by rw [dU hne]; repeat (first | exact g0 | refine g1 om ?_ | refine aN om ?_)) ⟨(by repeat (first | exact g0 | refine g1 om ?_ | refine aN om ?_)), (by repeat (first | exact g0 | refine g1 om ?_ | refine aN om ?_)), cR (fun hne => by rw [dU hne]; repeat (first | exact g0 | refine g1 om ?_ | refine aN om ?_)) ⟨(by repeat (first | exact g0 | refine g1 om ?_ | refine aN om ?_)), cQ hnd (by intro q o hq'; have := hlt q o hq'; repeat (first | exact hq' | refine g1 om ?_ | refine aN om ?_))⟩⟩)) ?_
 refine WD.ap (te := ti104) (k0 := 0) (us := al.map fX) (rows := [[_]]) (.inl J) J J J (by rw [jV]; rfl) J (by decide) (by intro r hr; rw [List.mem_singleton] at hr; subst hr; rfl) (cS (f := fX) (n := 1) fun _ => rfl) (by simp) (by rw [List.length_map]; show (2 * (al.length + 1) + 256) * 24 ≤ _; omega) (by rw [List.length_map]; show al.length + 1 < _; omega) (gN om (gN om (eW om (gN om (hfr qa om))))) J <| Dm J J <| aC (bC J J J J J) J <| aC (aL (l := lvM (ch ss i (st.getD i default).toNat).1) J J (by repeat (first | exact g0 | refine g1 om ?_ | refine aN om ?_)) J J) J ?_
 refine aC (bH (b := lvX (nx (ch ss i (st.getD i default).toNat).1)) (aJ J (fC (ch ss i (st.getD i default).toNat).1 hr3.1 hr3.2.1 hr3.2.2) dD) J) J <| aC (dA (cs := [_, _, _, _]) (rows := [[_, _, _, _]]) J J (by decide) J J J) J <| jN _ (subsM.get (cR (q := qb) (sz := 4) (el := 102) (us := bl.map xc) (h := ((n + 1 + 10 + 3), { cells := (al.map fX).flatten ++ [[LV.ref (nK + 1 + 6 + 10 + 1) 4 0 ss.length]].flatten, sz := 1, elem := 104, st := 0 }) :: ((nK + 1 + 6 + 10 + 1), { cells := ((row.set i (xadd (row.getD i default) (xint 1))).map xc).flatten, sz := 4, elem := (102), st := 0 }) :: (n0 + 1, { cells := xc (d), sz := 4, elem := (102), st := 0 }) :: H) (fun hne => by rw [dU hne]; repeat (first | exact g0 | refine g1 om ?_ | refine aN om ?_)) ⟨(by repeat (first | exact g0 | refine g1 om ?_ | refine aN om ?_)), (by repeat (first | exact g0 | refine g1 om ?_ | refine aN om ?_)), (by repeat (first | exact g0 | refine g1 om ?_ | refine aN om ?_)), cQ hnd (by intro q o hq'; have := hlt q o hq'; repeat (first | exact hq' | refine g1 om ?_ | refine aN om ?_))⟩)) ?_
 refine WD.ap (te := ti102) (k0 := 0) (us := bl.map xc) (rows := [xc (nx (ch ss i (st.getD i default).toNat).1)]) (.inl J) J J J (by rw [jV]; rfl) J (by decide) (by intro r hr; rw [List.mem_singleton] at hr; subst hr; rfl) (cS (f := xc) (n := 4) fun _ => rfl) (by simp) (by rw [List.length_map]; show (2 * (bl.length + 1) + 256) * 64 ≤ _; omega) (by rw [List.length_map]; show bl.length + 1 < _; omega) (gN om (gN om (gN om (hfr qb om)))) J <| aC (gO J) J <| aC (gO J) J <| bD (iQ (rq2 qa qb n) (by simp only [List.reverse_cons, List.reverse_nil, List.nil_append, List.cons_append, List.map_cons, List.map_nil, ren, keys, Nat.add_assoc, rq2_a, rq2_b hqba, rq2_lt h12 h12a h12b, rq2_add hqa2 hqb2]; kernel_rfl)) J <| Fz.weakH (outH (nK + 1 + 6 + 10 + 1) 4 (102) ((row.set i (xadd (row.getD i default) (xint 1))).map xc) (((n + 1 + 10 + 3), { cells := (al.map fX).flatten ++ [outV (nK + 1 + 6 + 10 + 1) 4 ((row.set i (xadd (row.getD i default) (xint 1))).map xc)], sz := 1, elem := 104, st := 0 }) :: ((n + 1 + 10 + 9), { cells := (bl.map xc).flatten ++ [xc (nx (ch ss i (st.getD i default).toNat).1)].flatten, sz := 4, elem := 102, st := 0 }) :: (n0 + 1, { cells := xc (d), sz := 4, elem := (102), st := 0 }) :: H)) (subsM.get (cR (fun _ => (by repeat (first | exact g0 | refine g1 om ?_ | refine aN om ?_))) ⟨by rw [hov]; exact (by repeat (first | exact g0 | refine g1 om ?_ | refine aN om ?_)), (by repeat (first | exact g0 | refine g1 om ?_ | refine aN om ?_)), (by repeat (first | exact g0 | refine g1 om ?_ | refine aN om ?_)), cQ hnd (by intro q o hq'; have := hlt q o hq'; repeat (first | exact hq' | refine g1 om ?_ | refine aN om ?_))⟩)) ?_
 refine Fz.cellR [(2, _), (4, _), (7, _), (8, _), (9, _), (22, _), (23, _), (24, _)] ⟨J, J, J, J, J, J, J, J, trivial⟩ om (by decide) (cS (f := xc) (n := 4) fun _ => rfl) (bO qZ) (gN om (gN om (hfr _ om))) ?_
 rw [kS]
 refine aE <| aH (z := 2) J <| aA (cI (((i + 1 : Nat) : Int)) (aS J J om) om) J <| Um J J <| Wn <| aD <| ⟨⟨i + 1, (n + 1 + 10 + 3), (n + 1 + 10 + 9), al ++ [(kd (row.set i (xadd (row.getD i default) (xint 1))).length, (row.set i (xadd (row.getD i default) (xint 1))))], bl ++ [nx (ch ss i (st.getD i default).toNat).1]⟩, ⟨rfl, rfl, rfl, congrArg some (by rw [List.map_append]; exact outV_snoc.symm), congrArg some (by rw [List.map_append]; exact outV_snoc.symm), rfl, rfl, rfl, trivial⟩, by dsimp only; rw [List.map_append, List.map_append]; simp only [List.map_cons, List.map_nil]; rw [jU, jU]; exact ⟨gG, gG, gG, cQ hnd (by intro q o hq'; have := hlt q o hq'; repeat (first | exact hq' | refine g1 om ?_))⟩, ⟨om, by rw [List.length_append]; show al.length + 1 = _; omega, by rw [List.length_append]; show bl.length + 1 = _; omega, fun a ha => ?_, fun r hr => ?_, fun x hx => ?_, om, om, om, om, om, om⟩, by show ss.length - (i + 1) < ss.length - i; omega⟩
 ·by_cases e : a = i
  ·subst e
   rw [show (al ++ [(kd (row.set a (xadd (row.getD a default) (xint 1))).length, (row.set a (xadd (row.getD a default) (xint 1))))]).getD a default = (kd (row.set a (xadd (row.getD a default) (xint 1))).length, (row.set a (xadd (row.getD a default) (xint 1)))) by rw [← hal]; simp [List.getD_eq_getElem?_getD], show (bl ++ [nx (ch ss a (st.getD a default).toNat).1]).getD a default = nx (ch ss a (st.getD a default).toNat).1 by rw [← hbl]; simp [List.getD_eq_getElem?_getD]]
   exact ⟨hrowok.1, rfl, rfl⟩
  ·rw [show (al ++ [(kd (row.set i (xadd (row.getD i default) (xint 1))).length, (row.set i (xadd (row.getD i default) (xint 1))))]).getD a default = al.getD a default by simp only [List.getD_eq_getElem?_getD]; rw [List.getElem?_append_left om], show (bl ++ [nx (ch ss i (st.getD i default).toNat).1]).getD a default = bl.getD a default by simp only [List.getD_eq_getElem?_getD]; rw [List.getElem?_append_left om]]
   exact hrows a om
 ·rcases List.mem_append.1 hr with h | h
  ·exact hba r h
  ·rw [List.mem_singleton] at h; subst h
   exact fun x hx => hrowok.2 _ (List.mem_map.2 ⟨x, hx, rfl⟩)
 ·rcases List.mem_append.1 hx with h | h
  ·exact hbb x h
  ·rw [List.mem_singleton] at h; subst h
   exact hrw.bd.mono (by decide)
theorem worth_run (k ks : Nat) (ss : List Go.Ab.ST) (d : X) (st : List Int) (hV : VMo ss = true) (hd : Bd 2 d.1) (hd0 : 0 < d.1) (hd1 : d.1 < 1) (hst : vSt ss st = true) :
  ∃ r, Run Tryz.prog T E0 (.call 71 [lvMo k ss, lvX d, .sl ks (st.map ic)] r) ∧ ∃ xs : List X, r = .sl 1 (xs.map xc) ∧ xs.length = ss.length ∧ WV ss d.1 st (vl xs) ∧ ∀ x, x ∈ xs → Bd 268435456 x.1 := by
 refine eP Tryz.func71 J J (dF J) <| (worth_wc 0 [] k ks ss d st trivial (by intro q o hq; simp [getH] at hq) hV hd hd0 hd1 hst).mono ?_
 rintro x e h n ⟨hx, _, xs, hr, hl, hw, hb, _⟩
 exact ⟨.sl 1 (xs.map xc), ⟨xs, rfl, hl, hw, hb⟩, post (n := n) hx hr J (.sl _ _ fun row hr => bO qZ row hr)⟩
end Go.Proofs.YtahljdjhhapngaaGreat
namespace Go.Proofs.YtahljdjhhapngaaGreat
open Go.Ab Go.RowKit
theorem g0' {h : Hp} {q : Nat} {a b : Ob} (h1 : getH h q = some a) (h2 : a = b) : getH h q = some b := by rw [h1, h2]
theorem four_set {a b c d : Nat} {o1 o2 o2' o3 o4 : Ob} {h' : Hp} (hq : getH h' b = some o2') (hf : ∀ q o, q ≠ b → getH [(a, o1), (b, o2), (c, o3), (d, o4)] q = some o → getH h' q = some o) (h1 : a ≠ b) (h3 : c ≠ b) (h4 : d ≠ b) : ∀ q o, getH [(a, o1), (b, o2'), (c, o3), (d, o4)] q = some o → getH h' q = some o := by
 intro q o h
 by_cases e : b = q
 ·subst e
  rw [g1 h1 g0] at h
  rw [hq]; exact h
 ·refine hf q o (fun h => e h.symm) ?_
  by_cases e1 : a = q
  ·subst e1; rw [g0] at h ⊢; exact h
  ·rw [g1 e1 rfl, g1 e rfl] at h ⊢; exact h
theorem answer_share (n0 : Nat) (hn0 : 9 ≤ n0) (k : Nat) (ss : List Go.Ab.ST) (d : X) (st : List Int) (hV : VMo ss = true) (hd : Bd 2 d.1) (hd0 : 0 < d.1) (hd1 : d.1 < 1) (hst : vSt ss st = true) : WC Tryz.prog T E0 Tryz.f96.ntmps (codeOf Tryz.f96) (argsEnv 0 ([] ++ [] ++ [.ptr 0 0, .ptr (0 + 1) 0, .ptr (0 + 3 + 4) 0])) [((0 + 3 + 4), { cells := [.ref (0 + 3 + 3) 1 0 ss.length], sz := 1, elem := (33), st := 0 }), ((0 + 3 + 3), { cells := ((st).map ic).flatten, sz := 1, elem := (3), st := 0 }), ((0 + 1), { cells := xc (d), sz := 4, elem := (102), st := 0 }), (0, { cells := [.sl k (ss.map stc)], sz := 1, elem := (24), st := 0 })] n0 (fun x e' h' n' => (x = .normal ∨ x = .ret) ∧ n0 ≤ n' ∧ ∃ (s' : List Int) (xs : List X), resE e' T h' Tryz.f96.results.toList = some [.sl 1 (xs.map xc)] ∧ vSt ss s' = true ∧ xs.length = ss.length ∧ WV ss d.1 s' (vl xs) ∧ NoImp ss d.1 1 (vl xs) ∧ (∀ j, j < ss.length → (ss.getD j default).1.1 ≠ 1 → s'.getD j default = st.getD j default) ∧ (∀ x, x ∈ xs → Bd 268435456 x.1) ∧ ∀ q o, getH [((0 + 3 + 4), { cells := [.ref (0 + 3 + 3) 1 0 ss.length], sz := 1, elem := (33), st := 0 }), ((0 + 3 + 3), { cells := ((s').map ic).flatten, sz := 1, elem := (3), st := 0 }), ((0 + 1), { cells := xc (d), sz := 4, elem := (102), st := 0 }), (0, { cells := [.sl k (ss.map stc)], sz := 1, elem := (24), st := 0 })] q = some o → getH h' q = some o) := by
 have hD := iP hV hd0 hd1
 have hn40 := (iO hV).wt.len
 obtain ⟨μ, M, hM, hμ⟩ := rank1 hD
 change WC _ _ _ _ _ [(0, .ptr 0 0), (1, .ptr (0 + 1) 0), (2, .ptr (0 + 3 + 4) 0)] _ _ _
 refine Rg 1 J <| Ua J J <| Wn <| cB <| aZ (α := (List Int)) (fun s => [(0, .ptr 0 0), (1, .ptr (0 + 1) 0), (2, .ptr (0 + 3 + 4) 0)]) (fun s => [((0 + 3 + 4), { cells := [.ref (0 + 3 + 3) 1 0 ss.length], sz := 1, elem := (33), st := 0 }), ((0 + 3 + 3), { cells := ((s).map ic).flatten, sz := 1, elem := (3), st := 0 }), ((0 + 1), { cells := xc (d), sz := 4, elem := (102), st := 0 }), (0, { cells := [.sl k (ss.map stc)], sz := 1, elem := (24), st := 0 })]) (fun s n => vSt ss s = true ∧ (∀ j, j < ss.length → (ss.getD j default).1.1 ≠ 1 → s.getD j default = st.getD j default) ∧ n0 ≤ n) (fun s => μ s) (st) ⟨J, J, J, trivial⟩ ⟨gG, gG, gG, gG, trivial⟩ ⟨hst, fun _ _ _ => rfl, om⟩ ?_
 rintro s n hF
 change WC _ _ _ _ _ (_ :: _) (_ :: _) n _
 obtain ⟨hs, hsame, hn⟩ := hF
 refine cB <| nL (z := 5) J <| gJ (aL (l := lvMo k ss) J J gG J J) J ?_
 refine gJ (aL (l := lvX d) J J gG J J) J ?_
 refine gJ (aL (l := .ref (0 + 3 + 3) 1 0 ss.length) J J gG J J) J ?_
 refine WN.G (ls := [lvMo k ss, lvX d, .ref (0 + 3 + 3) 1 0 ss.length]) (Φ := fun r h' n' => ∃ xs : List X, r = .sl 1 (xs.map xc) ∧ xs.length = ss.length ∧ WV ss d.1 s (vl xs) ∧ (∀ x, x ∈ xs → Bd 268435456 x.1) ∧ n + 5 ≤ n' ∧ ∀ q o, getH [((0 + 3 + 4), { cells := [.ref (0 + 3 + 3) 1 0 ss.length], sz := 1, elem := (33), st := 0 }), ((0 + 3 + 3), { cells := ((s).map ic).flatten, sz := 1, elem := (3), st := 0 }), ((0 + 1), { cells := xc (d), sz := 4, elem := (102), st := 0 }), (0, { cells := [.sl k (ss.map stc)], sz := 1, elem := (24), st := 0 })] q = some o → getH h' q = some o) J Tryz.func71 J J (dF J) J ((worth_share (n + 5) [((0 + 3 + 4), { cells := [.ref (0 + 3 + 3) 1 0 ss.length], sz := 1, elem := (33), st := 0 }), ((0 + 3 + 3), { cells := ((s).map ic).flatten, sz := 1, elem := (3), st := 0 }), ((0 + 1), { cells := xc (d), sz := 4, elem := (102), st := 0 }), (0, { cells := [.sl k (ss.map stc)], sz := 1, elem := (24), st := 0 })] k ss d s (0 + 3 + 3) ⟨gG, gG, gG, gG, trivial⟩ (four_lt om om om om) gG hV hd hd0 hd1 hs).mono (by rintro x e h n' ⟨hx, h1, xs, hr, h2, h3, h4, h5⟩; exact ⟨hx, _, hr, xs, rfl, h2, h3, h4, h1, h5⟩)) ?_
 rintro r' h' n' ⟨xs, rfl, hxl, hwv, hxb, hn', hH⟩
 refine nN [((0 + 3 + 4), { cells := [.ref (0 + 3 + 3) 1 0 ss.length], sz := 1, elem := (33), st := 0 }), ((0 + 3 + 3), { cells := ((s).map ic).flatten, sz := 1, elem := (3), st := 0 }), ((0 + 1), { cells := xc (d), sz := 4, elem := (102), st := 0 }), (0, { cells := [.sl k (ss.map stc)], sz := 1, elem := (24), st := 0 })] ⟨hH _ _ gG, hH _ _ gG, hH _ _ gG, hH _ _ gG, trivial⟩ ?_
 refine gJ (gO J) J <| mU <| nL (z := 6) J <| gJ (aL (l := lvMo k ss) J J gG J J) J ?_
 refine gJ (aL (l := lvX d) J J gG J J) J ?_
 refine gJ (eB J) J <| gJ (aL (l := .ref (0 + 3 + 3) 1 0 ss.length) J J gG J J) J ?_
 refine WN.G (ls := [lvMo k ss, lvX d, .sl 1 (xs.map xc), .ref (0 + 3 + 3) 1 0 ss.length, .v (.int .i64 1)]) (Φ := fun r h' m' => ∃ (b : Bool) (s2 : List Int), r = .v (.bool b) ∧ (∀ q o, getH [((0 + 3 + 4), { cells := [.ref (0 + 3 + 3) 1 0 ss.length], sz := 1, elem := (33), st := 0 }), ((0 + 3 + 3), { cells := ((s2).map ic).flatten, sz := 1, elem := (3), st := 0 }), ((0 + 1), { cells := xc (d), sz := 4, elem := (102), st := 0 }), (0, { cells := [.sl k (ss.map stc)], sz := 1, elem := (24), st := 0 })] q = some o → getH h' q = some o) ∧ m' ≥ n' + 6 ∧ (b = false → s2 = s ∧ NoImp ss d.1 1 (vl xs)) ∧ (b = true → ∃ i j : Nat, i < ss.length ∧ (ss.getD i default).1.1 = 1 ∧ j < (ss.getD i default).2.2.length ∧ btr 1 (yl d.1 (ch ss i j) (vl xs)) (vl xs i) ∧ s2 = s.set i (j : Int))) J Tryz.func97 J J (dF J) J ((lI (n' + 6) [((0 + 3 + 4), { cells := [.ref (0 + 3 + 3) 1 0 ss.length], sz := 1, elem := (33), st := 0 }), ((0 + 3 + 3), { cells := ((s).map ic).flatten, sz := 1, elem := (3), st := 0 }), ((0 + 1), { cells := xc (d), sz := 4, elem := (102), st := 0 }), (0, { cells := [.sl k (ss.map stc)], sz := 1, elem := (24), st := 0 })] k 1 ss d xs s 1 (0 + 3 + 3) ⟨gG, gG, gG, gG, trivial⟩ (four_lt om om om om) gG hV hd hxl (gR hs) 268435456 (by decide) (by decide) hxb).mono (by
  rintro x e h n' ⟨hx, h1, (⟨hr, hni, h2⟩ | ⟨i, j, hr, hi, ho, hj, hb, hq, h2⟩)⟩
  ·exact ⟨hx, _, hr, false, s, rfl, h2, h1, fun _ => ⟨rfl, hni⟩, fun h => by cases h⟩
  ·exact ⟨hx, _, hr, true, _, rfl, four_set hq (fun q o hq => h2 q o hq) om om om, h1, fun h => (by cases h), fun _ => ⟨i, j, hi, ho, hj, hb, rfl⟩⟩)) ?_
 rintro r' h' m' ⟨b, s2, rfl, hH, hm', hbF, hbT⟩
 refine nN [((0 + 3 + 4), { cells := [.ref (0 + 3 + 3) 1 0 ss.length], sz := 1, elem := (33), st := 0 }), ((0 + 3 + 3), { cells := ((s2).map ic).flatten, sz := 1, elem := (3), st := 0 }), ((0 + 1), { cells := xc (d), sz := 4, elem := (102), st := 0 }), (0, { cells := [.sl k (ss.map stc)], sz := 1, elem := (24), st := 0 })] ⟨hH _ _ gG, hH _ _ gG, hH _ _ gG, hH _ _ gG, trivial⟩ ?_
 refine WN.B (fun h13 => ?_) (fun h13 => ?_)
 rotate_left
 ·refine gJ (eA J) J <| mU <| bR J <| Rg 2 J <| Um J J <| Ua J J <| Nk [3] J <| aO <| dP <| bG <| dP ?_
  obtain ⟨rfl, hni⟩ := hbF h13
  exact ⟨.inr J, om, s2, xs, rfl, hs, hxl, hwv, hni, hsame, hxb, fun q o hq => hq⟩
 refine gJ (eA J) J <| mU <| bT J <| bY <| cG <| aD ?_
 obtain ⟨i, j, hi, ho, hj, hb, rfl⟩ := hbT h13
 unfold btr at hb
 rw [if_pos rfl] at hb
 have hs2 := vSt_set hs hj
 obtain ⟨_, _, ys, _, _, hys, _⟩ := worth_run k 0 ss d _ hV hd hd0 hd1 hs2
 obtain ⟨h5, h6⟩ := imp1 hD hs hi hj hwv hb hys
 refine ⟨s.set i (j : Int), ⟨J, J, J, trivial⟩, ⟨gG, gG, gG, gG, trivial⟩, ⟨hs2, fun a ha hoa => ?_, om⟩, hμ _ _ _ _ i hs2 hs hys hwv h5 hi h6⟩
 rw [lP (by rw [gR hs]; exact hi), if_neg (fun e => hoa (by rw [← e]; exact ho))]
 exact hsame a ha hoa
theorem values_run (k : Nat) (ss : List Go.Ab.ST) (d : X) (hV : VMo ss = true) (hd : Bd 2 d.1) (hd0 : 0 < d.1) (hd1 : d.1 < 1) : ∃ r, Run Tryz.prog T E0 (.call 60 [lvMo k ss, lvX d] r) ∧ ∃ (st : List Int) (xs : List X), r = .sl 1 (xs.map xc) ∧ vSt ss st = true ∧ xs.length = ss.length ∧ WV ss d.1 st (vl xs) ∧ Val ss d.1 (vl xs) ∧ ∀ x, x ∈ xs → Bd 268435456 x.1 := by
 have hD := iP hV hd0 hd1
 have hV1 := iO hV
 have hn40 := hV1.wt.len
 obtain ⟨μ, M, hM, hμ⟩ := rank0 hD
 have hz0 : vSt ss (List.replicate ss.length 0) = true := by
  unfold vSt
  rw [decide_eq_true (by simp), Bool.true_and]
  refine fO fun i hi => ?_
  rw [List.length_replicate] at hi
  have := hV1.cs _ (bE (us := ss) hi)
  rw [show (List.replicate ss.length (0 : Int)).getD i default = 0 by rw [List.getD_eq_getElem?_getD, List.getElem?_replicate, if_pos hi]; rfl, decide_eq_true (by decide), decide_eq_true om]; rfl
 refine eP Tryz.func60 J J (dF J) <| Rg 3 J <| aY (dK J J) J <| aY (dK J J) J <| Ua J J <| Wn <| Rg 6 J <| aA (bC J J J J J) J <| aA (aL J J gG J J) J ?_
 refine aA (aX J J) J <| aY (oMk (a := ss.length) (b := ss.length) J J J J (by simp) (by simp) (by decide) om (by show 8 * ss.length ≤ _; omega) om) J <| aY (dO J) J <| bA (cC (cs' := [_]) J J J g0 J J J J) <| Wn <| Rg 2 J <| aA (oMf J) J <| Ua J J <| Wn <| cB <| aZ (α := (List Int) × Nat) (fun ⟨s, g⟩ => [(2, .ptr 0 0), (3, .ptr (0 + 1) 0), (5, .ptr (0 + 3 + 4) 0), (6, .fn (.func 96) [] [.ptr 0 0, .ptr (0 + 1) 0, .ptr (0 + 3 + 4) 0])]) (fun ⟨s, g⟩ => [((0 + 3 + 4), { cells := [.ref (0 + 3 + 3) 1 0 ss.length], sz := 1, elem := (33), st := 0 }), ((0 + 3 + 3), { cells := ((s).map ic).flatten, sz := 1, elem := (3), st := 0 }), ((0 + 1), { cells := xc (d), sz := 4, elem := (102), st := 0 }), (0, { cells := [.sl k (ss.map stc)], sz := 1, elem := (24), st := 0 })]) (fun ⟨s, g⟩ n => vSt ss s = true ∧ (∀ (s2 : List Int) (u : Nat → Rat), vSt ss s2 = true → WV ss d.1 s2 u → NoImp ss d.1 1 u → (∀ j, j < ss.length → (ss.getD j default).1.1 ≠ 1 → s2.getD j default = s.getD j default) → μ s2 < g) ∧ 9 ≤ n) (fun ⟨s, g⟩ => g) (List.replicate ss.length 0, M) ⟨J, J, J, J, trivial⟩ ⟨gG, g0' gG (by rw [List.map_replicate]; rfl), gG, gG, trivial⟩ ⟨hz0, fun s2 _ _ _ _ _ => hM s2, om⟩ ?_
 rintro ⟨s, g⟩ n hF
 change WC _ _ _ _ _ (_ :: _) (_ :: _) n _
 obtain ⟨hs, hfu, hn⟩ := hF
 refine cB <| nL (z := 3) J <| gJ (eB J) J <| WN.Gv (first := []) (cap := [.ptr 0 0, .ptr (0 + 1) 0, .ptr (0 + 3 + 4) 0]) (ls := []) (Φ := fun r h' n' => ∃ (s' : List Int) (xs : List X), r = .sl 1 (xs.map xc) ∧ vSt ss s' = true ∧ xs.length = ss.length ∧ WV ss d.1 s' (vl xs) ∧ NoImp ss d.1 1 (vl xs) ∧ (∀ j, j < ss.length → (ss.getD j default).1.1 ≠ 1 → s'.getD j default = s.getD j default) ∧ (∀ x, x ∈ xs → Bd 268435456 x.1) ∧ n + 3 ≤ n' ∧ ∀ q o, getH [((0 + 3 + 4), { cells := [.ref (0 + 3 + 3) 1 0 ss.length], sz := 1, elem := (33), st := 0 }), ((0 + 3 + 3), { cells := ((s').map ic).flatten, sz := 1, elem := (3), st := 0 }), ((0 + 1), { cells := xc (d), sz := 4, elem := (102), st := 0 }), (0, { cells := [.sl k (ss.map stc)], sz := 1, elem := (24), st := 0 })] q = some o → getH h' q = some o) J J Tryz.func96 J J (dF J) J ((answer_share (n + 3) om k ss d s hV hd hd0 hd1 hs).mono (by rintro x e h n' ⟨hx, h1, s', xs, hr, h2, h3, h4, h5, h6, h7, h8⟩; exact ⟨hx, _, hr, s', xs, rfl, h2, h3, h4, h5, h6, h7, h1, h8⟩)) ?_
 rintro r' h' n' ⟨s', xs, rfl, hs', hxl, hwv, hn1, hsame, hxb, hn', hH⟩
 refine nN [((0 + 3 + 4), { cells := [.ref (0 + 3 + 3) 1 0 ss.length], sz := 1, elem := (33), st := 0 }), ((0 + 3 + 3), { cells := ((s').map ic).flatten, sz := 1, elem := (3), st := 0 }), ((0 + 1), { cells := xc (d), sz := 4, elem := (102), st := 0 }), (0, { cells := [.sl k (ss.map stc)], sz := 1, elem := (24), st := 0 })] ⟨hH _ _ gG, hH _ _ gG, hH _ _ gG, hH _ _ gG, trivial⟩ ?_
 refine gJ (gO J) J <| mU <| nL (z := 6) J <| gJ (aL (l := lvMo k ss) J J gG J J) J ?_
 refine gJ (aL (l := lvX d) J J gG J J) J ?_
 refine gJ (eB J) J <| gJ (aL (l := .ref (0 + 3 + 3) 1 0 ss.length) J J gG J J) J ?_
 refine WN.G (ls := [lvMo k ss, lvX d, .sl 1 (xs.map xc), .ref (0 + 3 + 3) 1 0 ss.length, .v (.int .i64 0)]) (Φ := fun r h' m' => ∃ (b : Bool) (s2 : List Int), r = .v (.bool b) ∧ (∀ q o, getH [((0 + 3 + 4), { cells := [.ref (0 + 3 + 3) 1 0 ss.length], sz := 1, elem := (33), st := 0 }), ((0 + 3 + 3), { cells := ((s2).map ic).flatten, sz := 1, elem := (3), st := 0 }), ((0 + 1), { cells := xc (d), sz := 4, elem := (102), st := 0 }), (0, { cells := [.sl k (ss.map stc)], sz := 1, elem := (24), st := 0 })] q = some o → getH h' q = some o) ∧ m' ≥ n' + 6 ∧ (b = false → s2 = s' ∧ NoImp ss d.1 0 (vl xs)) ∧ (b = true → ∃ i j : Nat, i < ss.length ∧ (ss.getD i default).1.1 = 0 ∧ j < (ss.getD i default).2.2.length ∧ btr 0 (yl d.1 (ch ss i j) (vl xs)) (vl xs i) ∧ s2 = s'.set i (j : Int))) J Tryz.func97 J J (dF J) J ((lI (n' + 6) [((0 + 3 + 4), { cells := [.ref (0 + 3 + 3) 1 0 ss.length], sz := 1, elem := (33), st := 0 }), ((0 + 3 + 3), { cells := ((s').map ic).flatten, sz := 1, elem := (3), st := 0 }), ((0 + 1), { cells := xc (d), sz := 4, elem := (102), st := 0 }), (0, { cells := [.sl k (ss.map stc)], sz := 1, elem := (24), st := 0 })] k 1 ss d xs s' 0 (0 + 3 + 3) ⟨gG, gG, gG, gG, trivial⟩ (four_lt om om om om) gG hV hd hxl (gR hs') 268435456 (by decide) (by decide) hxb).mono (by
  rintro x e h n' ⟨hx, h1, (⟨hr, hni, h2⟩ | ⟨i, j, hr, hi, ho, hj, hb, hq, h2⟩)⟩
  ·exact ⟨hx, _, hr, false, s', rfl, h2, h1, fun _ => ⟨rfl, hni⟩, fun h => by cases h⟩
  ·exact ⟨hx, _, hr, true, _, rfl, four_set hq (fun q o hq => h2 q o hq) om om om, h1, fun h => (by cases h), fun _ => ⟨i, j, hi, ho, hj, hb, rfl⟩⟩)) ?_
 rintro r' h' m' ⟨b, s2, rfl, hH, hm', hbF, hbT⟩
 refine nN [((0 + 3 + 4), { cells := [.ref (0 + 3 + 3) 1 0 ss.length], sz := 1, elem := (33), st := 0 }), ((0 + 3 + 3), { cells := ((s2).map ic).flatten, sz := 1, elem := (3), st := 0 }), ((0 + 1), { cells := xc (d), sz := 4, elem := (102), st := 0 }), (0, { cells := [.sl k (ss.map stc)], sz := 1, elem := (24), st := 0 })] ⟨hH _ _ gG, hH _ _ gG, hH _ _ gG, hH _ _ gG, trivial⟩ ?_
 refine WN.B (fun h19 => ?_) (fun h19 => ?_)
 ·refine gJ (eA J) J <| mU <| bT J <| bY <| cG <| aD ?_
  obtain ⟨i, j, hi, ho, hj, hb, rfl⟩ := hbT h19
  unfold btr at hb
  rw [if_neg (by decide)] at hb
  refine ⟨⟨s'.set i (j : Int), μ s'⟩, ⟨J, J, J, J, trivial⟩, ⟨gG, gG, gG, gG, trivial⟩, ⟨vSt_set hs' hj, fun s2 u h1 h2 h3 h4 => ?_, om⟩, hfu s' _ hs' hwv hn1 hsame⟩
  obtain ⟨h5, h6⟩ := imp0 hD hs' h1 hi om hj hwv hn1 hb h4 h2
  exact hμ _ _ _ _ i h1 hs' h2 hwv h5 hi h6
 refine gJ (eA J) J <| mU <| bR J <| Rg 2 J <| Um J J <| Ua J J <| Nk [4] J <| aO <| dP <| bG <| dP ?_
 obtain ⟨rfl, hn0⟩ := hbF h19
 exact ⟨.sl 1 (xs.map xc), ⟨s2, xs, rfl, hs', hxl, hwv, val_of (fun x hx => by have := hV1.own x hx; omega) hs' hwv hn0 hn1, hxb⟩, post (n := 0) (.inr J) J J (.sl _ _ fun row hr => bO qZ row hr)⟩
end Go.Proofs.YtahljdjhhapngaaGreat
namespace Go.Proofs.YtahljdjhhapngaaGreat
open Go.Ab Go.RowKit
theorem kD {ns : List NM} (h : (ns.any fun a => !vn a) = false) : ns.all vn = true := by
 rw [← any_not, h]; rfl
theorem xyl_v' {x : Go.Ab.ST} {d : X} {vx : List X} {k : Nat} : (xyl (x.2.2.getD k default) d vx).1 = ysF x d.1 (vl vx) k := xyl_v _ _ _
theorem e86 {h : Hp} {q : Nat} {a b : Ob} (h1 : getH h q = some a) (h2 : a = b) : getH h q = some b := by rw [h1, h2]
theorem best_run (x : Go.Ab.ST) (d : X) (kv : Nat) (vx : List X) (n0 : Nat) (hcs : 1 ≤ x.2.2.length ∧ x.2.2.length ≤ 8) (hvb : ∀ c, c ∈ x.2.2 → VN c.1 ∧ VB n0 c.2.2) (hd : Bd 2 d.1) (hl : vx.length = n0) (β : Nat) (h1β : 1 ≤ β) (hβ : β ≤ 2147483648) (hv : ∀ x, x ∈ vx → Bd β x.1) : Run Tryz.prog T E0 (.call 62 [.agg (stc x), lvX d, .sl kv (vx.map xc)] (.tup [lvX (xyl (x.2.2.getD (bsK x d.1 (vl vx)) default) d vx), .v (.int .i64 ((bsK x d.1 (vl vx) : Nat) : Int))])) := by
 refine bF Tryz.func62 J J (dF J) <| Rg 4 J <| aY (dK J J) J <| aY (dK J J) J <| aY (dO J) J <| Ua J J <| Wn <| Rg 4 J <| aA (bC J J J J J) J <| aA (aL J J gG J J) J ?_
 refine aA (aJ J (wants_run x.1.1) (bM (by intro c hc; simp only [List.mem_cons, List.not_mem_nil, or_false] at hc; rcases hc with rfl; exact .v _))) J <| Ua J J <| cJ ?_
 have h0m := bE (us := x.2.2) (i := 0) om
 obtain ⟨hr0, hb0⟩ := hvb _ h0m
 refine bJ (z := 10) J kR <| aC (bC J J J J J) J <| aC (aL J J gG J J) J ?_
 refine aC (bS (j := 0) J J J J J om J) J <| aC (dC (l := lvC (x.2.2.getD 0 default)) J J J) J <| aC (aL (l := lvX d) J J gG J J) J ?_
 refine Dm J J <| aC (aJ J (pX (x.2.2.getD 0 default) d kv vx n0 hr0 hb0 hd hl β h1β hβ hv) (bM (by intro c hc; simp only [List.mem_cons, List.not_mem_nil, or_false] at hc; rcases hc with rfl | rfl | rfl; exact jB; exact jB; exact (.sl _ _ fun row hr => bO qZ row hr)))) J <| WD.S (dO J) J <| bZ (cC (cs' := xc (xyl (x.2.2.getD 0 default) d vx)) J J J g0 J J J J) <| aC (gO J) J <| bD (aP kR) J <| Ck [2,3,4,6,8,9,10] J <| aB <| Rg 4 J <| aA (bC J J J J J) J <| aA (aL J J gG J J) J ?_
 refine aA (aX J J) J <| Um J J <| Wn <| aK <| aZ (α := Nat) (fun i => [(2, .sl kv (vx.map xc)), (4, .ptr (0 + 1) 0), (6, .ptr (0 + 2) 0), (8, .fn (.func (if x.1.1 = 1 then 122 else 76)) [] []), (9, .ptr (0 + 4 + 4 + 7) 0), (10, .v (.int .i64 (((bkF x.1.1 (ysF x d.1 (vl vx)) i) : Nat) : Int))), (26, .sl x.2.1 (x.2.2.map chc)), (27, .v (.int .i64 (x.2.2.length : Int))), (28, .v (.int .i64 (i : Int)))]) (fun i => [((0 + 4 + 4 + 7), { cells := xc (xyl (x.2.2.getD (bkF x.1.1 (ysF x d.1 (vl vx)) i) default) d vx), sz := 4, elem := (102), st := 0 }), ((0 + 2), { cells := xc (x0), sz := 4, elem := (102), st := 0 }), ((0 + 1), { cells := xc (d), sz := 4, elem := (102), st := 0 })]) (fun i n => i ≤ x.2.2.length ∧ 20 ≤ n) (fun i => x.2.2.length - i) (0) ⟨J, J, J, J, J, J, J, J, J, trivial⟩ ⟨gG, gG, gG, trivial⟩ ⟨Nat.zero_le _, om⟩ ?_
 rintro i n hF
 change WC _ _ _ _ _ (_ :: _) (_ :: _) n _
 obtain ⟨hi, hn⟩ := hF
 refine Rg 1 J <| aA (bQ J J) J <| aW (fun h29 => ?_) (fun h29 => ?_)
 rotate_left
 ·refine Wn <| aU J <| aV <| aR <| aQ J <| Rg 4 J <| aA (aL (l := lvX (xyl (x.2.2.getD (bkF x.1.1 (ysF x d.1 (vl vx)) i) default) d vx)) J J gG J J) J ?_
  refine Um J J <| bA (cC (cs' := xc (xyl (x.2.2.getD (bkF x.1.1 (ysF x d.1 (vl vx)) i) default) d vx)) J J J gG J J J J) ?_
  refine Ua J J <| Wn <| aO ?_
  have hin : i = x.2.2.length := by omega
  subst hin
  refine post (n := 0) (.inr J) J J (.tup _ ?_)
  intro c hc
  simp only [List.mem_cons, List.not_mem_nil, or_false] at hc
  rcases hc with rfl | rfl
  ·exact jB
  ·exact .v _
 refine Wn <| aT J <| aF <| aK ?_
 have him := bE (us := x.2.2) (i := i) om
 obtain ⟨hri, hbi⟩ := hvb _ him
 have hyb := xyl_bd hri hbi hd h1β hv
 have hbl : (bkF x.1.1 (ysF x d.1 (vl vx)) i) < x.2.2.length := by
  rcases Nat.eq_zero_or_pos i with h | h
  ·rw [h]; show 0 < _; omega
  ·have := oZ (p := x.1.1) (ys := (ysF x d.1 (vl vx))) i h; omega
 obtain ⟨hrb, hbb⟩ := hvb _ (bE (us := x.2.2) hbl)
 have hyb2 := xyl_bd hrb hbb hd h1β hv
 refine Rg 6 J <| Um J J <| aA (bS J J J J J om J) J <| aA (dC (l := lvC (x.2.2.getD i default)) J J J) J <| aY (dO J) J <| Ua J J <| bA (cC (cs' := chc (x.2.2.getD i default)) J J J g0 J J J J) <| Nk [2,4,6,8,9,10,11,12,26,27,28] J <| Rg 6 J <| aA (aL (l := lvC (x.2.2.getD i default)) J J gG J J) J ?_
 refine aA (aL (l := lvX d) J J gG J J) J ?_
 refine Um J J <| aA (aJ J (pX (x.2.2.getD i default) d kv vx n0 hri hbi hd hl β h1β hβ hv) (bM (by intro c hc; simp only [List.mem_cons, List.not_mem_nil, or_false] at hc; rcases hc with rfl | rfl | rfl; exact jB; exact jB; exact (.sl _ _ fun row hr => bO qZ row hr)))) J <| aY (dO J) J <| bA (cC (cs' := xc (xyl (x.2.2.getD i default) d vx)) J J J g0 J J J J) <| Nk [2,4,6,8,9,10,11,13,26,27,28] J <| aB <| Rg 5 J <| Um J J <| aA (aL (l := lvX (xyl (x.2.2.getD i default) d vx)) J J gG J J) J ?_
 refine aA (aL (l := lvX (xyl (x.2.2.getD (bkF x.1.1 (ysF x d.1 (vl vx)) i) default) d vx)) J J gG J J) J ?_
 refine aA (oCallVD J J (cmpf_run x.1.1 (xyl (x.2.2.getD i default) d vx) (xyl (x.2.2.getD (bkF x.1.1 (ysF x d.1 (vl vx)) i) default) d vx) (hyb.mono om) (hyb2.mono om)) (data3 d0 (by intro c hc; simp only [List.mem_cons, List.not_mem_nil, or_false] at hc; rcases hc with rfl | rfl; exact jB; exact jB) d0)) J <| Ua J J <| Nk [2,4,6,8,9,10,11,13,14,26,27,28] J <| aK <| aK <| cB <| aB <| aB <| Rg 3 J <| Um J J <| aA (eC J J) J <| aW (fun h43 => ?_) (fun h43 => ?_)
 ·refine Ua J J <| Nk [2,4,6,8,9,10,11,13,14,26,27,28,41] J <| aT J <| aV <| eZ J <| aE <| aV <| lC J <| aQ J <| aH (z := 2) J <| aA (cI (((i + 1 : Nat) : Int)) (aS J J om) om) J <| Um J J <| Wn <| aD ?_
  have eb : (bkF x.1.1 (ysF x d.1 (vl vx)) (i + 1)) = (bkF x.1.1 (ysF x d.1 (vl vx)) i) := by rw [show i = 0 by omega, bkF_one]; rfl
  refine ⟨i + 1, ⟨rfl, rfl, rfl, rfl, rfl, congrArg (fun z : Nat => some (LV.v (.int .i64 (z : Int)))) eb.symm, rfl, rfl, rfl, trivial⟩, ⟨e86 gG (by rw [eb]), gG, gG, trivial⟩, ⟨om, om⟩, by show x.2.2.length - (i + 1) < x.2.2.length - i; omega⟩
 refine Ua J J <| Nk [2,4,6,8,9,10,11,13,14,26,27,28,41] J <| aU J <| aF <| aB <| Rg 3 J <| Um J J <| aA (qS J J) J <| aW (fun h46 => ?_) (fun h46 => ?_)
 ·refine Ua J J <| Nk [2,4,6,8,9,10,11,13,26,27,28,44] J <| aT J <| aV <| fZ J <| aQ J <| aV <| lC J <| aQ J <| aH (z := 2) J <| aA (cI (((i + 1 : Nat) : Int)) (aS J J om) om) J <| Um J J <| Wn <| aD ?_
  have eb : (bkF x.1.1 (ysF x d.1 (vl vx)) (i + 1)) = (bkF x.1.1 (ysF x d.1 (vl vx)) i) := mW fun hb => by have := oS.2 hb; rw [← xyl_v', ← xyl_v'] at this; omega
  refine ⟨i + 1, ⟨rfl, rfl, rfl, rfl, rfl, congrArg (fun z : Nat => some (LV.v (.int .i64 (z : Int)))) eb.symm, rfl, rfl, rfl, trivial⟩, ⟨e86 gG (by rw [eb]), gG, gG, trivial⟩, ⟨om, om⟩, by show x.2.2.length - (i + 1) < x.2.2.length - i; omega⟩
 refine Ua J J <| Nk [2,4,6,8,9,10,11,13,26,27,28,44] J <| aU J <| aF <| qU <| fZ J <| lC J <| aQ J <| aH (z := 4) J <| aA (aL (l := lvX (xyl (x.2.2.getD i default) d vx)) J J gG J J) J ?_
 refine Um J J <| bA (cC (cs' := xc (xyl (x.2.2.getD i default) d vx)) J J J gG J J J J) ?_
 refine Ua J J <| Wn <| aE <| aH (z := 2) J <| aA (cI (((i + 1 : Nat) : Int)) (aS J J om) om) J <| Um J J <| Wn <| aD ?_
 have eb : (bkF x.1.1 (ysF x d.1 (vl vx)) (i + 1)) = i := nR (by have h7 : 0 < sgnF x.1.1 (xyl (x.2.2.getD i default) d vx).1 (xyl (x.2.2.getD (bkF x.1.1 (ysF x d.1 (vl vx)) i) default) d vx).1 := om; have h8 := oS.1 h7; rwa [xyl_v', xyl_v'] at h8)
 refine ⟨i + 1, ⟨rfl, rfl, rfl, rfl, rfl, congrArg (fun z : Nat => some (LV.v (.int .i64 (z : Int)))) eb.symm, rfl, rfl, rfl, trivial⟩, ⟨e86 gG (by rw [eb]), gG, gG, trivial⟩, ⟨om, om⟩, by show x.2.2.length - (i + 1) < x.2.2.length - i; omega⟩
theorem askv_run (a : NM) (h1 : I64 a.1) (h2 : I64 a.2) : Run Tryz.prog T E0 (.call 93 [lvM a] (.v (.bool (!vn a)))) := by
 refine bF Tryz.func93 J J (dF J) <| Rg 2 J <| aY (dK J J) J <| Ua J J <| Wn <| Rg 4 J <| aA (aL (l := lvM a) J J gG J J) J ?_
 refine aA (aJ J (iW a h1 h2) dD) J <| aA (eA J) J <| Ua J J <| Wn <| aO <| post (n := 0) (.inr J) J ?_ dD
 rfl
theorem chkv_run (a : NM) (h1 : I64 a.1) (h2 : I64 a.2) : Run Tryz.prog T E0 (.call 73 [lvM a] (.v (.bool (!vn a)))) := by
 refine bF Tryz.func73 J J (dF J) <| Rg 2 J <| aY (dK J J) J <| Ua J J <| Wn <| Rg 4 J <| aA (aL (l := lvM a) J J gG J J) J ?_
 refine aA (aJ J (iW a h1 h2) dD) J <| aA (eA J) J <| Ua J J <| Wn <| aO <| post (n := 0) (.inr J) J ?_ dD
 rfl
theorem mX (k kn : Nat) (ss : List Go.Ab.ST) (f : NM) (ns : List NM) (hI : ∀ s, s ∈ ss → IS s) (hf1 : I64 f.1) (hf2 : I64 f.2) (hns : IV ns) (ln : ns.length < 1099511627776) : Run Tryz.prog T E0 (.call 58 [lvMo k ss, lvM f, .sl kn (ns.map mc)] (.v (.int .i64 (eD ss f ns)))) := by
 refine bF Tryz.func58 J J (dF J) <| Rg 3 J <| aY (dK J J) J <| aY (dK J J) J <| Ua J J <| Wn <| aK <| Rg 13 J <| aA (aL (l := lvMo k ss) J J gG J J) J ?_
 refine aA (aJ J (mvmodel_run k ss hI) dD) J <| eK (fun h9 => ?_) (fun h9 => ?_)
 rotate_left
 ·refine aA (eA J) J <| Um J J <| K1 J J <| K1 J J <| K1 J J <| aA (bL J J) J <| Um J J <| K1 J J <| K1 J J <| aA (bL J J) J <| Ua J J <| Nk [4,7] J <| bR J <| Rg 1 J <| Ua J J <| Wn <| aO <| aM <| post (n := 0) (.inr J) J ?_ dD
  exact congrArg (fun z => LV.v (.int .i64 z)) (show 1 = (eD ss f ns) by unfold eD; rw [if_neg (fun h => by rw [h9] at h; cases h.1)])
 refine aA (eA J) J <| Um J J <| aI J (aL (l := lvM f) J J gG J J) J ?_
 refine aI J (aJ J (iW f hf1 hf2) dD) J <| eK (fun h13 => ?_) (fun h13 => ?_)
 rotate_left
 ·refine aI J (eA J) J <| aA (bN J J) J <| Um J J <| K1 J J <| K1 J J <| aA (bL J J) J <| Ua J J <| Nk [4,7] J <| bR J <| Rg 1 J <| Ua J J <| Wn <| aO <| aM <| post (n := 0) (.inr J) J ?_ dD
  exact congrArg (fun z => LV.v (.int .i64 z)) (show 1 = (eD ss f ns) by unfold eD; rw [if_neg (fun h => absurd h.2.1 (of_decide_eq_false h13))])
 refine aI J (eA J) J <| aA (bN J J) J <| Um J J <| aI J (eB J) J <| aI J (aJ J (con1_run kn ns 93 [] (fun a => !vn a) d0 om (fun a ha => askv_run a (hns a ha).1 (hns a ha).2)) (bM (by intro c hc; simp only [List.mem_cons, List.not_mem_nil, or_false] at hc; rcases hc with rfl | rfl; exact (.sl _ _ fun row hr => bO dmc row hr); exact dfn d0 d0))) J <| eK (fun h18 => ?_) (fun h18 => ?_)
 ·refine aA (bN J J) J <| Ua J J <| Nk [4,7] J <| bR J <| Rg 1 J <| Ua J J <| Wn <| aO <| aM <| post (n := 0) (.inr J) J ?_ dD
  exact congrArg (fun z => LV.v (.int .i64 z)) (show 1 = (eD ss f ns) by unfold eD; rw [if_neg (fun h => by have h7 := any_not vn ns; rw [h18, h.2.2] at h7; cases h7)])
 refine aA (bN J J) J <| Ua J J <| Nk [4,7] J <| bT J <| Rg 11 J <| aA (bC J J J J J) J <| aA (aL J J gG J J) J ?_
 refine aA (qS J J) J <| aW (fun h23 => ?_) (fun h23 => ?_)
 ·refine Um J J <| K1 J J <| K1 J J <| K1 J J <| K1 J J <| K1 J J <| aA (bL J J) J <| Ua J J <| Wn <| bR J <| Rg 1 J <| Ua J J <| Wn <| aO <| aM <| post (n := 0) (.inr J) J ?_ dD
  exact congrArg (fun z => LV.v (.int .i64 z)) (show 6 = (eD ss f ns) by unfold eD; rw [if_pos ⟨h9, of_decide_eq_true h13, kD h18⟩, if_neg om])
 refine Um J J <| aI J (bC J J J J J) J <| aI J (aL J J gG J J) J ?_
 refine aI J (bC J J J J J) J <| aI J (aL J J gG J J) J ?_
 refine aI J (gY J J) J <| aW (fun h29 => ?_) (fun h29 => ?_)
 ·refine aA (bN J J) J <| Ua J J <| Wn <| bR J <| Rg 1 J <| Ua J J <| Wn <| aO <| aM <| post (n := 0) (.inr J) J ?_ dD
  exact congrArg (fun z => LV.v (.int .i64 z)) (show 6 = (eD ss f ns) by unfold eD; rw [if_pos ⟨h9, of_decide_eq_true h13, kD h18⟩, if_neg om])
 refine aA (bN J J) J <| Ua J J <| Wn <| bT J <| bY <| aE <| Rg 1 J <| Ua J J <| Wn <| aO <| post (n := 0) (.inr J) J ?_ dD
 exact congrArg (fun z => LV.v (.int .i64 z)) (show 0 = (eD ss f ns) by unfold eD; rw [if_pos ⟨h9, of_decide_eq_true h13, kD h18⟩, if_pos om])
end Go.Proofs.YtahljdjhhapngaaGreat
namespace Go.Proofs.YtahljdjhhapngaaGreat
open Go.Ab Go.RowKit
theorem dchk_run (k kn : Nat) (ss : List Go.Ab.ST) (f : NM) (ns : List NM) (hI : ∀ s, s ∈ ss → IS s) (hf1 : I64 f.1) (hf2 : I64 f.2) (hns : IV ns) (ln : ns.length < 1000000) : Run Tryz.prog T E0 (.call 42 [lvMo k ss, lvM f, .sl kn (ns.map mc)] (chkO ss f ns)) := by
 refine bF Tryz.func42 J J (dF J) <| Rg 4 J <| aY (dK J J) J <| aY (dK J J) J <| Ua J J <| Ua J J <| Wn <| aB <| Rg 4 J <| aA (aL (l := lvMo k ss) J J gG J J) J ?_
 refine aA (aL (l := lvM f) J J gG J J) J ?_
 refine aA (aJ J (mX k 0 ss f [] hI hf1 hf2 (by intro a ha; cases ha) (by decide)) (bM (by intro c hc; simp only [List.mem_cons, List.not_mem_nil, or_false] at hc; rcases hc with rfl | rfl | rfl; exact jB; exact jB; exact (.sl 0 [] (by simp))))) J <| Ua J J <| Wn <| aB <| Rg 2 J <| Um J J <| aA (eL J J) J <| aW (fun h19 => ?_) (fun h19 => ?_)
 ·refine Wn <| aT J <| aB <| Rg 3 J <| Um J J <| Ua J J <| Ua J J <| Wn <| bB <| post (n := 0) (.inr J) J ?_ jP
  show _ = chkO ss f ns
  unfold chkO; rw [if_neg h19]; rfl
 refine Wn <| aU J <| aF <| aB <| Rg 10 J <| Um J J <| aA (aX J J) J <| aA (bC J J J J J) J <| aA (aL J J gG J J) J ?_
 refine aA (aX J J) J <| aA (eL J J) J <| aW (fun h26 => ?_) (fun h26 => ?_)
 ·refine Um J J <| K1 J J <| K1 J J <| aA (bL J J) J <| Nk [2,3,4,30] J <| aT J <| aB <| Rg 2 J <| Ua J J <| Ua J J <| Wn <| bB <| post (n := 0) (.inr J) J ?_ jP
  show _ = chkO ss f ns
  unfold chkO; rw [if_pos (Classical.not_not.1 h19), decide_eq_false (fun e => h26 (congrArg Int.ofNat e))]; rfl
 refine Um J J <| aI J (eB J) J <| aI J (aJ J (con1_run kn ns 73 [] (fun a => !vn a) d0 om (fun a ha => chkv_run a (hns a ha).1 (hns a ha).2)) (bM (by intro c hc; simp only [List.mem_cons, List.not_mem_nil, or_false] at hc; rcases hc with rfl | rfl; exact (.sl _ _ fun row hr => bO dmc row hr); exact dfn d0 d0))) J <| eK (fun h29 => ?_) (fun h29 => ?_)
 ·refine aA (bN J J) J <| Nk [2,3,4,30] J <| aT J <| aB <| Rg 2 J <| Ua J J <| Ua J J <| Wn <| bB <| post (n := 0) (.inr J) J ?_ jP
  show _ = chkO ss f ns
  unfold chkO; rw [if_pos (Classical.not_not.1 h19), ← any_not, h29]; cases decide (ns.length = ss.length) <;> rfl
 refine aA (bN J J) J <| Nk [2,3,4,30] J <| aU J <| aF ?_
 obtain ⟨hV, hvf, hall, hf0, hf3⟩ := qA (ns := ns) (eD_full (Classical.not_not.1 h19) (kD h29))
 have hva := vn_all hall
 have hV1 := iO hV
 have hn40 := hV1.wt.len
 have hD := iP hV (qC hvf hf0 hf3).1 (qC hvf hf0 hf3).2
 have hxb := nx_bd hva
 have hvl := vl_nx ns
 have hxl : (ns.map nx).length = ss.length := by rw [List.length_map]; exact (Int.ofNat.inj (Classical.not_not.1 h26))
 refine bJ (z := 7) J kR <| Dm J J <| aC (aJ J (nrats_run kn ns om hns (fun a ha => (hva a ha).all3.2.2)) dD) J <| aC (aL (l := lvM f) J J gG J J) J ?_
 refine aC (bH (b := lvX (nx f)) (aJ J (fC f hf1 hf2 hvf.all3.2.2) dD) J) J <| WD.S (dO J) J <| aC (gO J) J <| bZ (cC (cs' := xc (nx f)) J J J g0 J J J J) <| bD (aP kR) J <| aB <| Rg 4 J <| aA (bC J J J J J) J <| aA (aL J J gG J J) J ?_
 refine aA (aX J J) J <| Um J J <| Wn <| aK <| aZ (α := Nat) (fun i => [(9, .sl (kd (ns.map nx).length) ((ns.map nx).map xc)), (10, .ptr (0 + 4 + 4 + 2 + 10 + 4) 0), (36, .sl k (ss.map stc)), (37, .v (.int .i64 (ss.length : Int))), (38, .v (.int .i64 (i : Int)))]) (fun i => [((0 + 4 + 4 + 2 + 10 + 4), { cells := xc (nx f), sz := 4, elem := (102), st := 0 })]) (fun i n => i ≤ ss.length ∧ (∀ a, a < i → (fun a : Nat => decide (bsV (ss.getD a default) (nq f) (vl (ns.map nx)) = (vl (ns.map nx)) a)) a = true) ∧ 24 < n) (fun i => ss.length - i) (0) ⟨J, J, J, J, J, trivial⟩ ⟨gG, trivial⟩ ⟨Nat.zero_le _, fun a ha => absurd ha om, om⟩ ?_
 rintro i n hF
 change WC _ _ _ _ _ (_ :: _) (_ :: _) n _
 obtain ⟨hi, hA, hn⟩ := hF
 refine Rg 1 J <| aA (bQ J J) J <| aW (fun h39 => ?_) (fun h39 => ?_)
 rotate_left
 ·refine Wn <| aU J <| aV <| aR <| aQ J <| Rg 2 J <| Ua J J <| Ua J J <| Wn <| aO <| post (n := 0) (.inr J) J ?_ jP
  show _ = chkO ss f ns
  unfold chkO isV; rw [if_pos (Classical.not_not.1 h19), ← hvl, nG hA om, hall, decide_eq_true (show ns.length = ss.length by omega)]; rfl
 refine Wn <| aT J <| aF <| aK ?_
 have hm := bE (us := ss) (i := i) om
 have hcl := hV1.cs _ hm
 refine Rg 6 J <| Um J J <| aA (bS J J J J J om J) J <| aA (dC (l := .agg (stc (ss.getD i default))) J J J) J <| aY (dO J) J <| Ua J J <| bA (cC (cs' := stc (ss.getD i default)) J J J g0 J J J J) <| Wn <| Rg 10 J <| aA (aL (l := .agg (stc (ss.getD i default))) J J gG J J) J ?_
 refine aA (aL (l := lvX (nx f)) J J gG J J) J ?_
 refine Um J J <| aA (aJ J (best_run (ss.getD i default) (nx f) (kd (ns.map nx).length) (ns.map nx) ss.length hcl (fun c hc => jJ hV hm hc) hvf.bd hxl 2 (by decide) (by decide) hxb) (bM (by intro c hc; simp only [List.mem_cons, List.not_mem_nil, or_false] at hc; rcases hc with rfl | rfl | rfl; exact (.agg _ fun c hc => dstc1 _ c hc); exact jB; exact (.sl _ _ fun row hr => bO qZ row hr)))) J <| Um J J <| aA (dT J J) J <| aA (dT J J) J <| aY (dO J) J <| bA (cC (cs' := xc (xyl ((ss.getD i default).2.2.getD (bsK (ss.getD i default) (nx f).1 (vl (ns.map nx))) default) (nx f) (ns.map nx))) J J J g0 J J J J) <| Ua J J <| Nk [9,10,11,13,36,37,38] J ?_
 have hbk := bsK_lt (d := (nx f).1) (v := (vl (ns.map nx))) (x := (ss.getD i default)) om
 obtain ⟨hrb, hvbb⟩ := jJ hV hm (bE (us := (ss.getD i default).2.2) hbk)
 have hyb := xyl_bd (d := nx f) hrb hvbb hvf.bd (by decide) hxb
 have hgb := kJ (by decide) hxb i
 have hbv : (xyl ((ss.getD i default).2.2.getD (bsK (ss.getD i default) (nx f).1 (vl (ns.map nx))) default) (nx f) (ns.map nx)).1 = bsV (ss.getD i default) (nq f) (vl (ns.map nx)) := xyl_v _ _ _
 refine bJ (z := 7) J kR <| aC (aL (l := lvX (xyl ((ss.getD i default).2.2.getD (bsK (ss.getD i default) (nx f).1 (vl (ns.map nx))) default) (nx f) (ns.map nx))) J J gG J J) J ?_
 refine Dm J J <| Dm J J <| aC (bS (j := i) J J J J om om J) J <| aC (dC (l := lvX ((ns.map nx).getD i default)) J J J) J <| aC (aJ J (oP (xyl ((ss.getD i default).2.2.getD (bsK (ss.getD i default) (nx f).1 (vl (ns.map nx))) default) (nx f) (ns.map nx)) ((ns.map nx).getD i default) (hyb.mono om) (hgb.mono om)) dD) J <| aC (eL J J) J <| kZ (fun h56 => ?_) (fun h56 => ?_)
 rotate_left
 ·refine bD (aP kR) J <| bT J <| bY <| aE <| aH (z := 2) J <| aA (cI (((i + 1 : Nat) : Int)) (aS J J om) om) J <| Um J J <| Wn <| aD <| ⟨i + 1, ⟨J, J, J, J, J, trivial⟩, ⟨gG, trivial⟩, ⟨om, fun a ha => ?_, om⟩, by show ss.length - (i + 1) < ss.length - i; omega⟩
  by_cases e : a = i
  ·rw [e]; exact decide_eq_true (by have h57 := Classical.not_not.1 h56; rw [mH, hbv, jL] at h57; exact h57)
  ·exact hA a om
 refine bD (aP kR) J <| bR J <| Rg 2 J <| Ua J J <| Ua J J <| Nk [6,7] J <| aO <| aM <| bG <| aM <| post (n := 0) (.inr J) J ?_ jP
 show _ = chkO ss f ns
 unfold chkO isV; rw [if_pos (Classical.not_not.1 h19), ← hvl, gD (i := i) om (decide_eq_false (fun e => h56 (by rw [mH, hbv, e, jL]))), Bool.and_false]; rfl
end Go.Proofs.YtahljdjhhapngaaGreat
namespace Go.Proofs.YtahljdjhhapngaaGreat
open Go.Ab Go.RowKit
theorem qfactor_run (f : NM) : Run Tryz.prog T E0 (.call 23 [lvM f] (.v (.bool (decide (0 < f.1) && decide (f.1 < f.2))))) := by
 refine bF Tryz.func23 J J (dF J) <| Rg 2 J <| aY (dK J J) J <| Ua J J <| Wn <| Rg 11 J <| aA (bC J J J J J) J <| aA (aL J J gG J J) J ?_
 refine aA (dZ J J) J <| aW (fun h5 => ?_) (fun h5 => ?_)
 ·refine Um J J <| aI J (bC J J J J J) J <| aI J (aL J J gG J J) J ?_
  refine aI J (bC J J J J J) J <| aI J (aL J J gG J J) J ?_
  refine aI J (bQ J J) J <| aA (bL J J) J <| Ua J J <| Wn <| aO <| post (n := 0) (.inr J) J ?_ dD
  exact congrArg (fun z => LV.v (.bool z)) (by simp; omega)
 refine Um J J <| K1 J J <| K1 J J <| K1 J J <| K1 J J <| K1 J J <| aA (bN J J) J <| Ua J J <| Wn <| aO <| post (n := 0) (.inr J) J ?_ dD
 exact congrArg (fun z => LV.v (.bool z)) (show false = _ by rw [decide_eq_false om]; rfl)
theorem qmean_run (c : CH) (kv : Nat) (v : List Rat) (n0 : Nat) (hc : VB n0 c.2.2) (hl : v.length = n0) (β : Nat) (h1β : 1 ≤ β) (hβ : β ≤ 2147483648) (hv : ∀ x, x ∈ v → Bd β x) : Run Tryz.prog T E0 (.call 112 [lvC c, .sl kv (v.map qc)] (lvQ (mnF c.2.2 (fn_ v) c.2.2.length))) := by
 have hcl := hc.len
 refine bF Tryz.func112 J J (dF J) <| Rg 2 J <| aY (dK J J) J <| aY (dO J) J <| Wn <| Rg 3 J <| aA (bH (b := lvQ 0) (aJ J (nC 0 I64_0) dD) J) J <| aY (dO J) J <| bA (cC (cs' := qc 0) J J J g0 J J J J) <| Wn <| aB <| Rg 4 J <| aA (bC J J J J J) J <| aA (aL J J gG J J) J ?_
 refine aA (aX J J) J <| Um J J <| Wn <| aK <| aZ (α := Nat) (fun i => [(1, .sl kv (v.map qc)), (4, .ptr (0 + 1) 0), (5, .ptr (0 + 2 + 1) 0), (10, .sl c.2.1 (c.2.2.map brc)), (11, .v (.int .i64 (c.2.2.length : Int))), (12, .v (.int .i64 (i : Int)))]) (fun i => [((0 + 2 + 1), { cells := qc ((mnF c.2.2 (fn_ v) i)), sz := 6, elem := (39), st := 0 }), ((0 + 1), { cells := [.v (.int .i64 0), .v (.bool false), .sl 0 [], .v (.int .i64 0), .v (.bool false), .sl 0 []], sz := 6, elem := (39), st := 0 })]) (fun i n => i ≤ c.2.2.length ∧ 4 ≤ n) (fun i => c.2.2.length - i) (0) ⟨J, J, J, J, J, J, trivial⟩ ⟨gG, gG, trivial⟩ ⟨Nat.zero_le _, om⟩ ?_
 rintro i n hF
 change WC _ _ _ _ _ (_ :: _) (_ :: _) n _
 obtain ⟨hi, hn⟩ := hF
 refine Rg 1 J <| aA (bQ J J) J <| aW (fun h13 => ?_) (fun h13 => ?_)
 rotate_left
 ·refine Wn <| aU J <| aV <| aR <| aQ J <| Rg 2 J <| aA (aL (l := lvQ (mnF c.2.2 (fn_ v) i)) J J gG J J) J ?_
  refine bA (cC (cs' := qc (mnF c.2.2 (fn_ v) i)) J J J gG J J J J) ?_
  refine Wn <| aO ?_
  have hin : i = c.2.2.length := by omega
  rw [← hin]
  refine post (n := 0) (.inr J) J ?_ dD
  rfl
 refine Wn <| aT J <| aF <| aK ?_
 have hto := hc.to i om
 have hvn := hc.vn i om
 have hm1 := mnF_bd hc h1β hv i hi
 have hm2 : i * (β + 3) ≤ 8 * (β + 3) := Nat.mul_le_mul_right _ om
 have hg := fn_bd h1β hv (c.2.2.getD i default).1.toNat
 refine Rg 4 J <| aA (bS J J J J J om J) J <| aA (dC (l := .agg (brc (c.2.2.getD i default))) J J J) J <| aY (dO J) J <| bA (cC (cs' := brc (c.2.2.getD i default)) J J J g0 J J J J) <| Wn <| cV (z := 12) J kR <| aC (aL (l := lvQ (mnF c.2.2 (fn_ v) i)) J J gG J J) J ?_
 refine aC (bC J J J J J) J <| aC (aL (l := lvM (c.2.2.getD i default).2) J J gG J J) J ?_
 refine aC (bH (b := lvQ (nq (c.2.2.getD i default).2)) (aJ J (kP (c.2.2.getD i default).2 hvn.all3.1 hvn.all3.2.1 hvn) dD) J) J <| Dm J J <| aC (bC J J J J J) J <| aC (aL J J gG J J) J ?_
 refine aC (bS (j := (c.2.2.getD i default).1.toNat) J J J J om om J) J <| aC (dC (l := lvQ (fn_ v (c.2.2.getD i default).1.toNat)) J J J) J <| aC (aJ J (nrmul_run (nq (c.2.2.getD i default).2) (fn_ v (c.2.2.getD i default).1.toNat) (hvn.bd.mono om) (hg.mono om)) dD) J <| aC (bH (b := lvQ (mnF c.2.2 (fn_ v) (i + 1))) (aJ J (jS (mnF c.2.2 (fn_ v) i) (nq (c.2.2.getD i default).2 * fn_ v (c.2.2.getD i default).1.toNat) (hm1.mono om) ((hvn.bd.mul hg).mono om)) dD) J) J <| bZ (cC (cs' := qc (mnF c.2.2 (fn_ v) (i + 1))) J J J gG J J J J) ?_
 refine bD (aP kR) J <| aE <| Ck [1,4,5,10,11,12] J <| aH (z := 2) J <| aA (cI (((i + 1 : Nat) : Int)) (aS J J om) om) J <| Um J J <| Wn <| aD <| ⟨i + 1, ⟨J, J, J, J, J, J, trivial⟩, ⟨gG, gG, trivial⟩, ⟨om, om⟩, by show c.2.2.length - (i + 1) < c.2.2.length - i; omega⟩
theorem qyield_run (c : CH) (d : Rat) (kv : Nat) (v : List Rat) (n0 : Nat) (hr : VN c.1) (hc : VB n0 c.2.2) (hd : Bd 2 d) (hl : v.length = n0) (β : Nat) (h1β : 1 ≤ β) (hβ : β ≤ 2147483648) (hv : ∀ x, x ∈ v → Bd β x) : Run Tryz.prog T E0 (.call 77 [lvC c, lvQ d, .sl kv (v.map qc)] (lvQ (yl d c (fn_ v)))) := by
 have hcl := hc.len
 have hm1 := mnF_bd hc h1β hv c.2.2.length (Nat.le_refl _)
 have hm2 : c.2.2.length * (β + 3) ≤ 8 * (β + 3) := Nat.mul_le_mul_right _ om
 refine bF Tryz.func77 J J (dF J) <| Rg 3 J <| aY (dK J J) J <| aY (dK J J) J <| aY (dO J) J <| Wn <| bJ (z := 10) J kR <| aC (bC J J J J J) J <| aC (aL (l := lvM c.1) J J gG J J) J ?_
 refine aC (bH (b := lvQ (nq c.1)) (aJ J (kP c.1 hr.all3.1 hr.all3.2.1 hr) dD) J) J <| aC (aL (l := lvQ d) J J gG J J) J ?_
 refine aC (aL (l := lvC c) J J gG J J) J ?_
 refine Dm J J <| aC (bH (b := lvQ (mn c (fn_ v))) (aJ J (qmean_run c kv v n0 hc hl β h1β hβ hv) (bM (by intro c hc; simp only [List.mem_cons, List.not_mem_nil, or_false] at hc; rcases hc with rfl | rfl; exact jB; exact (.sl _ _ fun row hr => bO dqc row hr)))) J) J <| aC (aJ J (nrmul_run d (mn c (fn_ v)) (hd.mono om) (hm1.mono om)) dD) J <| aC (bH (b := lvQ (yl d c (fn_ v))) (aJ J (jS (nq c.1) (d * mn c (fn_ v)) (hr.bd.mono om) ((hd.mul hm1).mono om)) dD) J) J <| bZ (cC (cs' := qc (yl d c (fn_ v))) J J J gG J J J J) ?_
 refine bD (aP kR) J <| Ck [6] J <| aO <| post (n := 0) (.inr J) J ?_ dD
 rfl
theorem qpick_run (x : Go.Ab.ST) (d : Rat) (kv : Nat) (v : List Rat) (n0 : Nat) (hown : x.1.1 = 0 ∨ x.1.1 = 1) (hcs : 1 ≤ x.2.2.length ∧ x.2.2.length ≤ 8) (hvb : ∀ c, c ∈ x.2.2 → VN c.1 ∧ VB n0 c.2.2) (hd : Bd 2 d) (hl : v.length = n0) (β : Nat) (h1β : 1 ≤ β) (hβ : β ≤ 2147483648) (hv : ∀ x, x ∈ v → Bd β x) : Run Tryz.prog T E0 (.call 57 [.agg (stc x), lvQ d, .sl kv (v.map qc)] (.tup [.v (.int .i64 ((bsK x d (fn_ v) : Nat) : Int)), lvQ (bsV x d (fn_ v))])) := by
 refine bF Tryz.func57 J J (dF J) <| Rg 4 J <| aY (dK J J) J <| aY (dK J J) J <| Ua J J <| aY (dO J) J <| cJ ?_
 have h0m := bE (us := x.2.2) (i := 0) om
 obtain ⟨hr0, hb0⟩ := hvb _ h0m
 refine bJ (z := 10) J kR <| aC (bC J J J J J) J <| aC (aL J J gG J J) J ?_
 refine aC (bS (j := 0) J J J J J om J) J <| aC (dC (l := lvC (x.2.2.getD 0 default)) J J J) J <| aC (aL (l := lvQ d) J J gG J J) J ?_
 refine Dm J J <| aC (bH (b := lvQ (ysF x d (fn_ v) 0)) (aJ J (qyield_run (x.2.2.getD 0 default) d kv v n0 hr0 hb0 hd hl β h1β hβ hv) (bM (by intro c hc; simp only [List.mem_cons, List.not_mem_nil, or_false] at hc; rcases hc with rfl | rfl | rfl; exact jB; exact jB; exact (.sl _ _ fun row hr => bO dqc row hr)))) J) J <| WD.S (dO J) J <| aC (gO J) J <| bZ (cC (cs' := qc (ysF x d (fn_ v) 0)) J J J g0 J J J J) <| bD (aP kR) J <| Ck [2,3,4,7,8,9] J <| aB <| Rg 4 J <| aA (bC J J J J J) J <| aA (aL J J gG J J) J ?_
 refine aA (aX J J) J <| Um J J <| Wn <| aK <| aZ (α := Nat) (fun i => [(2, .sl kv (v.map qc)), (3, .ptr 0 0), (4, .ptr (0 + 1) 0), (7, .ptr (0 + 3) 0), (8, .v (.int .i64 (((bkF x.1.1 (ysF x d (fn_ v)) i) : Nat) : Int))), (9, .ptr (0 + 4 + 7) 0), (22, .sl x.2.1 (x.2.2.map chc)), (23, .v (.int .i64 (x.2.2.length : Int))), (24, .v (.int .i64 (i : Int)))]) (fun i => [((0 + 4 + 7), { cells := qc ((ysF x d (fn_ v) (bkF x.1.1 (ysF x d (fn_ v)) i))), sz := 6, elem := (39), st := 0 }), ((0 + 3), { cells := [.v (.int .i64 0), .v (.bool false), .sl 0 [], .v (.int .i64 0), .v (.bool false), .sl 0 []], sz := 6, elem := (39), st := 0 }), ((0 + 1), { cells := qc (d), sz := 6, elem := (39), st := 0 }), (0, { cells := stc x, sz := 3, elem := (54), st := 0 })]) (fun i n => i ≤ x.2.2.length ∧ 14 ≤ n) (fun i => x.2.2.length - i) (0) ⟨J, J, J, J, J, J, J, J, J, trivial⟩ ⟨gG, gG, gG, gG, trivial⟩ ⟨Nat.zero_le _, om⟩ ?_
 rintro i n hF
 change WC _ _ _ _ _ (_ :: _) (_ :: _) n _
 obtain ⟨hi, hn⟩ := hF
 refine Rg 1 J <| aA (bQ J J) J <| aW (fun h25 => ?_) (fun h25 => ?_)
 rotate_left
 ·refine Wn <| aU J <| aV <| aR <| aQ J <| bJ (z := 4) J kR <| Dm J J <| aC (aL (l := lvQ (ysF x d (fn_ v) (bkF x.1.1 (ysF x d (fn_ v)) i))) J J gG J J) J ?_
  refine aC (gO J) J <| bZ (cC (cs' := qc (ysF x d (fn_ v) (bkF x.1.1 (ysF x d (fn_ v)) i))) J J J gG J J J J) ?_
  refine bD (aP kR) J <| aO ?_
  have hin : i = x.2.2.length := by omega
  subst hin
  refine post (n := 0) (.inr J) J J (dtup2 (.v _) jB)
 refine Wn <| aT J <| aF <| aK ?_
 have him := bE (us := x.2.2) (i := i) om
 obtain ⟨hri, hbi⟩ := hvb _ him
 have hyb := yl_bd hri hbi hd h1β hv
 have hbl : (bkF x.1.1 (ysF x d (fn_ v)) i) < x.2.2.length := by
  rcases Nat.eq_zero_or_pos i with h | h
  ·rw [h]; show 0 < _; omega
  ·have := oZ (p := x.1.1) (ys := (ysF x d (fn_ v))) i h; omega
 obtain ⟨hrb, hbb⟩ := hvb _ (bE (us := x.2.2) hbl)
 have hyb2 := yl_bd hrb hbb hd h1β hv
 refine Rg 6 J <| Um J J <| aA (bS J J J J J om J) J <| aA (dC (l := lvC (x.2.2.getD i default)) J J J) J <| aY (dO J) J <| Ua J J <| bA (cC (cs' := chc (x.2.2.getD i default)) J J J g0 J J J J) <| Nk [2,3,4,7,8,9,10,11,22,23,24] J <| Rg 6 J <| aA (aL (l := lvC (x.2.2.getD i default)) J J gG J J) J ?_
 refine aA (aL (l := lvQ d) J J gG J J) J ?_
 refine Um J J <| aA (bH (b := lvQ (ysF x d (fn_ v) i)) (aJ J (qyield_run (x.2.2.getD i default) d kv v n0 hri hbi hd hl β h1β hβ hv) (bM (by intro c hc; simp only [List.mem_cons, List.not_mem_nil, or_false] at hc; rcases hc with rfl | rfl | rfl; exact jB; exact jB; exact (.sl _ _ fun row hr => bO dqc row hr)))) J) J <| aY (dO J) J <| bA (cC (cs' := qc (ysF x d (fn_ v) i)) J J J g0 J J J J) <| Nk [2,3,4,7,8,9,10,12,22,23,24] J <| Rg 4 J <| aA (aL (l := lvQ (ysF x d (fn_ v) i)) J J gG J J) J ?_
 refine aA (aL (l := lvQ (ysF x d (fn_ v) (bkF x.1.1 (ysF x d (fn_ v)) i))) J J gG J J) J ?_
 refine aA (aJ J (pO (ysF x d (fn_ v) i) (ysF x d (fn_ v) (bkF x.1.1 (ysF x d (fn_ v)) i)) (hyb.mono om) (hyb2.mono om)) dD) J <| Ua J J <| Nk [2,3,4,7,8,9,10,12,13,22,23,24] J <| Rg 16 J <| aA (bC J J J J J) J <| aA (aL J J gG J J) J ?_
 refine aA (eC J J) J <| aW (fun h38 => ?_) (fun h38 => ?_)
 rotate_left
 ·refine Um J J <| K1 J J <| K1 J J <| aA (bN J J) J <| Um J J <| aI J (bC J J J J J) J <| aI J (aL J J gG J J) J ?_
  refine aI J (eC J J) J <| aW (fun h46 => ?_) (fun h46 => ?_)
  rotate_left
  ·refine aI J (eB J) J <| K1 J J <| K1 J J <| aI J (bN J J) J <| aA (bN J J) J <| Nk [2,3,4,7,8,9,10,12,22,23,24,40,41,44,45,46,47,48,49,50,51] J <| bT J <| bY <| aE <| Ck [2,3,4,7,8,9,22,23,24,40,41,44,45,46,47,48,49,50] J <| aH (z := 2) J <| aA (cI (((i + 1 : Nat) : Int)) (aS J J om) om) J <| Um J J <| Wn <| aD ?_
   have eb : (bkF x.1.1 (ysF x d (fn_ v)) (i + 1)) = (bkF x.1.1 (ysF x d (fn_ v)) i) := mW (rL (fun _ => by omega) (fun _ => by omega))
   refine ⟨i + 1, ⟨rfl, rfl, rfl, rfl, congrArg (fun z : Nat => some (LV.v (.int .i64 (z : Int)))) eb.symm, rfl, rfl, rfl, rfl, trivial⟩, ⟨e86 gG (by rw [eb]), gG, gG, gG, trivial⟩, ⟨om, om⟩, by show x.2.2.length - (i + 1) < x.2.2.length - i; omega⟩
  refine aI J (eB J) J <| aI J (eB J) J <| aI J (bQ J J) J <| aW (fun h49 => ?_) (fun h49 => ?_)
  rotate_left
  ·refine aI J (bL J J) J <| aA (bN J J) J <| Nk [2,3,4,7,8,9,10,12,22,23,24,40,41,44,45,46,47,48,49,50,51] J <| bT J <| bY <| aE <| Ck [2,3,4,7,8,9,22,23,24,40,41,44,45,46,47,48,49,50] J <| aH (z := 2) J <| aA (cI (((i + 1 : Nat) : Int)) (aS J J om) om) J <| Um J J <| Wn <| aD ?_
   have eb : (bkF x.1.1 (ysF x d (fn_ v)) (i + 1)) = (bkF x.1.1 (ysF x d (fn_ v)) i) := mW (rL (fun _ => by omega) (fun _ => by omega))
   refine ⟨i + 1, ⟨rfl, rfl, rfl, rfl, congrArg (fun z : Nat => some (LV.v (.int .i64 (z : Int)))) eb.symm, rfl, rfl, rfl, rfl, trivial⟩, ⟨e86 gG (by rw [eb]), gG, gG, gG, trivial⟩, ⟨om, om⟩, by show x.2.2.length - (i + 1) < x.2.2.length - i; omega⟩
  refine aI J (bL J J) J <| aA (bN J J) J <| Nk [2,3,4,7,8,9,10,12,22,23,24,40,41,44,45,46,47,48,49,50,51] J <| bR J <| cV (z := 4) J kR <| Dm J J <| aC (aL (l := lvQ (ysF x d (fn_ v) i)) J J gG J J) J ?_
  refine aC (gO J) J <| bZ (cC (cs' := qc (ysF x d (fn_ v) i)) J J J gG J J J J) ?_
  refine bD (aP kR) J <| aE <| Ck [2,3,4,7,8,9,22,23,24,40,41,44,45,46,47,48,49,50] J <| aH (z := 2) J <| aA (cI (((i + 1 : Nat) : Int)) (aS J J om) om) J <| Um J J <| Wn <| aD ?_
  have eb : (bkF x.1.1 (ysF x d (fn_ v)) (i + 1)) = i := nR ((btr_lt om).2 om)
  refine ⟨i + 1, ⟨rfl, rfl, rfl, rfl, congrArg (fun z : Nat => some (LV.v (.int .i64 (z : Int)))) eb.symm, rfl, rfl, rfl, rfl, trivial⟩, ⟨e86 gG (by rw [eb]), gG, gG, gG, trivial⟩, ⟨om, om⟩, by show x.2.2.length - (i + 1) < x.2.2.length - i; omega⟩
 refine Um J J <| aI J (eB J) J <| aI J (dZ J J) J <| aW (fun h41 => ?_) (fun h41 => ?_)
 ·refine aA (bL J J) J <| Um J J <| K1 J J <| K1 J J <| K1 J J <| K1 J J <| K1 J J <| K1 J J <| K1 J J <| aA (bL J J) J <| Nk [2,3,4,7,8,9,10,12,22,23,24,40,41,44,45,46,47,48,49,50,51] J <| bR J <| cV (z := 4) J kR <| Dm J J <| aC (aL (l := lvQ (ysF x d (fn_ v) i)) J J gG J J) J ?_
  refine aC (gO J) J <| bZ (cC (cs' := qc (ysF x d (fn_ v) i)) J J J gG J J J J) ?_
  refine bD (aP kR) J <| aE <| Ck [2,3,4,7,8,9,22,23,24,40,41,44,45,46,47,48,49,50] J <| aH (z := 2) J <| aA (cI (((i + 1 : Nat) : Int)) (aS J J om) om) J <| Um J J <| Wn <| aD ?_
  have eb : (bkF x.1.1 (ysF x d (fn_ v)) (i + 1)) = i := nR ((btr_gt om).2 om)
  refine ⟨i + 1, ⟨rfl, rfl, rfl, rfl, congrArg (fun z : Nat => some (LV.v (.int .i64 (z : Int)))) eb.symm, rfl, rfl, rfl, rfl, trivial⟩, ⟨e86 gG (by rw [eb]), gG, gG, gG, trivial⟩, ⟨om, om⟩, by show x.2.2.length - (i + 1) < x.2.2.length - i; omega⟩
 refine aA (bL J J) J <| Um J J <| aI J (bC J J J J J) J <| aI J (aL J J gG J J) J ?_
 refine aI J (eC J J) J <| aW (fun h46 => ?_) (fun h46 => ?_)
 rotate_left
 ·refine aI J (eB J) J <| K1 J J <| K1 J J <| aI J (bN J J) J <| aA (bN J J) J <| Nk [2,3,4,7,8,9,10,12,22,23,24,40,41,44,45,46,47,48,49,50,51] J <| bT J <| bY <| aE <| Ck [2,3,4,7,8,9,22,23,24,40,41,44,45,46,47,48,49,50] J <| aH (z := 2) J <| aA (cI (((i + 1 : Nat) : Int)) (aS J J om) om) J <| Um J J <| Wn <| aD ?_
  have eb : (bkF x.1.1 (ysF x d (fn_ v)) (i + 1)) = (bkF x.1.1 (ysF x d (fn_ v)) i) := mW (rL (fun _ => by omega) (fun _ => by omega))
  refine ⟨i + 1, ⟨rfl, rfl, rfl, rfl, congrArg (fun z : Nat => some (LV.v (.int .i64 (z : Int)))) eb.symm, rfl, rfl, rfl, rfl, trivial⟩, ⟨e86 gG (by rw [eb]), gG, gG, gG, trivial⟩, ⟨om, om⟩, by show x.2.2.length - (i + 1) < x.2.2.length - i; omega⟩
 refine aI J (eB J) J <| aI J (eB J) J <| aI J (bQ J J) J <| aW (fun h49 => ?_) (fun h49 => ?_)
 rotate_left
 ·refine aI J (bL J J) J <| aA (bN J J) J <| Nk [2,3,4,7,8,9,10,12,22,23,24,40,41,44,45,46,47,48,49,50,51] J <| bT J <| bY <| aE <| Ck [2,3,4,7,8,9,22,23,24,40,41,44,45,46,47,48,49,50] J <| aH (z := 2) J <| aA (cI (((i + 1 : Nat) : Int)) (aS J J om) om) J <| Um J J <| Wn <| aD ?_
  have eb : (bkF x.1.1 (ysF x d (fn_ v)) (i + 1)) = (bkF x.1.1 (ysF x d (fn_ v)) i) := mW (rL (fun _ => by omega) (fun _ => by omega))
  refine ⟨i + 1, ⟨rfl, rfl, rfl, rfl, congrArg (fun z : Nat => some (LV.v (.int .i64 (z : Int)))) eb.symm, rfl, rfl, rfl, rfl, trivial⟩, ⟨e86 gG (by rw [eb]), gG, gG, gG, trivial⟩, ⟨om, om⟩, by show x.2.2.length - (i + 1) < x.2.2.length - i; omega⟩
 refine aI J (bL J J) J <| aA (bN J J) J <| Nk [2,3,4,7,8,9,10,12,22,23,24,40,41,44,45,46,47,48,49,50,51] J <| bR J <| cV (z := 4) J kR <| Dm J J <| aC (aL (l := lvQ (ysF x d (fn_ v) i)) J J gG J J) J ?_
 refine aC (gO J) J <| bZ (cC (cs' := qc (ysF x d (fn_ v) i)) J J J gG J J J J) ?_
 refine bD (aP kR) J <| aE <| Ck [2,3,4,7,8,9,22,23,24,40,41,44,45,46,47,48,49,50] J <| aH (z := 2) J <| aA (cI (((i + 1 : Nat) : Int)) (aS J J om) om) J <| Um J J <| Wn <| aD ?_
 have eb : (bkF x.1.1 (ysF x d (fn_ v)) (i + 1)) = i := nR ((btr_lt om).2 om)
 refine ⟨i + 1, ⟨rfl, rfl, rfl, rfl, congrArg (fun z : Nat => some (LV.v (.int .i64 (z : Int)))) eb.symm, rfl, rfl, rfl, rfl, trivial⟩, ⟨e86 gG (by rw [eb]), gG, gG, gG, trivial⟩, ⟨om, om⟩, by show x.2.2.length - (i + 1) < x.2.2.length - i; omega⟩
theorem qasked_run (k kn : Nat) (ss : List Go.Ab.ST) (f : NM) (ns : List NM) (hI : ∀ s, s ∈ ss → IS s) (hf1 : I64 f.1) (hf2 : I64 f.2) (hns : IV ns) (ln : ns.length < 1099511627776) : Run Tryz.prog T E0 (.call 13 [lvMo k ss, lvM f, .sl kn (ns.map mc)] (.v (.int .i64 (eD ss f ns)))) := by
 refine bF Tryz.func13 J J (dF J) <| Rg 3 J <| aY (dK J J) J <| aY (dK J J) J <| Ua J J <| Wn <| aK <| Rg 14 J <| aA (aL (l := lvMo k ss) J J (by repeat (first | exact g0 | refine g1 om ?_ | refine aN om ?_)) J J) J ?_
 refine aA (aJ J (qvmodel_run k ss hI) dD) J <| eK (fun h9 => ?_) (fun h9 => ?_)
 rotate_left
 ·refine aA (eA J) J <| Um J J <| K1 J J <| K1 J J <| K1 J J <| aA (bL J J) J <| Um J J <| K1 J J <| K1 J J <| K1 J J <| aA (bL J J) J <| Ua J J <| Nk [4,7] J <| bR J <| Rg 1 J <| Ua J J <| Wn <| aO <| aM <| post (n := 0) (.inr J) J ?_ dD
  exact congrArg (fun z => LV.v (.int .i64 z)) (show 1 = (eD ss f ns) by unfold eD; rw [if_neg (fun h => by rw [h9] at h; cases h.1)])
 refine aA (eA J) J <| Um J J <| aI J (aL (l := lvM f) J J (by repeat (first | exact g0 | refine g1 om ?_ | refine aN om ?_)) J J) J ?_
 refine aI J (aJ J (gX f hf1 hf2) dD) J <| eK (fun h13 => ?_) (fun h13 => ?_)
 rotate_left
 ·refine aI J (eA J) J <| aA (bN J J) J <| Um J J <| K1 J J <| K1 J J <| K1 J J <| aA (bL J J) J <| Ua J J <| Nk [4,7] J <| bR J <| Rg 1 J <| Ua J J <| Wn <| aO <| aM <| post (n := 0) (.inr J) J ?_ dD
  exact congrArg (fun z => LV.v (.int .i64 z)) (show 1 = (eD ss f ns) by unfold eD; rw [if_neg (fun h => absurd h.2.1 (of_decide_eq_false h13))])
 refine aI J (eA J) J <| aA (bN J J) J <| Um J J <| aI J (eB J) J <| aI J (aJ J (qall_run kn ns hns om) (bM (by intro c hc; rw [List.mem_singleton] at hc; subst hc; exact (.sl _ _ fun row hr => bO dmc row hr)))) J <| eK (fun h18 => ?_) (fun h18 => ?_)
 rotate_left
 ·refine aI J (eA J) J <| aA (bN J J) J <| Ua J J <| Nk [4,7] J <| bR J <| Rg 1 J <| Ua J J <| Wn <| aO <| aM <| post (n := 0) (.inr J) J ?_ dD
  exact congrArg (fun z => LV.v (.int .i64 z)) (show 1 = (eD ss f ns) by unfold eD; rw [if_neg (fun h => by rw [h18] at h; cases h.2.2)])
 refine aI J (eA J) J <| aA (bN J J) J <| Ua J J <| Nk [4,7] J <| bT J <| Rg 4 J <| aA (aL (l := lvM f) J J (by repeat (first | exact g0 | refine g1 om ?_ | refine aN om ?_)) J J) J ?_
 refine aA (aJ J (qfactor_run f) dD) J <| eK (fun h23 => ?_) (fun h23 => ?_)
 rotate_left
 ·refine aA (eA J) J <| Ua J J <| Wn <| bR J <| Rg 1 J <| Ua J J <| Wn <| aO <| aM <| post (n := 0) (.inr J) J ?_ dD
  exact congrArg (fun z => LV.v (.int .i64 z)) (show 6 = (eD ss f ns) by unfold eD; rw [if_pos ⟨h9, of_decide_eq_true h13, h18⟩, if_neg (fun h => by rw [decide_eq_true h.1, decide_eq_true h.2] at h23; cases h23)])
 refine aA (eA J) J <| Ua J J <| Wn <| bT J <| bY <| aE <| Rg 1 J <| Ua J J <| Wn <| aO <| post (n := 0) (.inr J) J ?_ dD
 exact congrArg (fun z => LV.v (.int .i64 z)) (show 0 = (eD ss f ns) by unfold eD; rw [if_pos ⟨h9, of_decide_eq_true h13, h18⟩, if_pos (by simpa using h23)])
theorem qis_run (k kv : Nat) (ss : List Go.Ab.ST) (d : Rat) (v : List Rat) (hV : VMo ss = true) (hd : Bd 2 d) (hl : v.length = ss.length) (β : Nat) (h1β : 1 ≤ β) (hβ : β ≤ 2147483648) (hv : ∀ x, x ∈ v → Bd β x) : Run Tryz.prog T E0 (.call 43 [lvMo k ss, lvQ d, .sl kv (v.map qc)] (.v (.bool (isV ss d (fn_ v))))) := by
 have hV1 := iO hV
 have hn40 := hV1.wt.len
 refine bF Tryz.func43 J J (dF J) <| Rg 3 J <| aY (dK J J) J <| aY (dK J J) J <| Ua J J <| Wn <| aB <| Rg 4 J <| aA (bC J J J J J) J <| aA (aL J J gG J J) J ?_
 refine aA (aX J J) J <| Um J J <| Wn <| aK <| aZ (α := Nat) (fun i => [(2, .sl kv (v.map qc)), (4, .ptr (0 + 1) 0), (12, .sl k (ss.map stc)), (13, .v (.int .i64 (ss.length : Int))), (14, .v (.int .i64 (i : Int)))]) (fun i => [((0 + 1), { cells := qc (d), sz := 6, elem := (39), st := 0 })]) (fun i n => i ≤ ss.length ∧ (∀ a, a < i → (fun a : Nat => decide (bsV (ss.getD a default) d (fn_ v) = fn_ v a)) a = true) ∧ 2 < n) (fun i => ss.length - i) (0) ⟨J, J, J, J, J, trivial⟩ ⟨gG, trivial⟩ ⟨Nat.zero_le _, fun a ha => absurd ha om, om⟩ ?_
 rintro i n hF
 change WC _ _ _ _ _ (_ :: _) (_ :: _) n _
 obtain ⟨hi, hA, hn⟩ := hF
 refine Rg 1 J <| aA (bQ J J) J <| aW (fun h15 => ?_) (fun h15 => ?_)
 rotate_left
 ·refine Wn <| aU J <| aV <| aR <| aQ J <| Rg 1 J <| Ua J J <| Wn <| aO <| post (n := 0) (.inr J) J ?_ dD
  exact congrArg (fun z => LV.v (.bool z)) (show true = isV ss d (fn_ v) by unfold isV; rw [nG hA om])
 refine Wn <| aT J <| aF <| aK ?_
 have hm := bE (us := ss) (i := i) om
 have hcl := hV1.cs _ hm
 have how := hV1.own _ hm
 refine Rg 6 J <| Um J J <| aA (bS J J J J J om J) J <| aA (dC (l := .agg (stc (ss.getD i default))) J J J) J <| aY (dO J) J <| Ua J J <| bA (cC (cs' := stc (ss.getD i default)) J J J g0 J J J J) <| Wn <| Rg 10 J <| aA (aL (l := .agg (stc (ss.getD i default))) J J gG J J) J ?_
 refine aA (aL (l := lvQ d) J J gG J J) J ?_
 refine Um J J <| aA (aJ J (qpick_run (ss.getD i default) d kv v ss.length om hcl (fun c hc => jJ hV hm hc) hd hl β h1β hβ hv) (bM (by intro c hc; simp only [List.mem_cons, List.not_mem_nil, or_false] at hc; rcases hc with rfl | rfl | rfl; exact (.agg _ fun c hc => dstc1 _ c hc); exact jB; exact (.sl _ _ fun row hr => bO dqc row hr)))) J <| Um J J <| aA (dT J J) J <| aA (dT J J) J <| aY (dO J) J <| Ua J J <| bA (cC (cs' := qc (bsV (ss.getD i default) d (fn_ v))) J J J g0 J J J J) <| Nk [2,4,7,10,12,13,14] J ?_
 have hbk := bsK_lt (d := d) (v := fn_ v) (x := (ss.getD i default)) om
 obtain ⟨hrb, hvbb⟩ := jJ hV hm (bE (us := (ss.getD i default).2.2) hbk)
 have hyb : Bd _ (bsV (ss.getD i default) d (fn_ v)) := yl_bd hrb hvbb hd h1β hv
 have hgb := fn_bd h1β hv i
 refine bJ (z := 7) J kR <| aC (aL (l := lvQ (bsV (ss.getD i default) d (fn_ v))) J J gG J J) J ?_
 refine Dm J J <| Dm J J <| aC (bS (j := i) J J J J om om J) J <| aC (dC (l := lvQ (fn_ v i)) J J J) J <| aC (aJ J (pO (bsV (ss.getD i default) d (fn_ v)) (fn_ v i) (hyb.mono om) (hgb.mono om)) dD) J <| aC (eL J J) J <| kZ (fun h32 => ?_) (fun h32 => ?_)
 ·refine bD (aP kR) J <| bR J <| Rg 1 J <| Ua J J <| Nk [6] J <| aO <| aM <| bG <| aM <| post (n := 0) (.inr J) J ?_ dD
  exact congrArg (fun z => LV.v (.bool z)) (show false = isV ss d (fn_ v) by unfold isV; rw [gD (i := i) om (decide_eq_false (fun e => h32 (by rw [mH, e])))])
 refine bD (aP kR) J <| bT J <| bY <| aE <| aH (z := 2) J <| aA (cI (((i + 1 : Nat) : Int)) (aS J J om) om) J <| Um J J <| Wn <| aD <| ⟨i + 1, ⟨J, J, J, J, J, trivial⟩, ⟨gG, trivial⟩, ⟨om, fun a ha => ?_, om⟩, by show ss.length - (i + 1) < ss.length - i; omega⟩
 by_cases e : a = i
 ·rw [e]; exact decide_eq_true (by have h57 := Classical.not_not.1 h32; rw [mH] at h57; exact h57)
 ·exact hA a om
end Go.Proofs.YtahljdjhhapngaaGreat
namespace Go.Proofs.YtahljdjhhapngaaGreat
open Go.Ab Go.RowKit
theorem nB (k : Nat) (ss : List Go.Ab.ST) (f : NM) (hI : ∀ s, s ∈ ss → IS s) (hf1 : I64 f.1) (hf2 : I64 f.2) : Run Tryz.prog T E0 (.call 18 [lvMo k ss, lvM f] (dbO ss f)) := by
 refine bF Tryz.func18 J J (dF J) <| Rg 5 J <| aY (dK J J) J <| aY (dK J J) J <| Ua J J <| Ua J J <| Ua J J <| Wn <| aB <| Rg 4 J <| aA (aL (l := lvMo k ss) J J gG J J) J ?_
 refine aA (aL (l := lvM f) J J gG J J) J ?_
 refine aA (aJ J (mX k 0 ss f [] hI hf1 hf2 (by intro a ha; cases ha) (by decide)) (bM (by intro c hc; simp only [List.mem_cons, List.not_mem_nil, or_false] at hc; rcases hc with rfl | rfl | rfl; exact jB; exact jB; exact (.sl 0 [] (by simp))))) J <| Ua J J <| Wn <| aB <| Rg 2 J <| Um J J <| aA (eL J J) J <| aW (fun h19 => ?_) (fun h19 => ?_)
 ·refine Wn <| aT J <| aB <| Rg 4 J <| Um J J <| Ua J J <| Ua J J <| Ua J J <| Wn <| bB <| post (n := 0) (.inr J) J ?_ dbO_data
  show _ = dbO ss f
  unfold dbO; rw [if_neg h19]; rfl
 refine Wn <| aU J <| aF ?_
 have h0 := Classical.not_not.1 h19
 obtain ⟨hV, hvf, hall, hf0, hf3⟩ := qA h0
 have hV1 := iO hV
 have hn40 := hV1.wt.len
 have hd01 := qC hvf hf0 hf3
 have hD := iP hV hd01.1 hd01.2
 obtain ⟨_, hvr, st, xs, rfl, hst, hxl, hwv, hval, hxb⟩ := values_run k ss (nx f) hV hvf.bd hd01.1 hd01.2
 have hve : vals ss (nq f) = xs.map (·.1) := oX hD (by rw [List.length_map]; exact hxl) hval
 have hvv : vl xs = fn_ (vals ss (nq f)) := by rw [hve]; rfl
 refine Rg 4 J <| aA (aL (l := lvM f) J J gG J J) J ?_
 refine aA (bH (b := lvX (nx f)) (aJ J (fC f hf1 hf2 hvf.all3.2.2) dD) J) J <| aY (dO J) J <| bA (cC (cs' := xc (nx f)) J J J g0 J J J J) <| Nk [2,8] J <| Rg 4 J <| aA (aL (l := lvMo k ss) J J gG J J) J ?_
 refine aA (aL (l := lvX (nx f)) J J gG J J) J ?_
 refine aA (aJ J (hvr) dD) J <| Ua J J <| cJ ?_
 obtain ⟨oo, hoo⟩ : ∃ oo, (xs.mapM fun x => outN x.1) = oo := ⟨_, rfl⟩
 have hmo : (vals ss (nq f)).mapM outN = oo := by rw [hve, mapM_map']; exact hoo
 refine Rg 7 J <| Um J J <| aA (bH (b := .tup [.sl (kd (oo.getD []).length) ((oo.getD []).map mc), .v (.int .i64 (if oo.isSome = true then 0 else 3))]) (aJ J (nouts_run 1 xs om) (bM (by intro c hc; rw [List.mem_singleton] at hc; subst hc; exact (.sl _ _ fun row hr => bO qZ row hr)))) (by rw [← hoo]; rfl)) J <| Um J J <| aA (dT J J) J <| aA (dT J J) J <| Ua J J <| Ua J J <| Wn <| aB <| Rg 2 J <| Um J J <| aA (eL J J) J <| aW (fun h32 => ?_) (fun h32 => ?_)
 ·refine Nk [2,8,9,10,11,32] J <| aT J <| aB <| Rg 4 J <| Um J J <| Ua J J <| Ua J J <| Ua J J <| Wn <| bB <| post (n := 0) (.inr J) J ?_ dbO_data
  show _ = dbO ss f
  cases oo with
  | some o => exact absurd rfl h32
  | none => unfold dbO; rw [if_pos h0, kE hmo]; rfl
 refine Nk [2,8,9,10,11,32] J <| aU J <| aF ?_
 obtain ⟨o, rfl⟩ : ∃ o, oo = some o := by
  cases oo with
  | none => exact absurd (by decide) h32
  | some o => exact ⟨o, rfl⟩
 refine Rg 4 J <| Um J J <| aA (cI ((ss.length : Int)) (aX J J) om) J <| aY (oMk (a := ss.length) (b := ss.length) J J J J om om (by decide) om (by show 8 * ss.length ≤ _; omega) om) J <| Ua J J <| Wn <| aB <| Rg 4 J <| aA (bC J J J J J) J <| aA (aL J J gG J J) J ?_
 refine aA (aX J J) J <| Um J J <| Wn <| aK <| aZ (α := Nat) (fun i => [(8, .ptr (0 + 5 + 4 + 2 + 2) 0), (9, .sl 1 (xs.map xc)), (10, .sl (kd o.length) (o.map mc)), (12, .ref (0 + 5 + 4 + 2 + 4 + 4 + 7 + 2 + 2) 1 0 ss.length), (38, .sl k (ss.map stc)), (39, .v (.int .i64 (ss.length : Int))), (40, .v (.int .i64 (i : Int)))]) (fun i => [((0 + 5 + 4 + 2 + 4 + 4 + 7 + 2 + 2), { cells := ((tab ss.length (mixf (fun _ => (0 : Int)) (fun s : Nat => ((bsK (ss.getD s default) (nq f) (fn_ (vals ss (nq f))) : Nat) : Int)) i)).map ic).flatten, sz := 1, elem := (3), st := 0 }), ((0 + 5 + 4 + 2 + 2), { cells := xc (nx f), sz := 4, elem := (102), st := 0 })]) (fun i n => i ≤ ss.length ∧ 32 < n) (fun i => ss.length - i) (0) ⟨J, J, J, J, J, J, J, trivial⟩ ⟨e86 gG (by exact tab_repiF fun s => by rw [mixf_zero]), gG, trivial⟩ ⟨Nat.zero_le _, om⟩ ?_
 rintro i n hF
 change WC _ _ _ _ _ (_ :: _) (_ :: _) n _
 obtain ⟨hi, hn⟩ := hF
 refine Rg 1 J <| aA (bQ J J) J <| aW (fun h41 => ?_) (fun h41 => ?_)
 rotate_left
 ·refine Wn <| aU J <| aV <| aR <| aQ J <| Rg 5 J <| Um J J <| Um J J <| Ua J J <| Ua J J <| Ua J J <| Wn <| aO ?_
  have hin : i = ss.length := by omega
  have ee : tab ss.length (mixf (fun _ => (0 : Int)) (fun s : Nat => ((bsK (ss.getD s default) (nq f) (fn_ (vals ss (nq f))) : Nat) : Int)) i) = tab ss.length (fun s : Nat => ((bsK (ss.getD s default) (nq f) (fn_ (vals ss (nq f))) : Nat) : Int)) := tab_eq fun s hs => by unfold mixf; rw [if_pos om]
  rw [show dbO ss f = .tup [.sl (kd o.length) (o.map mc), .sl 1 ((tab ss.length (mixf (fun _ => (0 : Int)) (fun s : Nat => ((bsK (ss.getD s default) (nq f) (fn_ (vals ss (nq f))) : Nat) : Int)) i)).map ic), .v (.int .i64 0)] by unfold dbO; rw [if_pos h0, gK hmo, ee]]
  exact lO (n := 0) [((0 + 5 + 4 + 2 + 4 + 4 + 7 + 2 + 2), { cells := ((tab ss.length (mixf (fun _ => (0 : Int)) (fun s : Nat => ((bsK (ss.getD s default) (nq f) (fn_ (vals ss (nq f))) : Nat) : Int)) i)).map ic).flatten, sz := 1, elem := (3), st := 1 })] (.inr J) J (.data (.sl _ _ (bO dmc)) (.own ((tab ss.length (mixf (fun _ => (0 : Int)) (fun s : Nat => ((bsK (ss.getD s default) (nq f) (fn_ (vals ss (nq f))) : Nat) : Int)) i)).map ic) (by rw [List.length_map, jH]) gG (by show (0 : Nat) ≠ 2; decide) J (by decide) (by simp [keys]) J rows_ic (bO dic1) (.data (.v _) .nil))) (by intro p hp; rw [List.mem_singleton] at hp; subst hp; exact ⟨_, gG, by show (0 : Nat) ≠ 2; decide, rfl⟩)
 refine Wn <| aT J <| aF <| aK ?_
 have hm := bE (us := ss) (i := i) om
 have hcl := hV1.cs _ hm
 refine Rg 6 J <| Um J J <| aA (bS J J J J J om J) J <| aA (dC (l := .agg (stc (ss.getD i default))) J J J) J <| aY (dO J) J <| Ua J J <| bA (cC (cs' := stc (ss.getD i default)) J J J g0 J J J J) <| Wn <| aH (z := 11) J <| Um J J <| Um J J <| aA (aL (l := .agg (stc (ss.getD i default))) J J gG J J) J ?_
 refine aA (aL (l := lvX (nx f)) J J gG J J) J ?_
 refine Um J J <| aA (aJ J (best_run (ss.getD i default) (nx f) 1 xs ss.length hcl (fun c hc => jJ hV hm hc) hvf.bd hxl 268435456 (by decide) (by decide) hxb) (bM (by intro c hc; simp only [List.mem_cons, List.not_mem_nil, or_false] at hc; rcases hc with rfl | rfl | rfl; exact (.agg _ fun c hc => dstc1 _ c hc); exact jB; exact (.sl _ _ fun row hr => bO qZ row hr)))) J <| Um J J <| aA (dT J J) J <| aA (bH (b := .v (.int .i64 ((fun s : Nat => ((bsK (ss.getD s default) (nq f) (fn_ (vals ss (nq f))) : Nat) : Int)) i))) (dT J J) (congrArg (fun z => LV.v (.int .i64 ((bsK (ss.getD i default) (nq f) z : Nat) : Int))) hvv)) J <| aA (cK (j := i) J J J J om om J) J <| bA (oStTi J J J gG om J) ?_
 refine Wn <| aE <| Ck [8,9,10,12,38,39,40] J <| aH (z := 2) J <| aA (cI (((i + 1 : Nat) : Int)) (aS J J om) om) J <| Um J J <| Wn <| aD <| ⟨i + 1, ⟨J, J, J, J, J, J, J, trivial⟩, ⟨e86 gG (congrArg (fun z => Ob.mk ((tab ss.length z).map ic).flatten 1 3 0) mixf_set.symm), gG, trivial⟩, ⟨om, om⟩, by show ss.length - (i + 1) < ss.length - i; omega⟩
theorem qfewn_run (m k : Nat) (ss : List Go.Ab.ST) : Run Tryz.prog T E0 (.call 40 [.v (.int .i64 (m : Int)), lvMo k ss] (.v (.bool (fewN m ss)))) := by
 refine bF Tryz.func40 J J (dF J) <| Rg 2 J <| aY (dK J J) J <| Ua J J <| Wn <| aB <| Rg 17 J <| aA (bC J J J J J) J <| aA (aL J J gG J J) J ?_
 refine aA (aX J J) J <| Um J J <| aA (dZ J J) J <| aW (fun h13 => ?_) (fun h13 => ?_)
 rotate_left
 ·refine Um J J <| K1 J J <| K1 J J <| K1 J J <| K1 J J <| aA (bN J J) J <| Um J J <| aI J (bC J J J J J) J <| aI J (aL J J gG J J) J ?_
  refine aI J (aX J J) J <| aI J (dZ J J) J <| aW (fun h24 => ?_) (fun h24 => ?_)
  ·refine aA (bN J J) J <| Nk [3,25] J <| aT J <| aB <| Rg 1 J <| Ua J J <| Wn <| bB <| post (n := 0) (.inr J) J ?_ dD
   exact congrArg (fun z => LV.v (.bool z)) (show false = fewN m ss by unfold fewN fewM; rw [decide_eq_false (show ¬ ss.length ≤ 45 by omega), Bool.false_and, Bool.and_false])
  refine aA (bN J J) J <| Nk [3,25] J <| aU J <| aF <| aB ?_
  have h6 : (!(decide (m < ss.length) && decide (ss.length ≤ 40))) = true := by first | (rw [decide_eq_false (show ¬ m < ss.length by omega)]; rfl) | (rw [decide_eq_false (show ¬ ss.length ≤ 40 by omega), Bool.and_false]; rfl)
  refine Rg 4 J <| aA (bC J J J J J) J <| aA (aL J J gG J J) J ?_
  refine aA (aX J J) J <| Um J J <| Wn <| aK <| aZ (α := Nat) (fun i => [(27, .sl k (ss.map stc)), (28, .v (.int .i64 (ss.length : Int))), (29, .v (.int .i64 (i : Int)))]) (fun i => []) (fun i n => i ≤ ss.length ∧ (ss.take i).all fewS = true) (fun i => ss.length - i) (0) ⟨J, J, J, trivial⟩ trivial ⟨Nat.zero_le _, by simp⟩ ?_
  rintro i n hF
  change WC _ _ _ _ _ (_ :: _) ([]) n _
  obtain ⟨hi, ha⟩ := hF
  refine Rg 1 J <| aA (bQ J J) J <| aW (fun h30 => ?_) (fun h30 => ?_)
  rotate_left
  ·refine Wn <| aU J <| aV <| aR <| aQ J <| Rg 1 J <| Ua J J <| Wn <| aO <| post (n := 0) (.inr J) J ?_ dD
   exact congrArg (fun z => LV.v (.bool z)) (show true = fewN m ss by unfold fewN fewM; rw [h6, decide_eq_true om, gA ha om]; rfl)
  refine Wn <| aT J <| aF <| aK <| Rg 4 J <| aA (bS J J J J J om J) J <| aA (dC (l := .agg (stc (ss.getD i default))) J J J) J <| aY (dO J) J <| bA (cC (cs' := stc (ss.getD i default)) J J J g0 J J J J) <| Wn <| aB <| Rg 4 J <| aA (bC J J J J J) J <| aA (aL J J gG J J) J ?_
  refine aA (aX J J) J <| aA (dZ J J) J <| aW (fun h36 => ?_) (fun h36 => ?_)
  ·refine Wn <| aT J <| aB <| Rg 1 J <| Ua J J <| Wn <| bB <| aM <| bG <| aM <| post (n := 0) (.inr J) J ?_ dD
   exact congrArg (fun z => LV.v (.bool z)) (show false = fewN m ss by unfold fewN; rw [rA (i := i) om (fewS_no1 om), Bool.and_false])
  refine Wn <| aU J <| aF <| Rg 4 J <| aA (bC J J J J J) J <| aA (aL J J gG J J) J ?_
  refine aA (aX J J) J <| Um J J <| Nk [27,28,29,38,39,40] J <| cB <| aZ (α := Nat) (fun j => [(27, .sl k (ss.map stc)), (28, .v (.int .i64 (ss.length : Int))), (29, .v (.int .i64 (i : Int))), (38, .sl (ss.getD i default).2.1 ((ss.getD i default).2.2.map chc)), (39, .v (.int .i64 ((ss.getD i default).2.2.length : Int))), (40, .v (.int .i64 (j : Int)))]) (fun j => []) (fun j n => j ≤ (ss.getD i default).2.2.length ∧ ((ss.getD i default).2.2.take j).all fewC = true) (fun j => (ss.getD i default).2.2.length - j) (0) ⟨J, J, J, J, J, J, trivial⟩ trivial ⟨Nat.zero_le _, by simp⟩ ?_
  rintro j n hF
  change WC _ _ _ _ _ (_ :: _) ([]) n _
  obtain ⟨hj, hb⟩ := hF
  refine Rg 1 J <| aA (bQ J J) J <| aW (fun h41 => ?_) (fun h41 => ?_)
  rotate_left
  ·refine Wn <| aU J <| aV <| aR <| eZ J <| aE <| aH (z := 2) J <| aA (cI (((i + 1 : Nat) : Int)) (aS J J om) om) J <| Um J J <| Wn <| aD <| ⟨i + 1, ⟨J, J, J, trivial⟩, trivial, ⟨om, fH ha om (by unfold fewS; rw [decide_eq_true om, gA hb om]; rfl)⟩, by show ss.length - (i + 1) < ss.length - i; omega⟩
  refine Wn <| aT J <| aF <| aK <| Rg 4 J <| aA (bS J J J J J om J) J <| aA (dC (l := lvC ((ss.getD i default).2.2.getD j default)) J J J) J <| aY (dO J) J <| bA (cC (cs' := chc ((ss.getD i default).2.2.getD j default)) J J J g0 J J J J) <| Wn <| Rg 4 J <| aA (bC J J J J J) J <| aA (aL J J gG J J) J ?_
  refine aA (aX J J) J <| aA (dZ J J) J <| aW (fun h47 => ?_) (fun h47 => ?_)
  rotate_left
  ·refine Wn <| bT J <| bY <| aE <| aH (z := 2) J <| aA (cI (((j + 1 : Nat) : Int)) (aS J J om) om) J <| Um J J <| Wn <| aD <| ⟨j + 1, ⟨J, J, J, J, J, J, trivial⟩, trivial, ⟨om, fH hb om (decide_eq_true om)⟩, by show (ss.getD i default).2.2.length - (j + 1) < (ss.getD i default).2.2.length - j; omega⟩
  refine Wn <| bR J <| Rg 1 J <| Ua J J <| Nk [4] J <| aO <| aM <| bG <| dP <| aM <| bG <| aM <| post (n := 0) (.inr J) J ?_ dD
  exact congrArg (fun z => LV.v (.bool z)) (show false = fewN m ss by unfold fewN; rw [rA (i := i) om (fewS_no2 (j := j) om om), Bool.and_false])
 refine Um J J <| aI J (bC J J J J J) J <| aI J (aL J J gG J J) J ?_
 refine aI J (aX J J) J <| aI J (qS J J) J <| aW (fun h18 => ?_) (fun h18 => ?_)
 ·refine aA (bL J J) J <| Um J J <| K1 J J <| K1 J J <| K1 J J <| K1 J J <| aA (bL J J) J <| Nk [3,25] J <| aT J <| aB <| Rg 1 J <| Ua J J <| Wn <| bB <| post (n := 0) (.inr J) J ?_ dD
  exact congrArg (fun z => LV.v (.bool z)) (show false = fewN m ss by unfold fewN; rw [decide_eq_true (show m < ss.length by omega), decide_eq_true (show ss.length ≤ 40 by omega)]; rfl)
 refine aA (bL J J) J <| Um J J <| aI J (bC J J J J J) J <| aI J (aL J J gG J J) J ?_
 refine aI J (aX J J) J <| aI J (dZ J J) J <| aW (fun h24 => ?_) (fun h24 => ?_)
 ·refine aA (bN J J) J <| Nk [3,25] J <| aT J <| aB <| Rg 1 J <| Ua J J <| Wn <| bB <| post (n := 0) (.inr J) J ?_ dD
  exact congrArg (fun z => LV.v (.bool z)) (show false = fewN m ss by unfold fewN fewM; rw [decide_eq_false (show ¬ ss.length ≤ 45 by omega), Bool.false_and, Bool.and_false])
 refine aA (bN J J) J <| Nk [3,25] J <| aU J <| aF <| aB ?_
 have h6 : (!(decide (m < ss.length) && decide (ss.length ≤ 40))) = true := by first | (rw [decide_eq_false (show ¬ m < ss.length by omega)]; rfl) | (rw [decide_eq_false (show ¬ ss.length ≤ 40 by omega), Bool.and_false]; rfl)
 refine Rg 4 J <| aA (bC J J J J J) J <| aA (aL J J gG J J) J ?_
 refine aA (aX J J) J <| Um J J <| Wn <| aK <| aZ (α := Nat) (fun i => [(27, .sl k (ss.map stc)), (28, .v (.int .i64 (ss.length : Int))), (29, .v (.int .i64 (i : Int)))]) (fun i => []) (fun i n => i ≤ ss.length ∧ (ss.take i).all fewS = true) (fun i => ss.length - i) (0) ⟨J, J, J, trivial⟩ trivial ⟨Nat.zero_le _, by simp⟩ ?_
 rintro i n hF
 change WC _ _ _ _ _ (_ :: _) ([]) n _
 obtain ⟨hi, ha⟩ := hF
 refine Rg 1 J <| aA (bQ J J) J <| aW (fun h30 => ?_) (fun h30 => ?_)
 rotate_left
 ·refine Wn <| aU J <| aV <| aR <| aQ J <| Rg 1 J <| Ua J J <| Wn <| aO <| post (n := 0) (.inr J) J ?_ dD
  exact congrArg (fun z => LV.v (.bool z)) (show true = fewN m ss by unfold fewN fewM; rw [h6, decide_eq_true om, gA ha om]; rfl)
 refine Wn <| aT J <| aF <| aK <| Rg 4 J <| aA (bS J J J J J om J) J <| aA (dC (l := .agg (stc (ss.getD i default))) J J J) J <| aY (dO J) J <| bA (cC (cs' := stc (ss.getD i default)) J J J g0 J J J J) <| Wn <| aB <| Rg 4 J <| aA (bC J J J J J) J <| aA (aL J J gG J J) J ?_
 refine aA (aX J J) J <| aA (dZ J J) J <| aW (fun h36 => ?_) (fun h36 => ?_)
 ·refine Wn <| aT J <| aB <| Rg 1 J <| Ua J J <| Wn <| bB <| aM <| bG <| aM <| post (n := 0) (.inr J) J ?_ dD
  exact congrArg (fun z => LV.v (.bool z)) (show false = fewN m ss by unfold fewN; rw [rA (i := i) om (fewS_no1 om), Bool.and_false])
 refine Wn <| aU J <| aF <| Rg 4 J <| aA (bC J J J J J) J <| aA (aL J J gG J J) J ?_
 refine aA (aX J J) J <| Um J J <| Nk [27,28,29,38,39,40] J <| cB <| aZ (α := Nat) (fun j => [(27, .sl k (ss.map stc)), (28, .v (.int .i64 (ss.length : Int))), (29, .v (.int .i64 (i : Int))), (38, .sl (ss.getD i default).2.1 ((ss.getD i default).2.2.map chc)), (39, .v (.int .i64 ((ss.getD i default).2.2.length : Int))), (40, .v (.int .i64 (j : Int)))]) (fun j => []) (fun j n => j ≤ (ss.getD i default).2.2.length ∧ ((ss.getD i default).2.2.take j).all fewC = true) (fun j => (ss.getD i default).2.2.length - j) (0) ⟨J, J, J, J, J, J, trivial⟩ trivial ⟨Nat.zero_le _, by simp⟩ ?_
 rintro j n hF
 change WC _ _ _ _ _ (_ :: _) ([]) n _
 obtain ⟨hj, hb⟩ := hF
 refine Rg 1 J <| aA (bQ J J) J <| aW (fun h41 => ?_) (fun h41 => ?_)
 rotate_left
 ·refine Wn <| aU J <| aV <| aR <| eZ J <| aE <| aH (z := 2) J <| aA (cI (((i + 1 : Nat) : Int)) (aS J J om) om) J <| Um J J <| Wn <| aD <| ⟨i + 1, ⟨J, J, J, trivial⟩, trivial, ⟨om, fH ha om (by unfold fewS; rw [decide_eq_true om, gA hb om]; rfl)⟩, by show ss.length - (i + 1) < ss.length - i; omega⟩
 refine Wn <| aT J <| aF <| aK <| Rg 4 J <| aA (bS J J J J J om J) J <| aA (dC (l := lvC ((ss.getD i default).2.2.getD j default)) J J J) J <| aY (dO J) J <| bA (cC (cs' := chc ((ss.getD i default).2.2.getD j default)) J J J g0 J J J J) <| Wn <| Rg 4 J <| aA (bC J J J J J) J <| aA (aL J J gG J J) J ?_
 refine aA (aX J J) J <| aA (dZ J J) J <| aW (fun h47 => ?_) (fun h47 => ?_)
 rotate_left
 ·refine Wn <| bT J <| bY <| aE <| aH (z := 2) J <| aA (cI (((j + 1 : Nat) : Int)) (aS J J om) om) J <| Um J J <| Wn <| aD <| ⟨j + 1, ⟨J, J, J, J, J, J, trivial⟩, trivial, ⟨om, fH hb om (decide_eq_true om)⟩, by show (ss.getD i default).2.2.length - (j + 1) < (ss.getD i default).2.2.length - j; omega⟩
 refine Wn <| bR J <| Rg 1 J <| Ua J J <| Nk [4] J <| aO <| aM <| bG <| dP <| aM <| bG <| aM <| post (n := 0) (.inr J) J ?_ dD
 exact congrArg (fun z => LV.v (.bool z)) (show false = fewN m ss by unfold fewN; rw [rA (i := i) om (fewS_no2 (j := j) om om), Bool.and_false])
theorem gV (a b : Int) : Run Tryz.prog T E0 (.call 50 [.v (.int .i64 a), .v (.int .i64 b)] (lvM (a, b))) := by
 refine bF Tryz.func50 J J (dF J) <| Rg 1 J <| aY (dO J) J <| Wn <| Rg 4 J <| Um J J <| Um J J <| aA (gI (cs := [_, _]) J J J J J) J <| bA (cC (cs' := [_, _]) J J J J J J J J) <| Wn <| aO <| post (n := 0) (.inr J) J ?_ dD
 rfl
theorem leq_run (k k' : Nat) (l l' : List Int) (ll : l.length < 1099511627776) : Run Tryz.prog T E0 (.call 20 [.sl k (l.map ic), .sl k' (l'.map ic)] (.v (.bool (decide (l = l'))))) := by
 refine bF Tryz.func20 J J (dF J) <| Rg 1 J <| Ua J J <| Wn <| aB <| Rg 5 J <| Um J J <| aA (aX J J) J <| Um J J <| aA (aX J J) J <| aA (eL J J) J <| aW (fun h10 => ?_) (fun h10 => ?_)
 ·refine Wn <| aT J <| aB <| Rg 1 J <| Ua J J <| Wn <| bB <| post (n := 0) (.inr J) J ?_ dD
  exact congrArg (fun z => LV.v (.bool z)) (show false = decide (l = l') from (decide_eq_false fun h => h10 (by rw [h])).symm)
 refine Wn <| aU J <| aF <| aB <| Rg 3 J <| Um J J <| aA (aX J J) J <| Um J J <| Wn <| aK <| aZ (α := Nat) (fun i => [(0, .sl k (l.map ic)), (1, .sl k' (l'.map ic)), (12, .v (.int .i64 (l.length : Int))), (13, .v (.int .i64 (i : Int)))]) (fun i => []) (fun i n => i ≤ l.length ∧ l.take i = l'.take i) (fun i => l.length - i) (0) ⟨J, J, J, J, trivial⟩ trivial ⟨Nat.zero_le _, by simp⟩ ?_
 rintro i n hF
 change WC _ _ _ _ _ (_ :: _) ([]) n _
 obtain ⟨hi, ha⟩ := hF
 refine Rg 1 J <| aA (bQ J J) J <| aW (fun h14 => ?_) (fun h14 => ?_)
 rotate_left
 ·refine Wn <| aU J <| aV <| aR <| aQ J <| Rg 1 J <| Ua J J <| Wn <| aO <| post (n := 0) (.inr J) J ?_ dD
  exact congrArg (fun z => LV.v (.bool z)) (show true = decide (l = l') from (decide_eq_true (by rw [List.take_of_length_le om, List.take_of_length_le om] at ha; exact ha)).symm)
 refine Wn <| aT J <| aF <| aK <| Rg 2 J <| Um J J <| Ua J J <| Wn <| bJ (z := 9) J kR <| Dm J J <| Dm J J <| aC (bS (j := i) J J J J om om J) J <| aC (dC J J J) J <| Dm J J <| Dm J J <| aC (bS (j := i) J J J J om om J) J <| aC (dC J J J) J <| aC (eL J J) J <| kZ (fun h24 => ?_) (fun h24 => ?_)
 rotate_left
 ·refine bD (aP kR) J <| Ck [0,1,12,13,24] J <| bT J <| bY <| aE <| aH (z := 2) J <| aA (cI (((i + 1 : Nat) : Int)) (aS J J om) om) J <| Um J J <| Wn <| aD <| ⟨i + 1, ⟨J, J, J, J, trivial⟩, trivial, ⟨om, eqL_take ha om om om⟩, by show l.length - (i + 1) < l.length - i; omega⟩
 refine bD (aP kR) J <| Ck [0,1,12,13,24] J <| bR J <| Rg 1 J <| Ua J J <| Wn <| aO <| aM <| bG <| aM <| post (n := 0) (.inr J) J ?_ dD
 exact congrArg (fun z => LV.v (.bool z)) (show false = decide (l = l') from (decide_eq_false (eqL_no (i := i) om om om)).symm)
theorem lV  : Run Tryz.prog T E0 (.call 12 [] (.v (.bool true))) := by
 refine bF Tryz.func12 J J (dF J) <| Rg 1 J <| Ua J J <| Wn <| Rg 14 J <| aA (aJ J (gV 1 1) dD) J <| aA (aJ J (gV 1 1) dD) J <| aA (gI (cs := [_, _, _]) J J J J J) J <| aA (dA (cs := [_, _, _]) (rows := [[_, _, _]]) J J (by decide) J J J) J <| aA (gI (cs := [_, _, _]) J J J J J) J <| aA (aJ J (gV 2 1) dD) J <| aA (aJ J (gV 1 1) dD) J <| aA (gI (cs := [_, _, _]) J J J J J) J <| aA (dA (cs := [_, _, _]) (rows := [[_, _, _]]) J J (by decide) J J J) J <| aA (gI (cs := [_, _, _]) J J J J J) J <| aA (dA (cs := [_, _, _, _, _, _]) (rows := [[_, _, _], [_, _, _]]) J J (by decide) J J J) J <| aA (gI (cs := [_, _, _]) J J J J J) J <| aY (dO J) J <| bA (cC (cs' := [_, _, _]) J J J J J J J J) <| Wn <| bJ (z := 12) J kR <| aC (aL (l := .agg (stc ((((0 : Int), (0 : Int)), (2, [((1, 1), (2, [(0, (1, 1))])), ((2, 1), (2, [(0, (1, 1))]))])) : Go.Ab.ST))) J J gG J J) J ?_
 refine aC (dA (cs := [_, _, _]) (rows := [[_, _, _]]) J J (by decide) J J J) J <| aC (gI (cs := [_]) J J J J J) J <| aC (aJ J (gV 1 2) dD) J <| aC (bH (b := .tup [.sl 1 [mc (4, 1)], .sl 1 [ic 1], .v (.int .i64 0)]) (aJ J (nB 2 (awk 0) (1, 2) (awk_is 0 I64_0) (by unfold I64; decide) (by unfold I64; decide)) (bM (by intro c hc; simp only [List.mem_cons, List.not_mem_nil, or_false] at hc; rcases hc with rfl | rfl; exact (awk_data 0); exact jB))) awk_b0) J <| Dm J J <| aC (dT J J) J <| aC (dT J J) J <| aC (dT J J) J <| aC (gO J) J <| aC (gO J) J <| aC (gO J) J <| bD (aP kR) J <| Ck [1,2,3,4] J <| Rg 2 J <| aA (bC J J J J J) J <| bA (cC (cs' := [_, _, _]) J J J J J J J J) <| Wn <| bJ (z := 12) J kR <| aC (aL (l := .agg (stc ((((1 : Int), (0 : Int)), (2, [((1, 1), (2, [(0, (1, 1))])), ((2, 1), (2, [(0, (1, 1))]))])) : Go.Ab.ST))) J J gG J J) J ?_
 refine aC (dA (cs := [_, _, _]) (rows := [[_, _, _]]) J J (by decide) J J J) J <| aC (gI (cs := [_]) J J J J J) J <| aC (aJ J (gV 1 2) dD) J <| aC (bH (b := .tup [.sl 1 [mc (2, 1)], .sl 1 [ic 0], .v (.int .i64 0)]) (aJ J (nB 2 (awk 1) (1, 2) (awk_is 1 I64_1) (by unfold I64; decide) (by unfold I64; decide)) (bM (by intro c hc; simp only [List.mem_cons, List.not_mem_nil, or_false] at hc; rcases hc with rfl | rfl; exact (awk_data 1); exact jB))) awk_b1) J <| Dm J J <| aC (dT J J) J <| aC (dT J J) J <| aC (dT J J) J <| aC (gO J) J <| aC (gO J) J <| aC (gO J) J <| bD (aP kR) J <| Ck [2,3,4,5,6,7] J <| Rg 29 J <| Um J J <| aA (eC J J) J <| aW (fun h40 => ?_) (fun h40 => ?_)
 rotate_left
 ·exact absurd J h40
 refine Um J J <| aI J (eB J) J <| aI J (aJ J (gV 4 1) dD) J <| aI J (dA (cs := [_, _]) (rows := [[_, _]]) J J (by decide) J J J) J <| aI J (aJ J (pP 1 2 [(4, 1)] (by decide)) (bM (by intro c hc; simp only [List.mem_cons, List.not_mem_nil, or_false] at hc; rcases hc with rfl | rfl; exact (mB 1 (4, 1)); exact (mB 2 (4, 1))))) J <| aA (bL J J) J <| Um J J <| aI J (eB J) J <| aI J (dA (cs := [_]) (rows := [[_]]) J J (by decide) J J J) J <| aI J (bH (b := .v (.bool true)) (aJ J (leq_run 1 2 [1] [1] (by decide)) (bM (by intro c hc; simp only [List.mem_cons, List.not_mem_nil, or_false] at hc; rcases hc with rfl | rfl; exact (lZ 1 1); exact (lZ 2 1)))) J) J <| aA (bL J J) J <| Um J J <| aI J (eB J) J <| aI J (eC J J) J <| aW (fun h54 => ?_) (fun h54 => ?_)
 rotate_left
 ·exact absurd J h54
 refine aA (bL J J) J <| Um J J <| aI J (eB J) J <| aI J (aJ J (gV 2 1) dD) J <| aI J (dA (cs := [_, _]) (rows := [[_, _]]) J J (by decide) J J J) J <| aI J (aJ J (pP 1 2 [(2, 1)] (by decide)) (bM (by intro c hc; simp only [List.mem_cons, List.not_mem_nil, or_false] at hc; rcases hc with rfl | rfl; exact (mB 1 (2, 1)); exact (mB 2 (2, 1))))) J <| aA (bL J J) J <| Um J J <| aI J (eB J) J <| aI J (dA (cs := [_]) (rows := [[_]]) J J (by decide) J J J) J <| aI J (bH (b := .v (.bool true)) (aJ J (leq_run 1 2 [0] [0] (by decide)) (bM (by intro c hc; simp only [List.mem_cons, List.not_mem_nil, or_false] at hc; rcases hc with rfl | rfl; exact (lZ 1 0); exact (lZ 2 0)))) J) J <| aA (bL J J) J <| Ua J J <| Nk [0] J <| aO <| post (n := 0) (.inr J) J ?_ dD
 rfl
end Go.Proofs.YtahljdjhhapngaaGreat
namespace Go.Proofs.YtahljdjhhapngaaGreat
open Go.Ab Go.RowKit
theorem mstrat_run (k ks : Nat) (ss : List Go.Ab.ST) (st : List Int) (hll : st.length < 1099511627776) : Run Tryz.prog T E0 (.call 70 [lvMo k ss, .sl ks (st.map ic)] (.v (.bool (vSt ss st)))) := by
 refine bF Tryz.func70 J J (dF J) <| Rg 2 J <| aY (dK J J) J <| Ua J J <| Wn <| aB <| Rg 6 J <| Um J J <| aA (aX J J) J <| aA (bC J J J J J) J <| aA (aL J J gG J J) J ?_
 refine aA (aX J J) J <| aA (eL J J) J <| aW (fun h12 => ?_) (fun h12 => ?_)
 ·refine Wn <| aT J <| aB <| Rg 1 J <| Ua J J <| Wn <| bB <| post (n := 0) (.inr J) J ?_ dD
  exact congrArg (fun z => LV.v (.bool z)) (show false = vSt ss st by unfold vSt; rw [decide_eq_false om]; rfl)
 refine Wn <| aU J <| aF <| aB <| Rg 3 J <| Um J J <| aA (aX J J) J <| Um J J <| Wn <| aK <| aZ (α := Nat) (fun i => [(2, .ptr 0 0), (13, .sl ks (st.map ic)), (14, .v (.int .i64 (st.length : Int))), (15, .v (.int .i64 (i : Int)))]) (fun i => [(0, { cells := [.sl k (ss.map stc)], sz := 1, elem := (24), st := 0 })]) (fun i n => i ≤ st.length ∧ (∀ j, j < i → (decide (0 ≤ st.getD j default) && decide (st.getD j default < ((ss.getD j default).2.2.length : Int))) = true) ∧ 0 < n) (fun i => st.length - i) (0) ⟨J, J, J, J, trivial⟩ ⟨(by repeat (first | exact g0 | refine g1 (by decide) ?_)), trivial⟩ ⟨Nat.zero_le _, fun j hj => absurd hj om, om⟩ ?_
 rintro i n hF
 change WC _ _ _ _ _ (_ :: _) (_ :: _) n _
 obtain ⟨hi, hok, hn⟩ := hF
 refine Rg 1 J <| aA (bQ J J) J <| aW (fun h16 => ?_) (fun h16 => ?_)
 rotate_left
 ·refine Wn <| aU J <| aV <| aR <| aQ J <| Rg 1 J <| Ua J J <| Wn <| aO <| post (n := 0) (.inr J) J ?_ dD
  exact congrArg (fun z => LV.v (.bool z)) (show true = vSt ss st by unfold vSt; rw [decide_eq_true om, nG hok om]; rfl)
 refine Wn <| aT J <| aF <| aK <| Rg 5 J <| Um J J <| aA (bS J J J J J om J) J <| aA (dC J J J) J <| Ua J J <| Ua J J <| Wn <| Rg 13 J <| Um J J <| aA (bQ J J) J <| aW (fun h21 => ?_) (fun h21 => ?_)
 ·refine Um J J <| K1 J J <| K1 J J <| K1 J J <| K1 J J <| K1 J J <| K1 J J <| K1 J J <| K1 J J <| K1 J J <| aA (bL J J) J <| Nk [2,13,14,15,23,24,25,26,27,28,29,30,31,32] J <| bR J <| Rg 1 J <| Ua J J <| Nk [4] J <| aO <| aM <| bG <| aM <| post (n := 0) (.inr J) J ?_ dD
  exact congrArg (fun z => LV.v (.bool z)) (show false = vSt ss st by unfold vSt; rw [gD (i := i) om (by rw [decide_eq_false om]; rfl), Bool.and_false])
 refine Um J J <| aI J (eB J) J <| aI J (bC J J J J J) J <| aI J (aL J J gG J J) J ?_
 refine aI J (eB J) J <| aI J (bS (j := i) J J J J om om J) J <| aI J (oFa J J J J J) J <| aI J (dC J J J) J <| aI J (aX J J) J <| aI J (gY J J) J <| aW (fun h31 => ?_) (fun h31 => ?_)
 ·refine aA (bN J J) J <| Nk [2,13,14,15,23,24,25,26,27,28,29,30,31,32] J <| bR J <| Rg 1 J <| Ua J J <| Nk [4] J <| aO <| aM <| bG <| aM <| post (n := 0) (.inr J) J ?_ dD
  exact congrArg (fun z => LV.v (.bool z)) (show false = vSt ss st by unfold vSt; rw [gD (i := i) om (by rw [decide_eq_false (show ¬ (st.getD i default) < _ by omega), Bool.and_false]), Bool.and_false])
 refine aA (bN J J) J <| Nk [2,13,14,15,23,24,25,26,27,28,29,30,31,32] J <| bT J <| bY <| aE <| aH (z := 2) J <| aA (cI (((i + 1 : Nat) : Int)) (aS J J om) om) J <| Um J J <| Wn <| aD <| ⟨i + 1, ⟨J, J, J, J, trivial⟩, ⟨gG, trivial⟩, ⟨om, fun j hj => ?_, om⟩, by show st.length - (i + 1) < st.length - i; omega⟩
 by_cases e : j = i
 ·rw [e, decide_eq_true om, decide_eq_true om]; rfl
 ·exact hok j om
theorem dof_run (k ks : Nat) (ss : List Go.Ab.ST) (f : NM) (st : List Int) (hI : ∀ s, s ∈ ss → IS s) (hf1 : I64 f.1) (hf2 : I64 f.2) (hll : st.length < 1099511627776) : Run Tryz.prog T E0 (.call 38 [lvMo k ss, lvM f, .sl ks (st.map ic)] (ofO ss f st)) := by
 refine bF Tryz.func38 J J (dF J) <| Rg 4 J <| aY (dK J J) J <| aY (dK J J) J <| Ua J J <| Ua J J <| Wn <| Rg 4 J <| aA (aL (l := lvMo k ss) J J gG J J) J ?_
 refine aA (aL (l := lvM f) J J gG J J) J ?_
 refine aA (aJ J (mX k 0 ss f [] hI hf1 hf2 (by intro a ha; cases ha) (by decide)) (bM (by intro c hc; simp only [List.mem_cons, List.not_mem_nil, or_false] at hc; rcases hc with rfl | rfl | rfl; exact jB; exact jB; exact (.sl 0 [] (by simp))))) J <| Ua J J <| Wn <| aB <| Rg 8 J <| Um J J <| aA (eC J J) J <| aW (fun h13 => ?_) (fun h13 => ?_)
 ·refine Um J J <| K1 J J <| K1 J J <| K1 J J <| K1 J J <| aA (bL J J) J <| Nk [2,3,4,8,19] J <| aT J <| aB <| Rg 2 J <| Ua J J <| Ua J J <| Wn <| bB <| post (n := 0) (.inr J) J ?_ oL
  show _ = ofO ss f st
  unfold ofO; rw [if_pos (.inl om)]; rfl
 refine Um J J <| aI J (aL (l := lvMo k ss) J J gG J J) J ?_
 refine aI J (eB J) J <| aI J (aJ J (mstrat_run k ks ss st hll) (bM (by intro c hc; simp only [List.mem_cons, List.not_mem_nil, or_false] at hc; rcases hc with rfl | rfl; exact jB; exact (.sl _ _ (bO dic1))))) J <| eK (fun h17 => ?_) (fun h17 => ?_)
 rotate_left
 ·refine aI J (eA J) J <| aA (bN J J) J <| Nk [2,3,4,8,19] J <| aT J <| aB <| Rg 2 J <| Ua J J <| Ua J J <| Wn <| bB <| post (n := 0) (.inr J) J ?_ oL
  show _ = ofO ss f st
  unfold ofO; rw [if_pos (.inr h17)]; rfl
 refine aI J (eA J) J <| aA (bN J J) J <| Nk [2,3,4,8,19] J <| aU J <| aF <| aB <| Rg 2 J <| Um J J <| aA (eL J J) J <| aW (fun h21 => ?_) (fun h21 => ?_)
 ·refine Wn <| aT J <| aB <| Rg 3 J <| Um J J <| Ua J J <| Ua J J <| Wn <| bB <| post (n := 0) (.inr J) J ?_ oL
  show _ = ofO ss f st
  unfold ofO; rw [if_neg (by rintro (h | h); exact h13 h; rw [h17] at h; cases h), if_neg h21]; rfl
 refine Wn <| aU J <| aF ?_
 have h0 := Classical.not_not.1 h21
 obtain ⟨hV, hvf, hall, hf0, hf3⟩ := qA h0
 have hV1 := iO hV
 have hn40 := hV1.wt.len
 have hd01 := qC hvf hf0 hf3
 have hD := iP hV hd01.1 hd01.2
 obtain ⟨_, hwr, xs, rfl, hxl, hwv, hxb⟩ := worth_run k ks ss (nx f) st hV hvf.bd hd01.1 hd01.2 h17
 have hwe : wor ss (nq f) st = xs.map (·.1) := wor_eq hD h17 (by rw [List.length_map]; exact hxl) hwv
 obtain ⟨oo, hoo⟩ : ∃ oo, (xs.mapM fun x => outN x.1) = oo := ⟨_, rfl⟩
 have hmo : (wor ss (nq f) st).mapM outN = oo := by rw [hwe, mapM_map']; exact hoo
 refine bJ (z := 10) J kR <| aC (aL (l := lvMo k ss) J J gG J J) J ?_
 refine aC (aL (l := lvM f) J J gG J J) J ?_
 refine aC (bH (b := lvX (nx f)) (aJ J (fC f hf1 hf2 hvf.all3.2.2) dD) J) J <| Dm J J <| aC (aJ J (hwr) (bM (by intro c hc; simp only [List.mem_cons, List.not_mem_nil, or_false] at hc; rcases hc with rfl | rfl | rfl; exact jB; exact jB; exact (.sl _ _ (bO dic1))))) J <| aC (bH (b := .tup [.sl (kd (oo.getD []).length) ((oo.getD []).map mc), .v (.int .i64 (if oo.isSome = true then 0 else 3))]) (aJ J (nouts_run 1 xs om) (bM (by intro c hc; rw [List.mem_singleton] at hc; subst hc; exact (.sl _ _ fun row hr => bO qZ row hr)))) (by rw [← hoo]; rfl)) J <| aC (dT J J) J <| aC (dT J J) J <| aC (gO J) J <| aC (gO J) J <| bD (aP kR) J <| Ck [6,7] J <| aO <| post (n := 0) (.inr J) J ?_ oL
 show _ = ofO ss f st
 unfold ofO; rw [if_neg (show ¬ (eD ss f [] = 1 ∨ vSt ss st = false) from fun h => by rw [h17] at h; simp [h13] at h), if_pos h0, hmo]; rfl
theorem lfree_run (k : Nat) (ss : List Go.Ab.ST) (hl1 : ss.length ≤ 45) (hl2 : ∀ x, x ∈ ss → x.2.2.length ≤ 10 ∧ ∀ c, c ∈ x.2.2 → c.2.2.length ≤ 10) : Run Tryz.prog T E0 (.call 32 [lvMo k ss] (.v (.bool (freeB ss)))) := by
 refine bF Tryz.func32 J J (dF J) <| Rg 2 J <| aY (dK J J) J <| Ua J J <| Wn <| aB <| Rg 4 J <| aA (bC J J J J J) J <| aA (aL J J gG J J) J ?_
 refine aA (aX J J) J <| Um J J <| Wn <| aK <| aZ (α := Nat) (fun i => [(8, .sl k (ss.map stc)), (9, .v (.int .i64 (ss.length : Int))), (10, .v (.int .i64 (i : Int)))]) (fun i => []) (fun i n => i ≤ ss.length ∧ (ss.take i).all freeS = true) (fun i => ss.length - i) (0) ⟨J, J, J, trivial⟩ trivial ⟨Nat.zero_le _, by simp⟩ ?_
 rintro i n hF
 change WC _ _ _ _ _ (_ :: _) ([]) n _
 obtain ⟨hi, ha⟩ := hF
 refine Rg 1 J <| aA (bQ J J) J <| aW (fun h11 => ?_) (fun h11 => ?_)
 rotate_left
 ·refine Wn <| aU J <| aV <| aR <| aQ J <| Rg 1 J <| Ua J J <| Wn <| aO <| post (n := 0) (.inr J) J ?_ dD
  exact congrArg (fun z => LV.v (.bool z)) (show true = freeB ss from (gA (p := freeS) ha om).symm)
 refine Wn <| aT J <| aF <| aK <| Rg 4 J <| aA (bS J J J J J om J) J <| aA (dC (l := .agg (stc (ss.getD i default))) J J J) J <| aY (dO J) J <| bA (cC (cs' := stc (ss.getD i default)) J J J g0 J J J J) <| cJ ?_
 obtain ⟨hl3, hl4⟩ := hl2 _ (bE (us := ss) (i := i) om)
 refine Rg 4 J <| aA (bC J J J J J) J <| aA (aL J J gG J J) J ?_
 refine aA (aX J J) J <| Um J J <| Wn <| cB <| aZ (α := Nat) (fun j => [(8, .sl k (ss.map stc)), (9, .v (.int .i64 (ss.length : Int))), (10, .v (.int .i64 (i : Int))), (15, .sl (ss.getD i default).2.1 ((ss.getD i default).2.2.map chc)), (16, .v (.int .i64 ((ss.getD i default).2.2.length : Int))), (17, .v (.int .i64 (j : Int)))]) (fun j => []) (fun j n => j ≤ (ss.getD i default).2.2.length ∧ ((ss.getD i default).2.2.take j).all (fun c : CH => decide (c.1.1 = 0)) = true) (fun j => (ss.getD i default).2.2.length - j) (0) ⟨J, J, J, J, J, J, trivial⟩ trivial ⟨Nat.zero_le _, by simp⟩ ?_
 rintro j n hF
 change WC _ _ _ _ _ (_ :: _) ([]) n _
 obtain ⟨hj, hb⟩ := hF
 refine Rg 1 J <| aA (bQ J J) J <| aW (fun h18 => ?_) (fun h18 => ?_)
 rotate_left
 ·refine Wn <| aU J <| aV <| aR <| eZ J <| aE <| aH (z := 2) J <| aA (cI (((i + 1 : Nat) : Int)) (aS J J om) om) J <| Um J J <| Wn <| aD <| ⟨i + 1, ⟨J, J, J, trivial⟩, trivial, ⟨om, fH ha om (by unfold freeS; rw [gA hb om])⟩, by show ss.length - (i + 1) < ss.length - i; omega⟩
 refine Wn <| aT J <| aF <| aK <| Rg 4 J <| aA (bS J J J J J om J) J <| aA (dC (l := lvC ((ss.getD i default).2.2.getD j default)) J J J) J <| aY (dO J) J <| bA (cC (cs' := chc ((ss.getD i default).2.2.getD j default)) J J J g0 J J J J) <| Wn <| Rg 4 J <| aA (bC J J J J J) J <| aA (bC J J J J J) J <| aA (aL J J gG J J) J ?_
 refine aA (eL J J) J <| aW (fun h24 => ?_) (fun h24 => ?_)
 rotate_left
 ·refine Wn <| bT J <| bY <| aE <| aH (z := 2) J <| aA (cI (((j + 1 : Nat) : Int)) (aS J J om) om) J <| Um J J <| Wn <| aD <| ⟨j + 1, ⟨J, J, J, J, J, J, trivial⟩, trivial, ⟨om, fH hb om (decide_eq_true om)⟩, by show (ss.getD i default).2.2.length - (j + 1) < (ss.getD i default).2.2.length - j; omega⟩
 refine Wn <| bR J <| Rg 1 J <| Ua J J <| Nk [2] J <| aO <| aM <| bG <| dP <| aM <| bG <| aM <| post (n := 0) (.inr J) J ?_ dD
 exact congrArg (fun z => LV.v (.bool z)) (show false = freeB ss by unfold freeB; exact (mV (us := ss) (i := i) om (mV (us := (ss.getD i default).2.2) (p := fun c : CH => decide (c.1.1 = 0)) (i := j) om (decide_eq_false om))).symm)
end Go.Proofs.YtahljdjhhapngaaGreat
namespace Go.Proofs.YtahljdjhhapngaaGreat
open Go.Ab Go.RowKit
theorem qpicks_run (k kv : Nat) (ss : List Go.Ab.ST) (d : Rat) (v : List Rat) (hV : VMo ss = true) (hd : Bd 2 d) (hl : v.length = ss.length) (β : Nat) (h1β : 1 ≤ β) (hβ : β ≤ 2147483648) (hv : ∀ x, x ∈ v → Bd β x) : Run Tryz.prog T E0 (.call 17 [lvMo k ss, lvQ d, .sl kv (v.map qc)] (.sl (kd (tab ss.length (fun i : Nat => ((bsK (ss.getD i default) d (fn_ v) : Nat) : Int))).length) ((tab ss.length (fun i : Nat => ((bsK (ss.getD i default) d (fn_ v) : Nat) : Int))).map ic))) := by
 have hV1 := iO hV
 have hn40 := hV1.wt.len
 refine bF Tryz.func17 J J (dF J) <| Rg 3 J <| aY (dK J J) J <| aY (dK J J) J <| Ua J J <| Wn <| Rg 1 J <| Ua J J <| Wn <| aB <| Rg 4 J <| aA (bC J J J J J) J <| aA (aL J J gG J J) J ?_
 refine aA (aX J J) J <| Um J J <| Wn <| aK <| aZ (α := Nat × Nat × (List Int)) (fun ⟨i, q, row⟩ => [(2, .sl kv (v.map qc)), (4, .ptr (0 + 1) 0), (7, outV q 1 (row.map ic)), (13, .sl k (ss.map stc)), (14, .v (.int .i64 (ss.length : Int))), (15, .v (.int .i64 (i : Int)))]) (fun ⟨i, q, row⟩ => outH q 1 3 (row.map ic) [((0 + 1), { cells := qc (d), sz := 6, elem := (39), st := 0 })]) (fun ⟨i, q, row⟩ n => i ≤ ss.length ∧ row = tab i (fun i : Nat => ((bsK (ss.getD i default) d (fn_ v) : Nat) : Int)) ∧ row.length = i ∧ 1 < q ∧ q < n) (fun ⟨i, q, row⟩ => ss.length - i) (0, 2, []) ⟨J, J, J, J, J, J, trivial⟩ ⟨gG, trivial⟩ ⟨Nat.zero_le _, rfl, rfl, om, om⟩ ?_
 rintro ⟨i, q, row⟩ n hF
 change WC _ _ _ _ _ (_ :: _) (outH _ _ _ _ _) n _
 obtain ⟨hi, hrw, hrl, hq1, hq⟩ := hF
 refine Rg 1 J <| aA (bQ J J) J <| aW (fun h16 => ?_) (fun h16 => ?_)
 rotate_left
 ·refine Wn <| aU J <| aV <| aR <| aQ J <| Rg 2 J <| Um J J <| Ua J J <| Wn <| aO ?_
  have hin : i = ss.length := by omega
  rw [hin] at hrw
  rw [← hrw, ← kS]
  exact kT (n := 0) (.inr J) J (by decide) (cS (n := 1) (fun _ => rfl)) (bO dic1)
 refine Wn <| aT J <| aF <| aK ?_
 have hm := bE (us := ss) (i := i) om
 have hcl := hV1.cs _ hm
 have how := hV1.own _ hm
 refine Rg 4 J <| aA (bS J J J J J om J) J <| aA (dC (l := .agg (stc (ss.getD i default))) J J J) J <| aY (dO J) J <| bA (cC (cs' := stc (ss.getD i default)) J J J g0 J J J J) <| Wn <| Rg 10 J <| aA (aL (l := .agg (stc (ss.getD i default))) J J (by repeat (first | exact g0 | refine g1 om ?_ | refine aN om ?_)) J J) J ?_
 refine aA (aL (l := lvQ d) J J (by repeat (first | exact g0 | refine g1 om ?_ | refine aN om ?_)) J J) J ?_
 refine Um J J <| aA (aJ J (qpick_run (ss.getD i default) d kv v ss.length om hcl (fun c hc => jJ hV hm hc) hd hl β h1β hβ hv) (bM (by intro c hc; simp only [List.mem_cons, List.not_mem_nil, or_false] at hc; rcases hc with rfl | rfl | rfl; exact (.agg _ fun c hc => dstc1 _ c hc); exact jB; exact (.sl _ _ fun row hr => bO dqc row hr)))) J <| Um J J <| aA (dT J J) J <| aA (dT J J) J <| aY (dO J) J <| Ua J J <| bA (cC (cs' := qc (bsV (ss.getD i default) d (fn_ v))) J J J g0 J J J J) <| Nk [2,4,7,10,13,14,15] J <| aH (z := 5) J <| Um J J <| Um J J <| aA (dA (cs := [_]) (rows := [[_]]) J J (by decide) J J J) J <| lB _ (subsM.get (cR (q := q) (sz := 1) (el := 3) (us := row.map ic) (h := [((0 + 1), { cells := qc (d), sz := 6, elem := (39), st := 0 })]) (fun hne => by rw [dU hne]; repeat (first | exact g0 | refine g1 om ?_ | refine aN om ?_)) ⟨(by repeat (first | exact g0 | refine g1 om ?_ | refine aN om ?_)), trivial⟩)) ?_
 refine dB (te := ti3) (f := ic) (q := q) (us := row) (u := ((bsK (ss.getD i default) d (fn_ v) : Nat) : Int)) J J J J J (fun _ => rfl) (by decide) (by show (2 * (row.length + 1) + 256) * 8 ≤ _; omega) om (gN om J) (gN om J) J <| Ua J J <| Wn <| aE <| aH (z := 2) J <| aA (cI (((i + 1 : Nat) : Int)) (aS J J om) om) J <| Um J J <| Wn <| aD <| ⟨⟨i + 1, _, row ++ [((bsK (ss.getD i default) d (fn_ v) : Nat) : Int)]⟩, ⟨J, J, J, J, J, J, trivial⟩, cR (fun hne => by rw [dU hne]; repeat (first | exact g0 | refine g1 om ?_ | refine aN om ?_)) ⟨(by repeat (first | exact g0 | refine g1 om ?_ | refine aN om ?_)), trivial⟩, ⟨om, by rw [tab_succ, ← hrw], by simp; omega, om, om⟩, by show ss.length - (i + 1) < ss.length - i; omega⟩
theorem vals_ok (ss : List Go.Ab.ST) (d : Rat) (hV : VMo ss = true) (hd : Bd 2 d) (hd0 : 0 < d) (hd1 : d < 1) : (vals ss d).length = ss.length ∧ Val ss d (fn_ (vals ss d)) ∧ (∀ x, x ∈ vals ss d → Bd 268435456 x) ∧ ∃ st, vSt ss st = true ∧ wor ss d st = vals ss d := by
 obtain ⟨_, _, st, xs, _, hst, hl, hw, hv, hb⟩ := values_run 1 ss (d, false) hV hd hd0 hd1
 have hl2 : (xs.map (·.1)).length = ss.length := by rw [List.length_map]; exact hl
 have hD := iP hV hd0 hd1
 rw [oX hD hl2 hv]
 exact ⟨hl2, hv, fun x hx => by obtain ⟨y, hy, rfl⟩ := List.mem_map.1 hx; exact hb y hy, st, hst, wor_eq hD hst hl2 hw⟩
end Go.Proofs.YtahljdjhhapngaaGreat
namespace Go.Proofs.YtahljdjhhapngaaGreat
open Go.Ab Go.RowKit
theorem law_wide (k : Nat) (ss : List Go.Ab.ST) (f : NM) (hI : ∀ s, s ∈ ss → IS s) (hf1 : I64 f.1) (hf2 : I64 f.2) : Run Tryz.prog T E0 (.call 6 [lvMo k ss, lvM f] (.v (.bool true))) := by
 obtain ⟨R, S, E, hB, hRl, hSl⟩ := dbO_pair ss f (vals_len _ _) (fun hV => (iO hV).pos)
 refine bF Tryz.func6 J J (dF J) <| Rg 3 J <| aY (dK J J) J <| aY (dK J J) J <| Ua J J <| Wn <| aB <| Rg 3 J <| aA (aL (l := lvMo k ss) J J gG J J) J ?_
 refine aA (aJ J (qfewn_run 40 k ss) dD) J <| eK (fun h15 => ?_) (fun h15 => ?_)
 rotate_left
 ·refine aA (eA J) J <| Wn <| aT J <| aB <| Rg 2 J <| aA (aJ J (lV) dD) J <| Ua J J <| Wn <| bB ?_
  exact post (n := 0) (.inr J) J J (by simp)
 refine aA (eA J) J <| Wn <| aU J <| aF <| Rg 4 J <| aA (aL (l := lvMo k ss) J J gG J J) J ?_
 refine aA (aL (l := lvM f) J J gG J J) J ?_
 refine aA (aJ J (qasked_run k 0 ss f [] hI hf1 hf2 (by intro a ha; cases ha) (by decide)) (bM (by intro c hc; simp only [List.mem_cons, List.not_mem_nil, or_false] at hc; rcases hc with rfl | rfl | rfl; exact jB; exact jB; exact (.sl 0 [] (by simp))))) J <| Ua J J <| Wn <| Rg 10 J <| aA (aL (l := lvMo k ss) J J gG J J) J ?_
 refine aA (aL (l := lvM f) J J gG J J) J ?_
 refine aA (bH (b := .tup [.sl (kd R.length) (R.map mc), .sl (kd S.length) (S.map ic), .v (.int .i64 E)]) (aJ J (nB k ss f hI hf1 hf2) dD) hB) J <| Um J J <| aA (dT J J) J <| aA (dT J J) J <| aA (dT J J) J <| Ua J J <| Ua J J <| Ua J J <| Nk [2,3,5,6,7,8] J <| aK <| Rg 3 J <| Um J J <| aA (eL J J) J <| aW (fun h30 => ?_) (fun h30 => ?_)
 ·refine Ua J J <| Wn <| bR J ?_
  have h9 := lS (R' := []) (S' := []) (hB.symm.trans (dbO_1 h30))
  obtain ⟨rfl, rfl, rfl⟩ := h9
  refine Rg 15 J <| Um J J <| Um J J <| aA (bH (b := .v (.bool true)) (eC J J) (by simp)) J <| Um J J <| aI J (eB J) J <| aI J (cI ((0 : Int)) (aX J J) J) J <| aI J (eB J) J <| aI J (cI ((0 : Int)) (aX J J) J) J <| aI J (cI ((0 : Int)) (aS J J om) J) J <| aI J (bH (b := .v (.bool true)) (eC J J) (by simp)) J <| aA (bL J J) J <| Um J J <| aI J (aJ J (lV) dD) J <| aA (bL J J) J <| Ua J J <| Nk [4] J <| aO <| aM <| post (n := 0) (.inr J) J ?_ dD
  rfl
 refine Ua J J <| Wn <| bT J <| Rg 3 J <| Um J J <| aA (eC J J) J <| aW (fun h47 => ?_) (fun h47 => ?_)
 ·refine Ua J J <| Wn <| bR J ?_
  obtain ⟨hV, hvf, hall, hf0, hf3⟩ := qA (Classical.not_not.1 h30)
  have hV1 := iO hV
  have hd01 := qC hvf hf0 hf3
  have hD := iP hV hd01.1 hd01.2
  obtain ⟨hw1, hw2⟩ := fewN_len h15
  have hm : (vals ss (nq f)).mapM outN = none := by
   cases h : (vals ss (nq f)).mapM outN with
   | none => rfl
   | some o => exact absurd (lS (hB.symm.trans (dbO_3 (Classical.not_not.1 h30) h hV1.pos))).2.2 om
  have hnf := free_no hD hm
  have h9 := lS (R' := []) (S' := []) (hB.symm.trans (dbO_2 (Classical.not_not.1 h30) hm))
  obtain ⟨rfl, rfl, _⟩ := h9
  refine Rg 15 J <| aA (aL (l := lvMo k ss) J J gG J J) J ?_
  refine aA (bH (b := .v (.bool false)) (aJ J (lfree_run k ss hw1 hw2) dD) (by rw [hnf])) J <| aA (bH (b := .v (.bool true)) (eA J) (by simp)) J <| Um J J <| aI J (eB J) J <| aI J (cI ((0 : Int)) (aX J J) J) J <| aI J (eB J) J <| aI J (cI ((0 : Int)) (aX J J) J) J <| aI J (cI ((0 : Int)) (aS J J om) J) J <| aI J (bH (b := .v (.bool true)) (eC J J) (by simp)) J <| aA (bL J J) J <| Um J J <| aI J (aJ J (lV) dD) J <| aA (bL J J) J <| Ua J J <| Nk [4] J <| aO <| aM ?_
  exact post (n := 0) (.inr J) J J (by simp)
 refine Ua J J <| Wn <| bT J ?_
 obtain ⟨hV, hvf, hall, hf0, hf3⟩ := qA (Classical.not_not.1 h30)
 have hV1 := iO hV
 have hd01 := qC hvf hf0 hf3
 have hD := iP hV hd01.1 hd01.2
 obtain ⟨hw1, hw2⟩ := fewN_len h15
 obtain ⟨o, hoo⟩ : ∃ o, (vals ss (nq f)).mapM outN = some o := by
  cases h : (vals ss (nq f)).mapM outN with
  | none => exact absurd (lS (R' := []) (S' := []) (hB.symm.trans (dbO_2 (Classical.not_not.1 h30) h))).2.2 om
  | some o => exact ⟨o, rfl⟩
 have h9 := lS (hB.symm.trans (dbO_3 (Classical.not_not.1 h30) hoo hV1.pos))
 obtain ⟨hRo, hSb, rfl⟩ := h9
 rw [← hRo] at hoo
 obtain ⟨hvl, hvv, hvb, _⟩ := vals_ok ss (nq f) hV hvf.bd hd01.1 hd01.2
 obtain ⟨hov, hvn⟩ := outs_all hoo
 have hol : R.length = ss.length := by have := lK hoo; omega
 have hall2 : R.all vn = true := List.all_eq_true.2 fun a ha => decide_eq_true (hvn a ha)
 have hIV : IV R := fun a ha => ⟨(hvn a ha).all3.1, (hvn a ha).all3.2.1⟩
 have hSb : S = bst ss (nq f) (vals ss (nq f)) := hSb
 have hsl : S.length = ss.length := by rw [hSb]; exact jH _ _
 have hisv := (rE hD).2 hvv
 have hof : ofO ss f S = .tup [.sl (kd R.length) (R.map mc), .v (.int .i64 0)] := by rw [hSb, ofO_4 (bst_ok hD _) (Classical.not_not.1 h30), wor_bst hD hvl hvv, hoo]; rfl
 have hck : chkO ss f R = .tup [.v (.bool true), .v (.int .i64 0)] := by rw [chkO_pair, chkB_yes (Classical.not_not.1 h30) hol hall2, hov, hisv, (Classical.not_not.1 h30)]
 refine Rg 16 J <| Um J J <| aA (eL J J) J <| aW (fun h64 => ?_) (fun h64 => ?_)
 ·exact absurd J h64
 refine Um J J <| aI J (eB J) J <| aI J (aX J J) J <| aI J (bC J J J J J) J <| aI J (aL J J gG J J) J ?_
 refine aI J (aX J J) J <| aI J (eL J J) J <| aW (fun h71 => ?_) (fun h71 => ?_)
 ·exact absurd (congrArg Int.ofNat hol) h71
 refine aA (bN J J) J <| Um J J <| aI J (eB J) J <| aI J (bH (b := .v (.bool true)) (aJ J (qall_run _ R hIV om) (bM (by intro c hc; rw [List.mem_singleton] at hc; subst hc; exact (.sl _ _ fun row hr => bO dmc row hr)))) (by rw [hall2])) J <| aI J (bH (b := .v (.bool false)) (eA J) (by simp)) J <| aA (bN J J) J <| Ua J J <| Nk [2,3,6,7,62] J <| bT J <| bY <| aE <| Rg 3 J <| Um J J <| aA (bH (b := .sl (kd (vals ss (nq f)).length) ((vals ss (nq f)).map qc)) (aJ J (qrats_run _ R om hIV hvn) (bM (by intro c hc; rw [List.mem_singleton] at hc; subst hc; exact (.sl _ _ fun row hr => bO dmc row hr)))) (by rw [hov])) J <| Ua J J <| Wn <| Rg 9 J <| aA (aL (l := lvMo k ss) J J gG J J) J ?_
 refine aA (aL (l := lvM f) J J gG J J) J ?_
 refine Um J J <| aA (bH (b := .tup [.sl (kd R.length) (R.map mc), .v (.int .i64 0)]) (aJ J (dof_run k _ ss f S hI hf1 hf2 om) (bM (by intro c hc; simp only [List.mem_cons, List.not_mem_nil, or_false] at hc; rcases hc with rfl | rfl | rfl; exact jB; exact jB; exact (.sl _ _ (bO dic1))))) hof) J <| Um J J <| aA (dT J J) J <| aA (dT J J) J <| Ua J J <| Ua J J <| Nk [2,3,6,7,9,10,11] J <| Rg 9 J <| aA (aL (l := lvMo k ss) J J gG J J) J ?_
 refine aA (aL (l := lvM f) J J gG J J) J ?_
 refine Um J J <| aA (bH (b := .tup [.v (.bool true), .v (.int .i64 0)]) (aJ J (dchk_run k _ ss f R hI hf1 hf2 hIV om) (bM (by intro c hc; simp only [List.mem_cons, List.not_mem_nil, or_false] at hc; rcases hc with rfl | rfl | rfl; exact jB; exact jB; exact (.sl _ _ fun row hr => bO dmc row hr)))) hck) J <| Um J J <| aA (dT J J) J <| aA (dT J J) J <| Ua J J <| Ua J J <| Nk [2,3,6,7,9,10,11,12,13] J <| bJ (z := 34) J kR <| aC (aL (l := lvMo k ss) J J gG J J) J ?_
 refine aC (aL (l := lvM f) J J gG J J) J ?_
 refine aC (bH (b := lvQ (nq f)) (aJ J (kP f hf1 hf2 hvf) dD) J) J <| Dm J J <| aC (bH (b := .v (.bool true)) (aJ J (qis_run k _ ss (nq f) (vals ss (nq f)) hV hvf.bd hvl 268435456 (by decide) (by decide) hvb) (bM (by intro c hc; simp only [List.mem_cons, List.not_mem_nil, or_false] at hc; rcases hc with rfl | rfl | rfl; exact jB; exact jB; exact (.sl _ _ fun row hr => bO dqc row hr)))) (by rw [hisv])) J <| Dm J J <| bV J (eB J) J <| bV J (aL (l := lvMo k ss) J J gG J J) J ?_
 refine bV J (aL (l := lvM f) J J gG J J) J ?_
 refine bV J (bH (b := lvQ (nq f)) (aJ J (kP f hf1 hf2 hvf) dD) J) J <| bV J (eB J) J <| bV J (bH (b := .sl (kd S.length) (S.map ic)) (aJ J (qpicks_run k _ ss (nq f) (vals ss (nq f)) hV hvf.bd hvl 268435456 (by decide) (by decide) hvb) (bM (by intro c hc; simp only [List.mem_cons, List.not_mem_nil, or_false] at hc; rcases hc with rfl | rfl | rfl; exact jB; exact jB; exact (.sl _ _ fun row hr => bO dqc row hr)))) (by rw [hSb]; rfl)) J <| bV J (bH (b := .v (.bool true)) (aJ J (leq_run _ _ S S om) (bM (by intro c hc; simp only [List.mem_cons, List.not_mem_nil, or_false] at hc; rcases hc with rfl | rfl; exact (.sl _ _ (bO dic1)); exact (.sl _ _ (bO dic1))))) (by simp)) J <| aC (bL J J) J <| Dm J J <| bV J (eB J) J <| bV J (bH (b := .v (.bool true)) (eC J J) (by simp)) J <| aC (bL J J) J <| Dm J J <| bV J (eB J) J <| bV J (eB J) J <| bV J (aJ J (pP _ _ R om) (bM (by intro c hc; simp only [List.mem_cons, List.not_mem_nil, or_false] at hc; rcases hc with rfl | rfl; exact (.sl _ _ fun row hr => bO dmc row hr); exact (.sl _ _ fun row hr => bO dmc row hr)))) J <| aC (bL J J) J <| Dm J J <| bV J (eB J) J <| bV J (bH (b := .v (.bool true)) (eC J J) (by simp)) J <| aC (bL J J) J <| Dm J J <| bV J (eB J) J <| aC (bL J J) J <| Dm J J <| bV J (aJ J (lV) dD) J <| aC (bL J J) J ?_
 refine aC (gO J) J <| bD (aP kR) J <| Ck [4] J <| aO ?_
 exact post (n := 0) (.inr J) J J (by simp)
end Go.Proofs.YtahljdjhhapngaaGreat
