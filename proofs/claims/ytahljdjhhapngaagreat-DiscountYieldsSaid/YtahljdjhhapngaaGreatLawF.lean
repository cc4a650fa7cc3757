/- Part F of the proof of discountYields_holds: what it rests on. No condition. -/
import Derived.Test.YtahljdjhhapngaaGreatLawE
set_option linter.unusedVariables false
set_option linter.unusedSimpArgs false
set_option maxRecDepth 100000
set_option maxHeartbeats 16000000
namespace Go.Proofs.YtahljdjhhapngaaGreat
open Go.Ab Go.RowKit
theorem law_yields (k kn : Nat) (ss : List Go.Ab.ST) (f : NM) (ns : List NM) (hI : ∀ s, s ∈ ss → IS s) (hf1 : I64 f.1) (hf2 : I64 f.2) (hns : IV ns) : Run Tryz.prog T E0 (.call 7 [lvMo k ss, lvM f, .sl kn (ns.map mc)] (.v (.bool true))) := by
 obtain ⟨g, e, hge⟩ := gapO_pair ss f ns
 obtain ⟨hyl, hyr⟩ := ydR_len (ss := ss) (f := f) (ns := ns) (fun hV => (iL hV).wt.len) (fun hV x hx => ((iL hV).cs x hx).2)
 refine bF Tryz.func7 J J (dH J) ?_
 have J5 : ∀ (hn60 : ns.length ≤ 60) (n : Nat) , WC Tryz.prog T E0 Tryz.f7.ntmps (codeR (codeR (codeR (codeR (codeOf Tryz.f7))))) [(2, .sl kn (ns.map mc)), (3, .ptr 0 0), (4, .ptr (0 + 1) 0), (7, .v (.int .i64 (eD ss f []))), (8, .v (.bool (chkB ss f ns)))] [((0 + 1), { cells := mc f, sz := 2, elem := (26), st := 0 }), (0, { cells := [.sl k (ss.map stc)], sz := 1, elem := (24), st := 0 })] n (Post T Tryz.f7.results.toList (.v (.bool true))) := by
  intro hn60 n
  refine Rg 9 J <| aA (aL (l := lvMo k ss) J J gG J J) J ?_
  refine aA (aL (l := lvM f) J J gG J J) J ?_
  refine Um J J <| aA (bH (b := .tup [.sl (kd (ydR ss f ns).length) (((ydR ss f ns).map kM).map fM), .v (.int .i64 (ydE ss f ns))]) (aI J (rH k kn ss f ns hI hf1 hf2 hns om) (bG (by intro c hc; simp only [List.mem_cons, List.not_mem_nil, or_false] at hc; rcases hc with rfl | rfl | rfl; exact gH; exact gH; exact (.sl _ _ fun row hr => bK oQ row hr)))) (qU ss f ns)) J <| Um J J <| aA (dG J J) J <| aA (dG J J) J <| Ua J J <| Ua J J <| Wn <| Rg 10 J <| aA (aL (l := lvMo k ss) J J gG J J) J ?_
  refine aA (aL (l := lvM f) J J gG J J) J ?_
  refine Um J J <| aA (bH (b := .tup [lvM g, .v (.int .i64 e)]) (aI J (qgap_run k kn ss f ns hI hf1 hf2 hns om) (bG (by intro c hc; simp only [List.mem_cons, List.not_mem_nil, or_false] at hc; rcases hc with rfl | rfl | rfl; exact gH; exact gH; exact (.sl _ _ fun row hr => bK oQ row hr)))) hge) J <| Um J J <| aA (dG J J) J <| aA (dG J J) J <| bA (dJ J) J <| aW (bX (cs' := mc g) J J J g0 J J J J) <| Ua J J <| Nk [2,3,4,7,8,9,10,11,12] J <| Rg 9 J <| aA (aL (l := lvMo k ss) J J gG J J) J ?_
  refine aA (aL (l := lvM f) J J gG J J) J ?_
  refine Um J J <| aA (bH (b := .tup [.v (.bool (chkB ss f ns)), .v (.int .i64 (eD ss f []))]) (aI J (dchk_run k kn ss f ns hI hf1 hf2 hns om) (bG (by intro c hc; simp only [List.mem_cons, List.not_mem_nil, or_false] at hc; rcases hc with rfl | rfl | rfl; exact gH; exact gH; exact (.sl _ _ fun row hr => bK oQ row hr)))) (chkO_pair ss f ns)) J <| Um J J <| aA (dG J J) J <| aA (dG J J) J <| Ua J J <| Ua J J <| Nk [2,3,4,7,8,9,10,11,12,13,14] J <| Rg 9 J <| aA (aL (l := lvMo k ss) J J gG J J) J ?_
  refine aA (aL (l := lvM f) J J gG J J) J ?_
  refine Um J J <| aA (bH (b := .tup [.sl (kd (ydR ss f ns).length) (((ydR ss f ns).map kM).map fM), .v (.int .i64 (ydE ss f ns))]) (aI J (qY k kn ss f ns hI hf1 hf2 hns om) (bG (by intro c hc; simp only [List.mem_cons, List.not_mem_nil, or_false] at hc; rcases hc with rfl | rfl | rfl; exact gH; exact gH; exact (.sl _ _ fun row hr => bK oQ row hr)))) (qU ss f ns)) J <| Um J J <| aA (dG J J) J <| aA (dG J J) J <| Ua J J <| Ua J J <| Nk [2,3,4,7,8,9,10,11,12,13,14,15,16] J <| Rg 10 J <| aA (aL (l := lvMo k ss) J J gG J J) J ?_
  refine aA (aL (l := lvM f) J J gG J J) J ?_
  refine Um J J <| aA (bH (b := .tup [lvM g, .v (.int .i64 e)]) (aI J (dgap_run k kn ss f ns hI hf1 hf2 hns om) (bG (by intro c hc; simp only [List.mem_cons, List.not_mem_nil, or_false] at hc; rcases hc with rfl | rfl | rfl; exact gH; exact gH; exact (.sl _ _ fun row hr => bK oQ row hr)))) hge) J <| Um J J <| aA (dG J J) J <| aA (dG J J) J <| bA (dJ J) J <| aW (bX (cs' := mc g) J J J g0 J J J J) <| Ua J J <| Nk [7,8,9,10,11,12,13,14,15,16,17,18] J <| Rg 32 J <| Um J J <| Um J J <| aA (bH (b := .v (.bool true)) (oEqB J J J) (by simp)) J <| Um J J <| aJ J (eG J) J <| aJ J (eG J) J <| aJ J (bH (b := .v (.bool true)) (eM J J) (by simp)) J <| aA (bL J J) J <| Um J J <| aJ J (eG J) J <| aJ J (eG J) J <| aJ J (bH (b := .v (.bool true)) (eM J J) (by simp)) J <| aA (bL J J) J ?_
  refine Um J J <| aJ J (eG J) J <| aJ J (eG J) J <| aJ J (aI J (msame_run _ _ ((ydR ss f ns).map kM) (by rw [List.length_map]; omega) (fun r hr => by obtain ⟨x, hx, rfl⟩ := List.mem_map.1 hr; have := hyr x hx; show x.length < _; omega)) (bG (by intro c hc; simp only [List.mem_cons, List.not_mem_nil, or_false] at hc; rcases hc with rfl | rfl; exact (.sl _ _ fun row hr => bK dfM row hr); exact (.sl _ _ fun row hr => bK dfM row hr)))) J <| aA (bL J J) J <| Um J J <| aJ J (eG J) J <| aJ J (eG J) J <| aJ J (bH (b := .v (.bool true)) (eM J J) (by simp)) J <| aA (bL J J) J <| Um J J <| aJ J (aL (l := lvM g) J J gG J J) J ?_
  refine aJ J (aL (l := lvM g) J J gG J J) J ?_
  refine aJ J (bH (b := .v (.bool true)) (oEqS J J J J J) (by simp)) J <| aA (bL J J) J <| Um J J <| aJ J (aI J (awake_run) dD) J <| aA (bL J J) J <| Ua J J <| Nk [6] J <| aP <| post (n := 0) (.inr J) J ?_ dD
  rfl
 refine Rg 3 J <| bA (dL J J) J <| bA (dL J J) J <| Ua J J <| Wn <| aB <| Rg 4 J <| aA (aL (l := lvMo k ss) J J gG J J) J ?_
 refine Um J J <| aA (aI J (dfew_run k 0 kn ss [] ns) (bG (by intro c hc; simp only [List.mem_cons, List.not_mem_nil, or_false] at hc; rcases hc with rfl | rfl | rfl; exact gH; exact (.sl 0 [] (by simp)); exact (.sl _ _ fun row hr => bK oQ row hr)))) J <| eH (fun h21 => ?_) (fun h21 => ?_)
 rotate_left
 ·refine aA (dS J) J <| Wn <| aT J <| aB <| Rg 2 J <| aA (aI J (awake_run) dD) J <| Ua J J <| Wn <| aY ?_
  exact post (n := 0) (.inr J) J J (by simp)
 refine aA (dS J) J <| Wn <| aU J <| aF ?_
 have hn60 := few_ns h21
 refine Rg 4 J <| aA (aL (l := lvMo k ss) J J gG J J) J ?_
 refine aA (aL (l := lvM f) J J gG J J) J ?_
 refine aA (aI J (qasked_run k 0 ss f [] hI hf1 hf2 (by intro a ha; cases ha) (by decide)) (bG (by intro c hc; simp only [List.mem_cons, List.not_mem_nil, or_false] at hc; rcases hc with rfl | rfl | rfl; exact gH; exact gH; exact (.sl 0 [] (by simp))))) J <| Ua J J <| Wn <| bI (z := 23) J kR <| Dm J J <| aC (eM J J) J <| jZ (fun h28 => ?_) (fun h28 => ?_)
 rotate_left
 ·refine Dm J J <| bT J J <| bT J J <| bT J J <| bT J J <| bT J J <| bT J J <| aC (bO J J) J <| Dm J J <| bT J J <| bT J J <| aC (bO J J) J <| Dm J J <| bT J J <| bT J J <| bT J J <| bT J J <| bT J J <| bT J J <| aC (bH (b := .v (.bool (chkB ss f ns))) (bO J J) (by first | exact congrArg (fun z => LV.v (.bool z)) (oP h28 om h39).symm | exact congrArg (fun z => LV.v (.bool z)) (oO h39).symm | exact congrArg (fun z => LV.v (.bool z)) (oN om).symm | exact congrArg (fun z => LV.v (.bool z)) (oM h28).symm)) J <| aC (gE J) J <| bC (aO kR) J <| Ck [2,3,4,7,8] J <| Ck [2,3,4,7,8] J ?_
  refine dT [((0 + 1), { cells := mc f, sz := 2, elem := (26), st := 0 }), (0, { cells := [.sl k (ss.map stc)], sz := 1, elem := (24), st := 0 })] ⟨gG, gG, trivial⟩ ?_
  exact J5 hn60 _
 refine Dm J J <| bY J (eG J) J <| bY J (aZ J J) J <| bY J (bD J J J J J) J <| bY J (aL J J J J J) J <| bY J (aZ J J) J <| bY J (eM J J) J <| jZ (fun h35 => ?_) (fun h35 => ?_)
 rotate_left
 ·refine aC (bL J J) J <| Dm J J <| bT J J <| bT J J <| aC (bO J J) J <| Dm J J <| bT J J <| bT J J <| bT J J <| bT J J <| bT J J <| bT J J <| aC (bH (b := .v (.bool (chkB ss f ns))) (bO J J) (by first | exact congrArg (fun z => LV.v (.bool z)) (oP h28 om h39).symm | exact congrArg (fun z => LV.v (.bool z)) (oO h39).symm | exact congrArg (fun z => LV.v (.bool z)) (oN om).symm | exact congrArg (fun z => LV.v (.bool z)) (oM h28).symm)) J <| aC (gE J) J <| bC (aO kR) J <| Ck [2,3,4,7,8] J <| Ck [2,3,4,7,8] J <| dT [((0 + 1), { cells := mc f, sz := 2, elem := (26), st := 0 }), (0, { cells := [.sl k (ss.map stc)], sz := 1, elem := (24), st := 0 })] ⟨gG, gG, trivial⟩ ?_
  exact J5 hn60 _
 refine aC (bL J J) J <| Dm J J <| bY J (eG J) J <| bY J (aI J (qall_run kn ns hns om) (bG (by intro c hc; rw [List.mem_singleton] at hc; subst hc; exact (.sl _ _ fun row hr => bK oQ row hr)))) J <| WD.B (fun h39 => ?_) (fun h39 => ?_)
 ·refine aC (bL J J) J <| Dm J J <| bY J (aL (l := lvMo k ss) J J gG J J) J ?_
  refine bY J (aL (l := lvM f) J J gG J J) J ?_
  refine bY J (bH (b := lvQ (nq f)) (aI J (iQ f hf1 hf2 (lH h28).2.1) dD) J) J <| bY J (eG J) J <| bY J (aI J (qN kn ns om hns (nZ h39)) (bG (by intro c hc; rw [List.mem_singleton] at hc; subst hc; exact (.sl _ _ fun row hr => bK oQ row hr)))) J <| bY J (aI J (qis_run k (kd (ns.map nq).length) ss (nq f) (ns.map nq) (lH h28).1 (lH h28).2.1.bd (by rw [List.length_map]; omega) 2 (by decide) (by decide) (nq_bd (nZ h39))) (bG (by intro c hc; simp only [List.mem_cons, List.not_mem_nil, or_false] at hc; rcases hc with rfl | rfl | rfl; exact gH; exact gH; exact (.sl _ _ fun row hr => bK dqc row hr)))) J <| aC (bH (b := .v (.bool (chkB ss f ns))) (bL J J) (by first | exact congrArg (fun z => LV.v (.bool z)) (oP h28 om h39).symm | exact congrArg (fun z => LV.v (.bool z)) (oO h39).symm | exact congrArg (fun z => LV.v (.bool z)) (oN om).symm | exact congrArg (fun z => LV.v (.bool z)) (oM h28).symm)) J <| aC (gE J) J <| bC (aO kR) J <| Ck [2,3,4,7,8] J <| Ck [2,3,4,7,8] J <| dT [((0 + 1), { cells := mc f, sz := 2, elem := (26), st := 0 }), (0, { cells := [.sl k (ss.map stc)], sz := 1, elem := (24), st := 0 })] ⟨gG, gG, trivial⟩ ?_
  exact J5 hn60 _
 refine aC (bL J J) J <| Dm J J <| bT J J <| bT J J <| bT J J <| bT J J <| bT J J <| bT J J <| aC (bH (b := .v (.bool (chkB ss f ns))) (bO J J) (by first | exact congrArg (fun z => LV.v (.bool z)) (oP h28 om h39).symm | exact congrArg (fun z => LV.v (.bool z)) (oO h39).symm | exact congrArg (fun z => LV.v (.bool z)) (oN om).symm | exact congrArg (fun z => LV.v (.bool z)) (oM h28).symm)) J <| aC (gE J) J <| bC (aO kR) J <| Ck [2,3,4,7,8] J <| Ck [2,3,4,7,8] J <| dT [((0 + 1), { cells := mc f, sz := 2, elem := (26), st := 0 }), (0, { cells := [.sl k (ss.map stc)], sz := 1, elem := (24), st := 0 })] ⟨gG, gG, trivial⟩ ?_
 exact J5 hn60 _
end Go.Proofs.YtahljdjhhapngaaGreat
