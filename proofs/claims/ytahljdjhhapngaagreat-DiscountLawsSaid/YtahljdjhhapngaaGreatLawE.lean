/- Part E of the proof of discountLaws_holds: what it rests on. No condition. -/
import Derived.Test.YtahljdjhhapngaaGreatLawD
set_option linter.unusedVariables false
set_option linter.unusedSimpArgs false
set_option maxRecDepth 100000
set_option maxHeartbeats 16000000
namespace Go.Proofs.YtahljdjhhapngaaGreat
open Go.Ab Go.RowKit
theorem mreduced_wcB (rows0 : List X1) (cols w : Nat) (hne : 0 < rows0.length) (ln : rows0.length < 1000000) (hw : Wid w (vX rows0)) (hcw : cols ≤ w) (lw : w < 1000000) (β : Nat) (hβ : β ≤ 268435456) (hgb : GB (vX rows0) cols β) : WC Tryz.prog T E0 Tryz.f129.ntmps (codeOf Tryz.f129) (argsEnv 0 [.sl 1 (rows0.map fX), .v (.int .i64 (cols : Int))]) [] 0 (fun x e h n => (x = .normal ∨ x = .ret) ∧ ∃ (q : Nat) (rows : List X1) (d : X), vX rows = (gjn (vX rows0) cols).1 ∧ d.1 = gjd (vX rows0) cols ∧ resE e T h Tryz.f129.results.toList = some [.ref 4 1 0 rows.length, outV q 1 ((gjn (vX rows0) cols).2.map d64), lvX d] ∧ getH h 4 = some { cells := (rows.map fX).flatten, sz := 1, elem := 104, st := 0 } ∧ ((gjn (vX rows0) cols).2.map d64 ≠ [] → getH h q = some { cells := ((gjn (vX rows0) cols).2.map d64).flatten, sz := 1, elem := 3, st := 0 })) := by
 obtain ⟨_, _, _, hr1, rfl, rfl, rfl⟩ := clone_own rows0 hne om
 refine Rg 3 J <| Ua J J <| Ua J J <| bA (dY J) J <| Wn <| Rg 3 J <| Um J J <| bA (oCallO J hr1 (by first | (simp [-cE]; done) | simp)) J <| Ua J J <| Wn <| Rg 3 J <| aA (aK J (gS 1 (by unfold I64; omega)) (by first | (simp [-cE]; done) | simp)) J <| bA (dY J) J <| aZ (cB (cs' := [_, _, _, _]) J J J J J J J J) <| Wn <| Rg 1 J <| Ua J J <| Wn <| aB <| Rg 2 J <| Um J J <| Um J J <| Wn <| aL ?_
 refine aY (α := Nat × Nat × (List X1) × (List Nat) × X) (fun ⟨c, q, rows, leads, d⟩ => [(6, .ptr (0 + (0 + 1 + 1)) 0), (7, .ref (0 + 3 + 1) 1 0 rows.length), (8, .ptr (0 + 3 + 3 + 1) 0), (9, outV q 1 (leads.map d64)), (18, .v (.int .i64 (cols : Int))), (19, .v (.int .i64 (c : Int)))]) (fun ⟨c, q, rows, leads, d⟩ => outH q 1 3 (leads.map d64) [((0 + 3 + 1), { cells := (rows.map fX).flatten, sz := 1, elem := 104, st := 0 }), ((0 + 3 + 3 + 1), { cells := xc d, sz := 4, elem := 102, st := 0 }), (2, { cells := [.v (.int .i64 0), .sl 0 [], .v (.int .i64 0), .sl 0 []], sz := 4, elem := 102, st := 0 })]) (fun ⟨c, q, rows, leads, d⟩ n => c ≤ cols ∧ vX rows = (gjn (vX rows0) c).1 ∧ leads = (gjn (vX rows0) c).2 ∧ 8 ≤ q ∧ q < n ∧ d.1 = gjd (vX rows0) c) (fun ⟨c, q, rows, leads, d⟩ => cols - c) (0, 8, rows0, [], xint 1) ⟨J, J, J, J, J, J, trivial⟩ ⟨J, J, J, trivial⟩ ⟨Nat.zero_le _, rfl, rfl, om, om, rfl⟩ ?_
 rintro ⟨c, q, rows, leads, d⟩ n hF
 change WC _ _ _ _ _ (_ :: _) (outH _ _ _ _ _) n _
 obtain ⟨hc, hv, hld, hq5, hqn, hdv⟩ := hF
 have GI := hgb.all hw hcw c hc
 have hrl0 : rows.length = rows0.length := by rw [← cW rows, hv, cS, cW]
 have hll : leads.length ≤ rows.length := by have := GI.led; rw [cW] at this; rw [hld]; omega
 have hwid : ∀ i, i < rows.length → (rows.getD i default).2.length = w := by
  intro i hi
  have := GI.wid.row (i := i) (by rw [← hv, cW]; exact hi)
  rw [← hv, dB] at this
  simpa using this
 refine Rg 1 J <| aA (bS J J) J <| aW (fun h20 => ?_) (fun h20 => ?_)
 rotate_left
 ·refine Wn <| aT J <| aV <| aQ <| aN J <| bI (z := 6) J kR <| Dm J J <| Dm J J <| aF (aM (l := .agg [_, _, _, _]) J J (aG om (g1 (by decide) g0)) J J) J <| aF (iE J) J <| aF (iE J) J <| cA (cB (cs' := [_, _, _, _]) J J J (aG om (g1 (by decide) (g1 (by decide) g0))) J J J J) <| bD (aR kR) J <| aO ?_
  have hcc : c = cols := by omega
  subst hcc
  refine ⟨.inr J, q, rows, d, hv, hdv, ?_, g1 (by decide) (aG om g0), ?_⟩
  ·rw [← hld]; rfl
  ·rw [← hld]; exact fun hu => g1 om (dA hu)
 refine Wn <| aS J <| aD <| aL <| Rg 2 J <| Um J J <| Ua J J <| Wn <| Rg 3 J <| Um J J <| aA (oLenO J J) J <| Ua J J <| Wn <| Rg 2 J <| Um J J <| Ua J J <| Wn <| aL <| aY (α := Nat) (fun a => [(6, .ptr (0 + (0 + 1 + 1)) 0), (7, .ref (0 + 3 + 1) 1 0 rows.length), (8, .ptr (0 + 3 + 3 + 1) 0), (9, outV q 1 (leads.map d64)), (10, .v (.int .i64 (c : Int))), (11, .v (.int .i64 (leads.length : Int))), (12, .v (.int .i64 (a : Int))), (18, .v (.int .i64 (cols : Int))), (19, .v (.int .i64 (c : Int)))]) (fun a => outH q 1 3 (leads.map d64) [((0 + 3 + 1), { cells := (rows.map fX).flatten, sz := 1, elem := 104, st := 0 }), ((0 + 3 + 3 + 1), { cells := xc d, sz := 4, elem := 102, st := 0 }), (2, { cells := [.v (.int .i64 0), .sl 0 [], .v (.int .i64 0), .sl 0 []], sz := 4, elem := 102, st := 0 })]) (fun a n => leads.length ≤ a ∧ a ≤ rows.length ∧ (∀ k, leads.length ≤ k → k < a → ent (vX rows) k c = 0) ∧ q < n) (fun a => rows.length - a) (leads.length) ⟨J, J, J, J, J, J, J, J, J, trivial⟩ (dJ dA (aG om g0) (aG om (g1 (by decide) g0)) (aG om (g1 (by decide) (g1 (by decide) g0)))) ⟨Nat.le_refl _, hll, by intro k h1 h2; omega, om⟩ ?_
 rintro a n hG
 change WC _ _ _ _ _ (_ :: _) (outH _ _ _ _ _) n _
 obtain ⟨hle1, hle2, hz, hqn2⟩ := hG
 refine aB <| Rg 15 J <| Um J J <| Um J J <| aA (lO J J) J <| aA (bS J J) J <| aW (fun h28 => ?_) (fun h28 => ?_)
 rotate_left
 ·refine Um J J <| K1 J J <| K1 J J <| K1 J J <| K1 J J <| K1 J J <| K1 J J <| K1 J J <| K1 J J <| K1 J J <| aA (bM J J) J <| Nk [6,7,8,9,10,11,12,18,19,30,31,32,33,34,35,36,37,38,39] J <| aT J <| aV <| aQ <| aN J <| Ck [6,7,8,9,10,11,12,18,19,30,31,32,33,34,35,36,37,38] J <| aB <| Rg 4 J <| Um J J <| Um J J <| aA (lO J J) J <| aA (eC J J) J ?_
  refine aW (fun h45 => ?_) (fun h45 => ?_)
  rotate_left
  ·omega
  refine Nk [6,7,8,9,10,11,12,18,19,30,31,32,33,34,35,36,37,38,45] J <| aS J <| aV <| aN J <| Ck [6,7,8,9,18,19,30,31,32,33,34,35,36,37,38] J <| aI (z := 2) J <| aA (cI (((c + 1 : Nat) : Int)) (aP J J om) om) J <| Um J J <| Wn <| aC ?_
  have hpv : pivot (vX rows) leads.length c = a := jX hle1 (by rw [cW]; exact hle2) hz (.inl (by rw [cW]; omega))
  have hpn : pivot (gjn (vX rows0) c).1 (gjn (vX rows0) c).2.length c = (gjn (vX rows0) c).1.length := by rw [← hv, ← hld, hpv, cW]; omega
  refine ⟨⟨c + 1, q, rows, leads, d⟩, ⟨J, J, J, J, J, J, trivial⟩, (dJ dA (aG om g0) (aG om (g1 (by decide) g0)) (aG om (g1 (by decide) (g1 (by decide) g0)))), ⟨om, by rw [lI hpn]; exact hv, by rw [lI hpn]; exact hld, om, om, by rw [gjd_no hpn]; exact hdv⟩, by show cols - (c + 1) < cols - c; omega⟩
 refine Um J J <| aJ J (dG J) J <| aJ J (dG J) J <| aJ J (cH (j := a) J J J J om om J) J <| aJ J (eL (f := fX) (us := rows) (j := a) J J (aG om g0) (fun _ => rfl) J (by decide) om J) J <| aJ J (dG J) J <| aJ J (bQ J J J J J (by have := hwid a om; omega) J) J <| aJ J (cZ (l := .agg [_, _, _, _]) J J J) J <| aJ J (aK J (gR ((rows.getD a default).2.getD c default)) (by first | (simp [-cE]; done) | simp)) J <| aJ J (eC J J) J <| aW (fun h38 => ?_) (fun h38 => ?_)
 ·have hez : ent (vX rows) a c = 0 := by rw [← iF]; exact fE.1 h38
  refine aA (bO J J) J <| Nk [6,7,8,9,10,11,12,18,19,30,31,32,33,34,35,36,37,38,39] J <| aS J <| aD <| bY <| aI (z := 3) J <| Um J J <| aA (cI (((a + 1 : Nat) : Int)) (aP J J om) om) J <| Ua J J <| Wn <| cC <| aC <| ⟨a + 1, ⟨J, J, J, J, J, J, J, J, J, trivial⟩, (dJ dA (aG om g0) (aG om (g1 (by decide) g0)) (aG om (g1 (by decide) (g1 (by decide) g0)))), ⟨om, om, ?_, om⟩, by show rows.length - (a + 1) < rows.length - a; omega⟩
  intro k h1 h2
  by_cases e : k = a
  ·subst e; exact hez
  ·exact hz k h1 om
 have hen : ent (vX rows) a c ≠ 0 := by rw [← iF]; exact fun k => h38 (fE.2 k)
 refine aA (bO J J) J <| Nk [6,7,8,9,10,11,12,18,19,30,31,32,33,34,35,36,37,38,39] J <| aT J <| aV <| aQ <| aN J <| Ck [6,7,8,9,10,11,12,18,19,30,31,32,33,34,35,36,37,38] J <| aB <| Rg 4 J <| Um J J <| Um J J <| aA (lO J J) J <| aA (eC J J) J <| aW (fun h45 => ?_) (fun h45 => ?_)
 ·omega
 refine Nk [6,7,8,9,10,11,12,18,19,30,31,32,33,34,35,36,37,38,45] J <| aT J <| aD <| aB ?_
 have hrl : leads.length < rows.length := by omega
 have hpv : pivot (vX rows) leads.length c = a := jX hle1 (by rw [cW]; exact hle2) hz (.inr hen)
 rw [hv, hld] at hpv
 have hal : a < (gjn (vX rows0) c).1.length := by rw [← hv, cW]; omega
 have hgy := mA hpv hal
 have hsp : ent (sw (vX rows) a leads.length) leads.length c ≠ 0 := by rw [lH (by rw [cW]; omega) (by rw [cW]; omega)]; exact hen
 have hbv : BdL (β) (vX rows) := by rw [hv]; exact GI.bds om
 have hbc : β ≤ 268435456 := hβ
 have hbp := hgb.pos
 have hdb : Bd β d.1 := by rw [hdv]; exact hgb.dts c om
 obtain ⟨M, hM⟩ : ∃ M, M = mid (vX rows) a leads.length c := ⟨_, rfl⟩
 have hMl : M.length = rows.length := by rw [hM, oD, cW]
 have hMb : BdL (2 * β + 1) M := by rw [hM]; exact hbv.mid om hsp
 have hMw : Wid w M := by rw [hM]; exact (show Wid w (vX rows) by rw [hv]; exact GI.wid).mid (by rw [cW]; omega) (by rw [cW]; omega) c
 refine Rg 3 J <| Um J J <| Um J J <| aA (dS J J) J <| aW (fun h48 => ?_) (fun h48 => ?_)
 rotate_left
 ·refine Nk [6,7,8,9,10,11,12,18,19,30,31,32,33,34,35,36,37,38,48] J <| aT J <| aD ?_
  obtain ⟨rows1, hr1⟩ : ∃ z, z = rows := ⟨_, rfl⟩
  obtain ⟨d1, hd1e⟩ : ∃ z, z = d := ⟨_, rfl⟩
  have hae : a = leads.length := by omega
  have hd1 : d1.1 = d.1 := by rw [hd1e]
  have hv1 : vX rows1 = sw (vX rows) a leads.length := by rw [hr1, hae, sw_same (by rw [cW]; omega)]
  have hl1 : rows1.length = rows.length := by simp [hr1]
  have hp1 : ((rows1.getD leads.length default).2.getD c default).1 ≠ 0 := by rw [iF, hv1]; exact hsp
  have hb1 : BdL (β) (vX rows1) := by rw [hv1]; exact hbv.sw _ _
  have hbr : ∀ x, x ∈ (rows1.getD leads.length default).2 → Bd (β) x.1 := by
   intro x hx
   have := hb1.row leads.length
   rw [dB] at this
   exact this _ (List.mem_map.2 ⟨x, hx, rfl⟩)
  have hwr : (rows1.getD leads.length default).2.length = w := by
   have := ((show Wid w (vX rows) by rw [hv]; exact GI.wid).sw (i := a) (r := leads.length) (by rw [cW]; omega) (by rw [cW]; omega)).row (i := leads.length) (by rw [jJ, cW]; omega)
   rw [← hv1, dB, List.length_map] at this; exact this
  have hbpp := hbr _ (bC (show c < (rows1.getD leads.length default).2.length by omega))
  have hb1p := Bd1.div hbpp hp1
  obtain ⟨p, hpe⟩ : ∃ p, p = (rows1.getD leads.length default).2.getD c default := ⟨_, rfl⟩
  have hpv1 : p.1 = ent (vX rows) a c := by rw [hpe, iF, hv1, lH (by rw [cW]; omega) (by rw [cW]; omega)]
  have hd1b : Bd (β) d1.1 := by rw [hd1]; exact hdb
  have hd2v : (xmul d1 p).1 = gjd (vX rows0) (c + 1) := by
   rw [nX hpv hal, ← hv, ← hld]
   show d1.1 * p.1 = _
   rw [hpv1, hd1, if_neg om, hdv]
  refine eI (outH q 1 3 (leads.map d64) [((0 + 3 + 1), { cells := (rows1.map fX).flatten, sz := 1, elem := 104, st := 0 }), ((0 + 3 + 3 + 1), { cells := xc d1, sz := 4, elem := 102, st := 0 }), (2, { cells := [.v (.int .i64 0), .sl 0 [], .v (.int .i64 0), .sl 0 []], sz := 4, elem := 102, st := 0 })]) (dJ dA (aG om (g0.trans (by rw [hr1]))) (aG om (g1 (by decide) (g0.trans (by rw [hd1e])))) (aG om (g1 (by decide) (g1 (by decide) g0)))) <| Rg 9 J <| Um J J <| Um J J <| aA (cH (j := leads.length) J J J J om om J) J <| aA (eL (f := fX) (us := rows1) (j := leads.length) J J (aG om g0) (fun _ => rfl) J (by decide) om J) J <| Um J J <| aA (bQ J J J J J om J) J <| aA (bK (b := lvX p) (cZ (l := .agg [_, _, _, _]) J J J) (by rw [hpe]; rfl)) J <| bA (dY J) J <| aZ (cB (cs' := xc p) J J J g0 J J J J) <| Nk [6,7,8,9,10,11,13,18,19,30,31,32,33,34,35,36,37,38] J <| Rg 4 J <| aA (aM (l := .agg [_, _, _, _]) J J (g1 om (g1 om (aG om (g1 (by decide) g0)))) J J) J <| aA (aM (l := lvX p) J J g0 J J) J <| aA (aK J (iW d1 p (hd1b.mono om) (by rw [hpe]; exact hbpp.mono om)) (by first | (simp [-cE]; done) | simp)) J <| aZ (cB (cs' := [_, _, _, _]) J J J (g1 om (g1 om (aG om (g1 (by decide) g0)))) J J J J) <| Nk [6,7,8,9,10,11,13,18,19,30,31,32,33,34,35,36,37,38] J ?_
  obtain ⟨r, hr, np, rfl, hnp⟩ := qH (rows1.getD leads.length default).1 (rows1.getD leads.length default).2 (xdiv (xint 1) p) om (fun x hx => (hbr x hx).mono om) (by rw [hpe]; exact hb1p.mono om)
  refine bI (z := 12) J kR <| Dm J J <| Dm J J <| Dm J J <| Dm J J <| aF (cH (j := leads.length) J J J J om om J) J <| aF (eL (f := fX) (us := rows1) (j := leads.length) J J (g1 om (g1 om (g1 om (aG om g0)))) (fun _ => rfl) J (by decide) om J) J <| aF (aK J (gS 1 (by unfold I64; omega)) (by first | (simp [-cE]; done) | simp)) J <| aF (aM (l := lvX p) J J (g1 om g0) J J) J <| aF (aK J (rdiv_run (xint 1) p (by rw [hpe]; exact hp1) (Bd1.mono om) (by rw [hpe]; exact hbpp.mono om)) (by first | (simp [-cE]; done) | simp)) J <| aF (aK J (hr) (by first | (simp [-cE]; done) | simp)) J <| aF (cH (j := leads.length) J J J J om om J) J <| cA (eF (f := fX) (us := rows1) (1, np) J J J (g1 om (g1 om (g1 om (aG om g0)))) (fun _ => rfl) J J om J) <| bD (aR kR) J <| Ck [6,7,8,9,10,11,18,19,30,31,32,33,34,35,36,37,38] J <| aB ?_
  obtain ⟨rowsM, hr2⟩ : ∃ z, z = rows1.set leads.length (1, np) := ⟨_, rfl⟩
  rw [← hr2]
  have hl2 : rowsM.length = rows.length := by rw [hr2, List.length_set]; exact hl1
  have hv2 : vX rowsM = M := by
   rw [hr2, pY, hv1, hM]; unfold mid
   rw [hnp, ← dB, hv1]
   have : (xdiv (xint 1) p).1 = 1 / ent (sw (vX rows) a leads.length) leads.length c := by show (1 : Rat) / p.1 = _; rw [hpv1, lH (by rw [cW]; omega) (by rw [cW]; omega)]
   rw [this]
  refine Rg 3 J <| Um J J <| aA (lO J J) J <| Um J J <| Nk [6,7,8,9,10,11,18,19,30,31,32,33,34,35,36,37,38,87,88] J <| aL <| aY (α := Nat × (List X1)) (fun ⟨j, rows2⟩ => [(6, .ptr (0 + (0 + 1 + 1)) 0), (7, .ref (0 + 3 + 1) 1 0 rows2.length), (8, .ptr (0 + 3 + 3 + 1) 0), (9, outV q 1 (leads.map d64)), (10, .v (.int .i64 (c : Int))), (11, .v (.int .i64 (leads.length : Int))), (18, .v (.int .i64 (cols : Int))), (19, .v (.int .i64 (c : Int))), (87, .v (.int .i64 (rows.length : Int))), (88, .v (.int .i64 (j : Int)))]) (fun ⟨j, rows2⟩ => outH q 1 3 (leads.map d64) [((0 + 3 + 1), { cells := (rows2.map fX).flatten, sz := 1, elem := 104, st := 0 }), ((0 + 3 + 3 + 1), { cells := xc (xmul d1 p), sz := 4, elem := 102, st := 0 }), (2, { cells := [.v (.int .i64 0), .sl 0 [], .v (.int .i64 0), .sl 0 []], sz := 4, elem := 102, st := 0 })]) (fun ⟨j, rows2⟩ n => j ≤ rows.length ∧ rows2.length = rows.length ∧ (∀ k, k < rows.length → (vX rows2).getD k default = if k < j then elr M leads.length c k else M.getD k default) ∧ q < n) (fun ⟨j, rows2⟩ => rows.length - j) (0, rowsM) ⟨rfl, congrArg some (by rw [hl2]), rfl, rfl, rfl, rfl, rfl, rfl, rfl, rfl, trivial⟩ (dJ (fun hu => (g1 om (g1 om (g1 om (g1 om (dA hu)))))) g0 (g1 om g0) (g1 om (g1 om (g1 om (g1 om (aG om (g1 (by decide) (g1 (by decide) g0)))))))) ⟨Nat.zero_le _, hl2, by intro k hk; rw [if_neg om, hv2], om⟩ ?_
  rintro ⟨j, rows2⟩ n hJ
  change WC _ _ _ _ _ (_ :: _) (outH _ _ _ _ _) n _
  obtain ⟨hjl, hl4, hst, hqn4⟩ := hJ
  refine Rg 1 J <| aA (bS J J) J <| aW (fun h89 => ?_) (fun h89 => ?_)
  rotate_left
  ·refine Wn <| aT J <| aV <| aQ <| aN J ?_
   have hfin : vX rows2 = elim M leads.length c := elim_eq (j := j) (by rw [cW]; omega) om (by rw [hMl]; exact hst)
   refine aI (z := 5) J <| Um J J <| Um J J <| aA (cU (cs := [_]) (rows := [[_]]) J J (by decide) J J J) J <| cY (te := ti3) (f := d64) (q := q) (us := leads) (u := c) J J J J J (fun _ => rfl) (by decide) (by show (2 * (leads.length + 1) + 256) * 8 ≤ _; omega) om (gN om (gN om (gN om J))) (gN om (gN om (gN om J))) J <| Ua J J <| Wn <| aE <| Ck [6,7,8,9,18,19] J <| aI (z := 2) J <| aA (cI (((c + 1 : Nat) : Int)) (aP J J om) om) J <| Um J J <| Wn <| aC <| ⟨⟨c + 1, _, rows2, leads ++ [c], xmul d1 p⟩, ⟨J, J, J, J, J, J, trivial⟩, (dJ dA (aG om g0) (aG om (g1 (by decide) g0)) (aG om (g1 (by decide) (g1 (by decide) g0)))), ⟨om, by rw [hgy, hfin, hM, hv, hld], by rw [hgy, hld], om, om, hd2v⟩, by show cols - (c + 1) < cols - c; omega⟩
  refine Wn <| aS J <| aD <| aL <| Rg 2 J <| Um J J <| Ua J J <| cO ?_
  have hrj : vX rows2 = vX rows2 := rfl
  have hj1 : (vX rows2).getD j default = M.getD j default := by rw [hst j om, if_neg om]
  have hj2 : (vX rows2).getD leads.length default = M.getD leads.length default := elim_row om (by rw [hMl]; exact hst)
  have hej : ent (vX rows2) j c = ent M j c := by unfold ent; rw [hj1]
  have hwj : (rows2.getD j default).2.length = w := by have := hMw.row (i := j) om; rw [← hj1, dB] at this; simpa using this
  have hwl : (rows2.getD leads.length default).2.length = w := by have := hMw.row (i := leads.length) om; rw [← hj2, dB] at this; simpa using this
  refine Rg 14 J <| Um J J <| Um J J <| aA (dS J J) J <| aW (fun h93 => ?_) (fun h93 => ?_)
  rotate_left
  ·refine Um J J <| K1 J J <| K1 J J <| K1 J J <| K1 J J <| K1 J J <| K1 J J <| K1 J J <| K1 J J <| K1 J J <| aA (bM J J) J <| Nk [6,7,8,9,10,11,14,18,19,87,88,95,96,97,98,99,100,101,102,103,104] J <| bR J <| bT <| aE <| Ck [6,7,8,9,10,11,18,19,87,88,95,96,97,98,99,100,101,102,103] J <| aI (z := 2) J <| aA (cI (((j + 1 : Nat) : Int)) (aP J J om) om) J <| Um J J <| Wn <| aC <| ⟨⟨j + 1, rows2⟩, ⟨J, J, J, J, J, J, J, J, J, J, trivial⟩, (dJ dA (aG om g0) (aG om (g1 (by decide) g0)) (aG om (g1 (by decide) (g1 (by decide) g0)))), ⟨om, hl4, (by have := lY (A := vX rows2) (M := M) (j := j) om (by rw [hMl]; exact hst) (nV (.inl om)).symm; rwa [hMl] at this), om⟩, by show rows.length - (j + 1) < rows.length - j; omega⟩
  refine Um J J <| aJ J (dG J) J <| aJ J (dG J) J <| aJ J (cH (j := j) J J J J om om J) J <| aJ J (eL (f := fX) (us := rows2) (j := j) J J (aG om g0) (fun _ => rfl) J (by decide) om J) J <| aJ J (dG J) J <| aJ J (bQ J J J J J om J) J <| aJ J (cZ (l := .agg [_, _, _, _]) J J J) J <| aJ J (aK J (gR ((rows2.getD j default).2.getD c default)) (by first | (simp [-cE]; done) | simp)) J <| aJ J (dS J J) J <| aW (fun h103 => ?_) (fun h103 => ?_)
  rotate_left
  ·refine aA (bO J J) J <| Nk [6,7,8,9,10,11,14,18,19,87,88,95,96,97,98,99,100,101,102,103,104] J <| bR J <| bT <| aE <| Ck [6,7,8,9,10,11,18,19,87,88,95,96,97,98,99,100,101,102,103] J <| aI (z := 2) J <| aA (cI (((j + 1 : Nat) : Int)) (aP J J om) om) J <| Um J J <| Wn <| aC <| ⟨⟨j + 1, rows2⟩, ⟨J, J, J, J, J, J, J, J, J, J, trivial⟩, (dJ dA (aG om g0) (aG om (g1 (by decide) g0)) (aG om (g1 (by decide) (g1 (by decide) g0)))), ⟨om, hl4, (by have := lY (A := vX rows2) (M := M) (j := j) om (by rw [hMl]; exact hst) (nV (.inr (by rw [← hej, ← iF]; exact fE.1 om))).symm; rwa [hMl] at this), om⟩, by show rows.length - (j + 1) < rows.length - j; omega⟩
  refine aA (bO J J) J <| Nk [6,7,8,9,10,11,14,18,19,87,88,95,96,97,98,99,100,101,102,103,104] J <| bV J ?_
  have hen2 : ent M j c ≠ 0 := by rw [← hej, ← iF]; exact fun k => h103 (fE.2 k)
  have hbj : ∀ x, x ∈ (rows2.getD j default).2 → Bd (2 * β + 1) x.1 := by
   intro x hx
   have := hMb.row j
   rw [← hj1, dB] at this
   exact this _ (List.mem_map.2 ⟨x, hx, rfl⟩)
  have hbl : ∀ x, x ∈ (rows2.getD leads.length default).2 → Bd (2 * β + 1) x.1 := by
   intro x hx
   have := hMb.row leads.length
   rw [← hj2, dB] at this
   exact this _ (List.mem_map.2 ⟨x, hx, rfl⟩)
  have hbe := hbj _ (bC (show c < (rows2.getD j default).2.length by omega))
  obtain ⟨r, hr, nw, rfl, hnw⟩ := mZ (rows2.getD j default).1 (rows2.getD leads.length default).1 (rows2.getD j default).2 (rows2.getD leads.length default).2 (xneg ((rows2.getD j default).2.getD c default)) om om (fun x hx => (hbj x hx).mono om) (fun x hx => (hbl x hx).mono om) (hbe.neg.mono om)
  refine dN (z := 21) J kR <| Dm J J <| Dm J J <| Dm J J <| Dm J J <| aF (cH (j := j) J J J J om om J) J <| aF (eL (f := fX) (us := rows2) (j := j) J J (aG om g0) (fun _ => rfl) J (by decide) om J) J <| Dm J J <| Dm J J <| aF (cH (j := j) J J J J om om J) J <| aF (eL (f := fX) (us := rows2) (j := j) J J (aG om g0) (fun _ => rfl) J (by decide) om J) J <| Dm J J <| aF (bQ J J J J J om J) J <| aF (cZ (l := .agg [_, _, _, _]) J J J) J <| aF (aK J (iX ((rows2.getD j default).2.getD c default)) (by first | (simp [-cE]; done) | simp)) J <| Dm J J <| Dm J J <| aF (cH (j := leads.length) J J J J om om J) J <| aF (eL (f := fX) (us := rows2) (j := leads.length) J J (aG om g0) (fun _ => rfl) J (by decide) om J) J <| aF (aK J (hr) (by first | (simp [-cE]; done) | simp)) J <| aF (cH (j := j) J J J J om om J) J <| cA (eF (f := fX) (us := rows2) (1, nw) J J J (aG om g0) (fun _ => rfl) J J om J) <| bD (aR kR) J <| aE ?_
  refine Ck [6,7,8,9,10,11,18,19,87,88,95,96,97,98,99,100,101,102,103] J <| aI (z := 2) J <| aA (cI (((j + 1 : Nat) : Int)) (aP J J om) om) J <| Um J J <| Wn <| aC <| ⟨⟨j + 1, rows2.set j (1, nw)⟩, ⟨rfl, congrArg some (by rw [List.length_set]), rfl, rfl, rfl, rfl, rfl, rfl, rfl, rfl, trivial⟩, dJ (fun hu => g1 om (dA hu)) g0 (g1 (by decide) (aG om (g1 (by decide) g0))) (g1 (by decide) (aG om (g1 (by decide) (g1 (by decide) g0)))), ⟨om, by rw [List.length_set]; exact hl4, by rw [pY]; exact (by have := elim_next (A := vX rows2) (M := M) (j := j) (by rw [cW]; omega) om (by rw [hMl]; exact hst) (x := nw.map (·.1)) (by rw [elr_pos om hen2, ← hej, ← hj1, ← hj2, dB, dB, ← iF, hnw]; rfl); rwa [hMl] at this), om⟩, by show rows.length - (j + 1) < rows.length - j; omega⟩
 refine Nk [6,7,8,9,10,11,12,18,19,30,31,32,33,34,35,36,37,38,48] J <| aS J <| aB <| bI (z := 16) J kR <| Dm J J <| Dm J J <| Dm J J <| Dm J J <| Dm J J <| Dm J J <| aF (cH (j := leads.length) J J J J om om J) J <| aF (eL (f := fX) (us := rows) (j := leads.length) J J (aG om g0) (fun _ => rfl) J (by decide) om J) J <| Dm J J <| Dm J J <| aF (cH (j := a) J J J J om om J) J <| aF (eL (f := fX) (us := rows) (j := a) J J (aG om g0) (fun _ => rfl) J (by decide) om J) J <| aF (cH (j := a) J J J J om om J) J <| cA (eF (f := fX) (us := rows) (rows.getD leads.length default) J J J (aG om g0) (fun _ => rfl) J J om J) <| aF (cH (j := leads.length) J J J J om om J) J <| cA (eF (f := fX) (us := (rows.set a (rows.getD leads.length default))) (rows.getD a default) J J J g0 (fun _ => rfl) J J (by rw [List.length_set]; omega) J) <| bD (aR kR) J <| Ck [6,7,8,9,10,11,18,19,30,31,32,33,34,35,36,37,38] J <| Rg 3 J ?_
 refine aA (aM (l := .agg [_, _, _, _]) J J (g1 om (g1 om (aG om (g1 (by decide) g0)))) J J) J <| aA (aK J (iX d) (by first | (simp [-cE]; done) | simp)) J <| aZ (cB (cs' := [_, _, _, _]) J J J (g1 om (g1 om (aG om (g1 (by decide) g0)))) J J J J) <| Nk [6,7,8,9,10,11,18,19,30,31,32,33,34,35,36,37,38] J ?_
 obtain ⟨rows1, hr1⟩ : ∃ z, z = ((rows.set a (rows.getD leads.length default)).set leads.length (rows.getD a default)) := ⟨_, rfl⟩
 obtain ⟨d1, hd1e⟩ : ∃ z, z = xneg d := ⟨_, rfl⟩
 rw [← hr1]
 have hd1 : d1.1 = -d.1 := by rw [hd1e]; rfl
 have hv1 : vX rows1 = sw (vX rows) a leads.length := by rw [hr1, pY, pY, ← dB, ← dB]; exact sw_comm om
 have hl1 : rows1.length = rows.length := by simp [hr1]
 have hp1 : ((rows1.getD leads.length default).2.getD c default).1 ≠ 0 := by rw [iF, hv1]; exact hsp
 have hb1 : BdL (β) (vX rows1) := by rw [hv1]; exact hbv.sw _ _
 have hbr : ∀ x, x ∈ (rows1.getD leads.length default).2 → Bd (β) x.1 := by
  intro x hx
  have := hb1.row leads.length
  rw [dB] at this
  exact this _ (List.mem_map.2 ⟨x, hx, rfl⟩)
 have hwr : (rows1.getD leads.length default).2.length = w := by
  have := ((show Wid w (vX rows) by rw [hv]; exact GI.wid).sw (i := a) (r := leads.length) (by rw [cW]; omega) (by rw [cW]; omega)).row (i := leads.length) (by rw [jJ, cW]; omega)
  rw [← hv1, dB, List.length_map] at this; exact this
 have hbpp := hbr _ (bC (show c < (rows1.getD leads.length default).2.length by omega))
 have hb1p := Bd1.div hbpp hp1
 obtain ⟨p, hpe⟩ : ∃ p, p = (rows1.getD leads.length default).2.getD c default := ⟨_, rfl⟩
 have hpv1 : p.1 = ent (vX rows) a c := by rw [hpe, iF, hv1, lH (by rw [cW]; omega) (by rw [cW]; omega)]
 have hd1b : Bd (β) d1.1 := by rw [hd1]; exact hdb.neg
 have hd2v : (xmul d1 p).1 = gjd (vX rows0) (c + 1) := by
  rw [nX hpv hal, ← hv, ← hld]
  show d1.1 * p.1 = _
  rw [hpv1, hd1, if_pos om, hdv]
 refine eI (outH q 1 3 (leads.map d64) [((0 + 3 + 1), { cells := (rows1.map fX).flatten, sz := 1, elem := 104, st := 0 }), ((0 + 3 + 3 + 1), { cells := xc d1, sz := 4, elem := 102, st := 0 }), (2, { cells := [.v (.int .i64 0), .sl 0 [], .v (.int .i64 0), .sl 0 []], sz := 4, elem := 102, st := 0 })]) (dJ (fun hu => (g1 om (g1 om (g1 om (dA hu))))) (g1 (by decide) g0) (g0.trans (by rw [hd1e]; rfl)) (g1 om (g1 om (g1 om (aG om (g1 (by decide) (g1 (by decide) g0))))))) <| Rg 9 J <| Um J J <| Um J J <| aA (cH (j := leads.length) J J J J om om J) J <| aA (eL (f := fX) (us := rows1) (j := leads.length) J J (aG om g0) (fun _ => rfl) J (by decide) om J) J <| Um J J <| aA (bQ J J J J J om J) J <| aA (bK (b := lvX p) (cZ (l := .agg [_, _, _, _]) J J J) (by rw [hpe]; rfl)) J <| bA (dY J) J <| aZ (cB (cs' := xc p) J J J g0 J J J J) <| Nk [6,7,8,9,10,11,13,18,19,30,31,32,33,34,35,36,37,38] J <| Rg 4 J <| aA (aM (l := .agg [_, _, _, _]) J J (g1 om (g1 om (aG om (g1 (by decide) g0)))) J J) J <| aA (aM (l := lvX p) J J g0 J J) J <| aA (aK J (iW d1 p (hd1b.mono om) (by rw [hpe]; exact hbpp.mono om)) (by first | (simp [-cE]; done) | simp)) J <| aZ (cB (cs' := [_, _, _, _]) J J J (g1 om (g1 om (aG om (g1 (by decide) g0)))) J J J J) <| Nk [6,7,8,9,10,11,13,18,19,30,31,32,33,34,35,36,37,38] J ?_
 obtain ⟨r, hr, np, rfl, hnp⟩ := qH (rows1.getD leads.length default).1 (rows1.getD leads.length default).2 (xdiv (xint 1) p) om (fun x hx => (hbr x hx).mono om) (by rw [hpe]; exact hb1p.mono om)
 refine bI (z := 12) J kR <| Dm J J <| Dm J J <| Dm J J <| Dm J J <| aF (cH (j := leads.length) J J J J om om J) J <| aF (eL (f := fX) (us := rows1) (j := leads.length) J J (g1 om (g1 om (g1 om (aG om g0)))) (fun _ => rfl) J (by decide) om J) J <| aF (aK J (gS 1 (by unfold I64; omega)) (by first | (simp [-cE]; done) | simp)) J <| aF (aM (l := lvX p) J J (g1 om g0) J J) J <| aF (aK J (rdiv_run (xint 1) p (by rw [hpe]; exact hp1) (Bd1.mono om) (by rw [hpe]; exact hbpp.mono om)) (by first | (simp [-cE]; done) | simp)) J <| aF (aK J (hr) (by first | (simp [-cE]; done) | simp)) J <| aF (cH (j := leads.length) J J J J om om J) J <| cA (eF (f := fX) (us := rows1) (1, np) J J J (g1 om (g1 om (g1 om (aG om g0)))) (fun _ => rfl) J J om J) <| bD (aR kR) J <| Ck [6,7,8,9,10,11,18,19,30,31,32,33,34,35,36,37,38] J <| aB ?_
 obtain ⟨rowsM, hr2⟩ : ∃ z, z = rows1.set leads.length (1, np) := ⟨_, rfl⟩
 rw [← hr2]
 have hl2 : rowsM.length = rows.length := by rw [hr2, List.length_set]; exact hl1
 have hv2 : vX rowsM = M := by
  rw [hr2, pY, hv1, hM]; unfold mid
  rw [hnp, ← dB, hv1]
  have : (xdiv (xint 1) p).1 = 1 / ent (sw (vX rows) a leads.length) leads.length c := by show (1 : Rat) / p.1 = _; rw [hpv1, lH (by rw [cW]; omega) (by rw [cW]; omega)]
  rw [this]
 refine Rg 3 J <| Um J J <| aA (lO J J) J <| Um J J <| Nk [6,7,8,9,10,11,18,19,30,31,32,33,34,35,36,37,38,87,88] J <| aL <| aY (α := Nat × (List X1)) (fun ⟨j, rows2⟩ => [(6, .ptr (0 + (0 + 1 + 1)) 0), (7, .ref (0 + 3 + 1) 1 0 rows2.length), (8, .ptr (0 + 3 + 3 + 1) 0), (9, outV q 1 (leads.map d64)), (10, .v (.int .i64 (c : Int))), (11, .v (.int .i64 (leads.length : Int))), (18, .v (.int .i64 (cols : Int))), (19, .v (.int .i64 (c : Int))), (87, .v (.int .i64 (rows.length : Int))), (88, .v (.int .i64 (j : Int)))]) (fun ⟨j, rows2⟩ => outH q 1 3 (leads.map d64) [((0 + 3 + 1), { cells := (rows2.map fX).flatten, sz := 1, elem := 104, st := 0 }), ((0 + 3 + 3 + 1), { cells := xc (xmul d1 p), sz := 4, elem := 102, st := 0 }), (2, { cells := [.v (.int .i64 0), .sl 0 [], .v (.int .i64 0), .sl 0 []], sz := 4, elem := 102, st := 0 })]) (fun ⟨j, rows2⟩ n => j ≤ rows.length ∧ rows2.length = rows.length ∧ (∀ k, k < rows.length → (vX rows2).getD k default = if k < j then elr M leads.length c k else M.getD k default) ∧ q < n) (fun ⟨j, rows2⟩ => rows.length - j) (0, rowsM) ⟨rfl, congrArg some (by rw [hl2]), rfl, rfl, rfl, rfl, rfl, rfl, rfl, rfl, trivial⟩ (dJ (fun hu => (g1 om (g1 om (g1 om (g1 om (dA hu)))))) g0 (g1 om g0) (g1 om (g1 om (g1 om (g1 om (aG om (g1 (by decide) (g1 (by decide) g0)))))))) ⟨Nat.zero_le _, hl2, by intro k hk; rw [if_neg om, hv2], om⟩ ?_
 rintro ⟨j, rows2⟩ n hJ
 change WC _ _ _ _ _ (_ :: _) (outH _ _ _ _ _) n _
 obtain ⟨hjl, hl4, hst, hqn4⟩ := hJ
 refine Rg 1 J <| aA (bS J J) J <| aW (fun h89 => ?_) (fun h89 => ?_)
 rotate_left
 ·refine Wn <| aT J <| aV <| aQ <| aN J ?_
  have hfin : vX rows2 = elim M leads.length c := elim_eq (j := j) (by rw [cW]; omega) om (by rw [hMl]; exact hst)
  refine aI (z := 5) J <| Um J J <| Um J J <| aA (cU (cs := [_]) (rows := [[_]]) J J (by decide) J J J) J <| cY (te := ti3) (f := d64) (q := q) (us := leads) (u := c) J J J J J (fun _ => rfl) (by decide) (by show (2 * (leads.length + 1) + 256) * 8 ≤ _; omega) om (gN om (gN om (gN om J))) (gN om (gN om (gN om J))) J <| Ua J J <| Wn <| aE <| Ck [6,7,8,9,18,19] J <| aI (z := 2) J <| aA (cI (((c + 1 : Nat) : Int)) (aP J J om) om) J <| Um J J <| Wn <| aC <| ⟨⟨c + 1, _, rows2, leads ++ [c], xmul d1 p⟩, ⟨J, J, J, J, J, J, trivial⟩, (dJ dA (aG om g0) (aG om (g1 (by decide) g0)) (aG om (g1 (by decide) (g1 (by decide) g0)))), ⟨om, by rw [hgy, hfin, hM, hv, hld], by rw [hgy, hld], om, om, hd2v⟩, by show cols - (c + 1) < cols - c; omega⟩
 refine Wn <| aS J <| aD <| aL <| Rg 2 J <| Um J J <| Ua J J <| cO ?_
 have hrj : vX rows2 = vX rows2 := rfl
 have hj1 : (vX rows2).getD j default = M.getD j default := by rw [hst j om, if_neg om]
 have hj2 : (vX rows2).getD leads.length default = M.getD leads.length default := elim_row om (by rw [hMl]; exact hst)
 have hej : ent (vX rows2) j c = ent M j c := by unfold ent; rw [hj1]
 have hwj : (rows2.getD j default).2.length = w := by have := hMw.row (i := j) om; rw [← hj1, dB] at this; simpa using this
 have hwl : (rows2.getD leads.length default).2.length = w := by have := hMw.row (i := leads.length) om; rw [← hj2, dB] at this; simpa using this
 refine Rg 14 J <| Um J J <| Um J J <| aA (dS J J) J <| aW (fun h93 => ?_) (fun h93 => ?_)
 rotate_left
 ·refine Um J J <| K1 J J <| K1 J J <| K1 J J <| K1 J J <| K1 J J <| K1 J J <| K1 J J <| K1 J J <| K1 J J <| aA (bM J J) J <| Nk [6,7,8,9,10,11,14,18,19,87,88,95,96,97,98,99,100,101,102,103,104] J <| bR J <| bT <| aE <| Ck [6,7,8,9,10,11,18,19,87,88,95,96,97,98,99,100,101,102,103] J <| aI (z := 2) J <| aA (cI (((j + 1 : Nat) : Int)) (aP J J om) om) J <| Um J J <| Wn <| aC <| ⟨⟨j + 1, rows2⟩, ⟨J, J, J, J, J, J, J, J, J, J, trivial⟩, (dJ dA (aG om g0) (aG om (g1 (by decide) g0)) (aG om (g1 (by decide) (g1 (by decide) g0)))), ⟨om, hl4, (by have := lY (A := vX rows2) (M := M) (j := j) om (by rw [hMl]; exact hst) (nV (.inl om)).symm; rwa [hMl] at this), om⟩, by show rows.length - (j + 1) < rows.length - j; omega⟩
 refine Um J J <| aJ J (dG J) J <| aJ J (dG J) J <| aJ J (cH (j := j) J J J J om om J) J <| aJ J (eL (f := fX) (us := rows2) (j := j) J J (aG om g0) (fun _ => rfl) J (by decide) om J) J <| aJ J (dG J) J <| aJ J (bQ J J J J J om J) J <| aJ J (cZ (l := .agg [_, _, _, _]) J J J) J <| aJ J (aK J (gR ((rows2.getD j default).2.getD c default)) (by first | (simp [-cE]; done) | simp)) J <| aJ J (dS J J) J <| aW (fun h103 => ?_) (fun h103 => ?_)
 rotate_left
 ·refine aA (bO J J) J <| Nk [6,7,8,9,10,11,14,18,19,87,88,95,96,97,98,99,100,101,102,103,104] J <| bR J <| bT <| aE <| Ck [6,7,8,9,10,11,18,19,87,88,95,96,97,98,99,100,101,102,103] J <| aI (z := 2) J <| aA (cI (((j + 1 : Nat) : Int)) (aP J J om) om) J <| Um J J <| Wn <| aC <| ⟨⟨j + 1, rows2⟩, ⟨J, J, J, J, J, J, J, J, J, J, trivial⟩, (dJ dA (aG om g0) (aG om (g1 (by decide) g0)) (aG om (g1 (by decide) (g1 (by decide) g0)))), ⟨om, hl4, (by have := lY (A := vX rows2) (M := M) (j := j) om (by rw [hMl]; exact hst) (nV (.inr (by rw [← hej, ← iF]; exact fE.1 om))).symm; rwa [hMl] at this), om⟩, by show rows.length - (j + 1) < rows.length - j; omega⟩
 refine aA (bO J J) J <| Nk [6,7,8,9,10,11,14,18,19,87,88,95,96,97,98,99,100,101,102,103,104] J <| bV J ?_
 have hen2 : ent M j c ≠ 0 := by rw [← hej, ← iF]; exact fun k => h103 (fE.2 k)
 have hbj : ∀ x, x ∈ (rows2.getD j default).2 → Bd (2 * β + 1) x.1 := by
  intro x hx
  have := hMb.row j
  rw [← hj1, dB] at this
  exact this _ (List.mem_map.2 ⟨x, hx, rfl⟩)
 have hbl : ∀ x, x ∈ (rows2.getD leads.length default).2 → Bd (2 * β + 1) x.1 := by
  intro x hx
  have := hMb.row leads.length
  rw [← hj2, dB] at this
  exact this _ (List.mem_map.2 ⟨x, hx, rfl⟩)
 have hbe := hbj _ (bC (show c < (rows2.getD j default).2.length by omega))
 obtain ⟨r, hr, nw, rfl, hnw⟩ := mZ (rows2.getD j default).1 (rows2.getD leads.length default).1 (rows2.getD j default).2 (rows2.getD leads.length default).2 (xneg ((rows2.getD j default).2.getD c default)) om om (fun x hx => (hbj x hx).mono om) (fun x hx => (hbl x hx).mono om) (hbe.neg.mono om)
 refine dN (z := 21) J kR <| Dm J J <| Dm J J <| Dm J J <| Dm J J <| aF (cH (j := j) J J J J om om J) J <| aF (eL (f := fX) (us := rows2) (j := j) J J (aG om g0) (fun _ => rfl) J (by decide) om J) J <| Dm J J <| Dm J J <| aF (cH (j := j) J J J J om om J) J <| aF (eL (f := fX) (us := rows2) (j := j) J J (aG om g0) (fun _ => rfl) J (by decide) om J) J <| Dm J J <| aF (bQ J J J J J om J) J <| aF (cZ (l := .agg [_, _, _, _]) J J J) J <| aF (aK J (iX ((rows2.getD j default).2.getD c default)) (by first | (simp [-cE]; done) | simp)) J <| Dm J J <| Dm J J <| aF (cH (j := leads.length) J J J J om om J) J <| aF (eL (f := fX) (us := rows2) (j := leads.length) J J (aG om g0) (fun _ => rfl) J (by decide) om J) J <| aF (aK J (hr) (by first | (simp [-cE]; done) | simp)) J <| aF (cH (j := j) J J J J om om J) J <| cA (eF (f := fX) (us := rows2) (1, nw) J J J (aG om g0) (fun _ => rfl) J J om J) <| bD (aR kR) J <| aE ?_
 refine Ck [6,7,8,9,10,11,18,19,87,88,95,96,97,98,99,100,101,102,103] J <| aI (z := 2) J <| aA (cI (((j + 1 : Nat) : Int)) (aP J J om) om) J <| Um J J <| Wn <| aC <| ⟨⟨j + 1, rows2.set j (1, nw)⟩, ⟨rfl, congrArg some (by rw [List.length_set]), rfl, rfl, rfl, rfl, rfl, rfl, rfl, rfl, trivial⟩, dJ (fun hu => g1 om (dA hu)) g0 (g1 (by decide) (aG om (g1 (by decide) g0))) (g1 (by decide) (aG om (g1 (by decide) (g1 (by decide) g0)))), ⟨om, by rw [List.length_set]; exact hl4, by rw [pY]; exact (by have := elim_next (A := vX rows2) (M := M) (j := j) (by rw [cW]; omega) om (by rw [hMl]; exact hst) (x := nw.map (·.1)) (by rw [elr_pos om hen2, ← hej, ← hj1, ← hj2, dB, dB, ← iF, hnw]; rfl); rwa [hMl] at this), om⟩, by show rows.length - (j + 1) < rows.length - j; omega⟩
theorem mreduced_runB (rows0 : List X1) (cols w : Nat) (hne : 0 < rows0.length) (ln : rows0.length < 1000000) (hw : Wid w (vX rows0)) (hcw : cols ≤ w) (lw : w < 1000000) (β : Nat) (hβ : β ≤ 268435456) (hgb : GB (vX rows0) cols β) : ∃ r, Run Tryz.prog T E0 (.call 129 [.sl 1 (rows0.map fX), .v (.int .i64 (cols : Int))] r) ∧ ∃ (rows : List X1) (d : X), r = .tup [.sl 1 (rows.map fX), .sl (kd (gjn (vX rows0) cols).2.length) ((gjn (vX rows0) cols).2.map d64), lvX d] ∧ vX rows = (gjn (vX rows0) cols).1 ∧ d.1 = gjd (vX rows0) cols := by
 refine eQ Tryz.func129 J J (dK J) ((mreduced_wcB rows0 cols w hne ln hw hcw lw β hβ hgb).mono ?_)
 rintro x e h n ⟨hx, q, rows, d, h1, h2, h3, h4, h5⟩
 refine ⟨.tup [.sl 1 (rows.map fX), .sl (kd (gjn (vX rows0) cols).2.length) ((gjn (vX rows0) cols).2.map d64), lvX d], ⟨rows, d, rfl, h1, h2⟩, ?_⟩
 rw [← kT]
 exact postRO (n := n) hx h3 (by simp) h4 (by show (0 : Nat) ≠ 2; decide) J (by decide) J (cM (n := 1) (fun _ => rfl)) (bL dfX) h5 (by decide) (cM (n := 1) (fun _ => rfl)) cX (by simp)
theorem oE (al : List X1) (kb : Nat) (bl : List X) (w : Nat) (hne : 0 < al.length) (ln : al.length < 100000) (hw : ∀ r, r ∈ al → r.2.length = w) (hk : ∀ r, r ∈ al → r.1 = kd r.2.length) (hbl : bl.length = al.length) (hw9 : w ≤ 60) (β : Nat) (hβ : β ≤ 268435456) (hgb : GB (wR (vX al) (bl.map (·.1))) w β) : ∃ r, Run Tryz.prog T E0 (.call 108 [.sl 1 (al.map fX), .sl kb (bl.map xc), .v (.int .i64 (w : Int))] r) ∧ (if nosol (gjn (wR (vX al) (bl.map (·.1))) w) w = true then r = .tup [.v (.int .i64 0), .sl 0 []] else ∃ xs : List X, r = .tup [.v (.int .i64 (solk (gjn (wR (vX al) (bl.map (·.1))) w) w)), .sl 1 (xs.map xc)] ∧ xs.map (·.1) = solv (gjn (wR (vX al) (bl.map (·.1))) w) w (gjn (wR (vX al) (bl.map (·.1))) w).2.length) := by
 refine eQ Tryz.func108 J J (dK J) <| Rg 2 J <| Ua J J <| Ua J J <| Wn <| Rg 1 J <| Ua J J <| Wn <| aB <| Rg 3 J <| Um J J <| aA (aX J J) J <| Um J J <| Wn <| aL <| aY (α := Nat × Nat × (List X1)) (fun ⟨i, q, ds⟩ => [(1, .sl kb (bl.map xc)), (2, .v (.int .i64 (w : Int))), (8, outV q 1 (ds.map fX)), (19, .sl 1 (al.map fX)), (20, .v (.int .i64 (al.length : Int))), (21, .v (.int .i64 (i : Int)))]) (fun ⟨i, q, ds⟩ => outH q 1 104 (ds.map fX) []) (fun ⟨i, q, ds⟩ n => i ≤ al.length ∧ ds = (List.range i).map (wX al bl) ∧ ds.length = i ∧ q < n) (fun ⟨i, q, ds⟩ => al.length - i) (0, 0, []) ⟨J, J, J, J, J, J, trivial⟩ trivial ⟨Nat.zero_le _, rfl, rfl, om⟩ ?_
 rintro ⟨i, q, ds⟩ n hF
 change WC _ _ _ _ _ (_ :: _) (outH _ _ _ _ _) n _
 obtain ⟨hi, hds, hdl, hq⟩ := hF
 refine Rg 1 J <| aA (bS J J) J <| aW (fun h22 => ?_) (fun h22 => ?_)
 ·refine Wn <| aS J <| aD <| aL <| Rg 5 J <| Um J J <| aA (bQ J J J J J om J) J <| aA (cZ J J J) J <| Ua J J <| Ua J J <| cO ?_
  have hm := bC (us := al) (i := i) om
  have hrw := hw _ hm
  have hrk := hk _ hm
  have hc0 : ((al.getD i default).2.map xc) = [] → Run Tryz.prog T E0 (.call 128 [.sl (al.getD i default).1 ((al.getD i default).2.map xc)] (.sl 0 [])) := fun h => by
   rw [hrk, xc_nil h]; exact clone1_nil
  have hc1 : ((al.getD i default).2.map xc) ≠ [] → Run Tryz.prog T E0 (.callO 128 [.sl (al.getD i default).1 ((al.getD i default).2.map xc)] (.ref 0 4 0 ((al.getD i default).2.map xc).length) { cells := ((al.getD i default).2.map xc).flatten, sz := 4, elem := 102, st := 0 }) := fun h => by
   have h2 : 0 < (al.getD i default).2.length := by
    rcases Nat.eq_zero_or_pos (al.getD i default).2.length with h3 | h3
    ·exact absurd (by rw [List.length_eq_zero_iff.1 h3]; rfl) h
    ·exact h3
   obtain ⟨_, _, _, h4, rfl, rfl, rfl⟩ := clone1_own (al.getD i default).1 (al.getD i default).2 (by rw [hrk, kd, if_neg om]; decide) h2 om
   rw [List.length_map]; exact h4
  refine oW (z := 12) J kR <| Dm J J <| Dm J J <| WD.callV (us := (al.getD i default).2.map xc) (sz := 4) (el := 102) J hc0 hc1 dD J <| Dm J J <| Dm J J <| aF (bQ J J J J J om J) J <| aF (cZ (l := .agg [_, _, _, _]) J J J) J <| aF (cU (cs := [_, _, _, _]) (rows := [[_, _, _, _]]) J J (by decide) J J J) J <| WD.ap (te := ti102) (k0 := 0) (us := (al.getD i default).2.map xc) (rows := [xc (bl.getD i default)]) (.inl J) J J J J J (by decide) (by intro r hr; rw [List.mem_singleton] at hr; subst hr; rfl) (cM (n := 4) (fun _ => rfl)) (by simp) (by rw [List.length_map, hrw]; show (2 * (w + 1) + 256) * 64 ≤ _; omega) (by rw [List.length_map, hrw]; show w + 1 < _; omega) (aG om J) J <| aF (cU (cs := [_]) (rows := [[_]]) J J (by decide) J J J) J <| jO _ (outH_swap om) <| WD.ap (te := ti104) (k0 := 0) (us := ds.map fX) (rows := [[_]]) (.inl J) J J J (by rw [jW]; rfl) J (by decide) (by intro r hr; rw [List.mem_singleton] at hr; subst hr; rfl) (cM (n := 1) (fun _ => rfl)) (by simp) (by rw [List.length_map]; show (2 * (ds.length + 1) + 256) * 24 ≤ _; omega) (by rw [List.length_map]; show ds.length + 1 < _; omega) (g1 om J) J <| aF (iE J) J <| bD (gO (rn n) (by simp only [List.reverse_cons, List.reverse_nil, List.nil_append, List.cons_append, List.map_cons, List.map_nil, ren, Nat.add_assoc, rn_add, rn_lt hq]; kernel_rfl)) J <| Fz.rows (d := 8) ds (wX al bl i) (ys := ((al.getD i default).2 ++ [bl.getD i default]).map xc) [(1, _), (2, _), (19, _), (20, _), (21, _)] ⟨J, J, J, J, J, trivial⟩ J (by simp) J om (by simp) (by decide) (by simp) (cM (n := 4) (fun _ => rfl)) (bL pD) <| aE <| aI (z := 2) J <| aA (cI (((i + 1 : Nat) : Int)) (aP J J om) om) J <| Um J J <| Wn <| aC <| ⟨⟨i + 1, _, ds ++ [wX al bl i]⟩, ⟨J, J, J, J, J, J, trivial⟩, cK, ⟨om, by rw [List.range_succ, List.map_append, hds]; rfl, by simp; omega, om⟩, by show al.length - (i + 1) < al.length - i; omega⟩
 refine Wn <| aT J <| aV <| aQ <| aN J ?_
 obtain ⟨d0, dt, rfl⟩ : ∃ d0 dt, ds = d0 :: dt := by
  cases ds with
  | nil => simp at hdl; omega
  | cons d dt => exact ⟨d, dt, rfl⟩
 obtain rfl : i = al.length := by omega
 have hvw : vX (d0 :: dt) = (wR (vX al) (bl.map (·.1))) := by rw [hds]; exact vX_w al bl
 have hwid : Wid (w + 1) (wR (vX al) (bl.map (·.1))) := wR_wid (fun r hr => by obtain ⟨s, hs, rfl⟩ := List.mem_map.1 hr; rw [List.length_map]; exact hw s hs)
 obtain ⟨r, hr, rows, d, rfl, hrows, _⟩ := mreduced_runB (d0 :: dt) w (w + 1) (by simp) om (by rw [hvw]; exact hwid) om om β hβ (by rw [hvw]; exact hgb)
 rw [hvw] at hr hrows
 obtain ⟨_, gw, gl, gc⟩ := hgb.all hwid om w (Nat.le_refl _)
 have hrl : rows.length = al.length := by
  have := congrArg List.length hrows
  rw [cS, nH] at this; simpa [vX] using this
 rw [nH] at gl
 have gl : (gjn (wR (vX al) (bl.map (·.1))) w).2.length ≤ rows.length := by simpa [vX, hrl] using gl
 generalize gjn (wR (vX al) (bl.map (·.1))) w = S at *
 have hwr := wid_vX gw hrows
 refine Rg 11 J <| Um J J <| Um J J <| bA (iU [.sl 1 ((d0 :: dt).map fX), .v (.int .i64 (w : Int))] [(q, { cells := ((d0 :: dt).map fX).flatten, sz := 1, elem := 104, st := 1 })] J hr (.own (ob := { cells := ((d0 :: dt).map fX).flatten, sz := 1, elem := 104, st := 0 }) ((d0 :: dt).map fX) (by simp) g0 (by show (0 : Nat) ≠ 2; decide) J (by decide) (by simp [keys]) J (cM (n := 1) (fun _ => rfl)) (bL dfX) (.data (.v _) .nil)) (by intro p hp; rw [List.mem_singleton] at hp; subst hp; exact ⟨_, g0, by show (0 : Nat) ≠ 2; decide, rfl⟩)) J <| Um J J <| aA (dF J J) J <| aA (dF J J) J <| aA (dF J J) J <| bA (dY J) J <| Ua J J <| Ua J J <| aZ (cB (cs' := [_, _, _, _]) J J J g0 J J J J) <| Nk [2,11,12] J <| aB <| Rg 6 J <| Um J J <| Um J J <| aA (aX J J) J <| aA (bK (b := .sl 1 ((rows.drop S.2.length).map fX)) (oSlLo (i := S.2.length) J J J (cM (f := fX) (n := 1) (fun _ => rfl)) J J (by rw [List.length_map]; omega)) (by rw [List.map_drop])) J <| aA (aX J J) J <| Um J J <| Wn <| aL ?_
 refine aY (α := Nat) (fun i => [(2, .v (.int .i64 (w : Int))), (11, .sl 1 (rows.map fX)), (12, .sl (kd S.2.length) (S.2.map d64)), (48, .sl 1 ((rows.drop S.2.length).map fX)), (49, .v (.int .i64 ((rows.drop S.2.length).length : Int))), (50, .v (.int .i64 (i : Int)))]) (fun i => []) (fun i n => i ≤ (rows.drop S.2.length).length ∧ ∀ k, S.2.length ≤ k → k < S.2.length + i → ent S.1 k w = 0) (fun i => (rows.drop S.2.length).length - i) (0) ⟨J, J, J, J, J, J, trivial⟩ trivial ⟨Nat.zero_le _, by intro k h1 h2; omega⟩ ?_
 rintro i n hF
 change WC _ _ _ _ _ (_ :: _) ([]) n _
 obtain ⟨hi2, hz⟩ := hF
 refine Rg 1 J <| aA (bS J J) J <| aW (fun h51 => ?_) (fun h51 => ?_)
 ·refine Wn <| aS J <| aD <| aL <| Rg 3 J <| aA (bQ J J J J J om J) J <| aA (cZ J J J) J <| Ua J J <| cO ?_
  have hdm : S.2.length + i < rows.length := by rw [List.length_drop] at h51; omega
  have hrl2 : (((rows.drop S.2.length).getD i default).2).length = w + 1 := by rw [dropD]; exact hwr _ (bC hdm)
  have he : ent S.1 (S.2.length + i) w = (((rows.drop S.2.length).getD i default).2.getD w default).1 := by rw [← hrows, ent_vX hdm, dropD]
  refine Rg 6 J <| Um J J <| Um J J <| aA (bQ (j := w) J J J J om om J) J <| aA (cZ (l := .agg [_, _, _, _]) J J J) J <| aA (aK J (gR (((rows.drop S.2.length).getD i default).2.getD w default)) dD) J <| aA (dS J J) J <| aW (fun h59 => ?_) (fun h59 => ?_)
  ·refine Nk [2,11,12,48,49,50,59] J <| bV J <| Rg 2 J <| Ua J J <| Ua J J <| Wn <| aO <| aU <| bP <| aU ?_
   have hsl : S.1.length = rows.length := by rw [← hrows]; simp [vX]
   have hns : nosol S w = true := nosol_yes (k := S.2.length + i) om om (by rw [he]; intro h0; exact h59 (fE.2 h0))
   exact ⟨.tup [.v (.int .i64 0), .sl 0 []], by rw [if_pos hns], post (n := 0) (.inr J) J J dD⟩
  refine Nk [2,11,12,48,49,50,59] J <| bR J <| bT <| aE <| aI (z := 2) J <| aA (cI (((i + 1 : Nat) : Int)) (aP J J om) om) J <| Um J J <| Wn <| aC <| ⟨i + 1, ⟨J, J, J, J, J, J, trivial⟩, trivial, ⟨om, fun k h1 h2 => ?_⟩, by show (rows.drop S.2.length).length - (i + 1) < (rows.drop S.2.length).length - i; omega⟩
  by_cases hk : k < S.2.length + i
  ·exact hz k h1 hk
  ·obtain rfl : k = S.2.length + i := by omega
   rw [he]; exact fE.1 om
 refine Wn <| aT J <| aV <| aQ <| aN J ?_
 have hns : nosol S w = false := by
  have hsl : S.1.length = rows.length := by rw [← hrows]; simp [vX]
  rw [List.length_drop] at h51 hi2
  exact nosol_no om (fun k h1 h2 => hz k h1 om)
 refine Rg 3 J <| Um J J <| bA (oMk (a := w) (b := w) J J J J om om (by decide) om (by show 64 * w ≤ _; omega) om) J <| Ua J J <| Wn <| aB <| Rg 3 J <| Um J J <| aA (aX J J) J <| Um J J <| Wn <| aL <| aY (α := Nat × Nat × (List X)) (fun ⟨i, q2, xs⟩ => [(2, .v (.int .i64 (w : Int))), (11, .sl 1 (rows.map fX)), (12, .sl (kd S.2.length) (S.2.map d64)), (16, .ref q2 4 0 w), (63, .sl (kd S.2.length) (S.2.map d64)), (64, .v (.int .i64 (S.2.length : Int))), (65, .v (.int .i64 (i : Int)))]) (fun ⟨i, q2, xs⟩ => [(q2, { cells := (xs.map xc).flatten, sz := 4, elem := 102, st := 0 })]) (fun ⟨i, q2, xs⟩ n => i ≤ S.2.length ∧ xs.length = w ∧ xs.map (·.1) = solv S w i) (fun ⟨i, q2, xs⟩ => S.2.length - i) (0, _, List.replicate w x0) ⟨J, J, J, J, J, J, J, trivial⟩ ⟨g0.trans (by rw [List.map_replicate]; rfl), trivial⟩ ⟨Nat.zero_le _, by simp, by rw [List.map_replicate]; rfl⟩ ?_
 rintro ⟨i, q2, xs⟩ n hF
 change WC _ _ _ _ _ (_ :: _) (_ :: _) n _
 obtain ⟨hi4, hxl, hxs⟩ := hF
 refine Rg 1 J <| aA (bS J J) J <| aW (fun h66 => ?_) (fun h66 => ?_)
 ·refine Wn <| aS J <| aD <| aL <| Rg 5 J <| Um J J <| aA (bQ J J J J J om J) J <| aA (cZ J J J) J <| Ua J J <| Ua J J <| cO ?_
  have hld := gc _ (bC (us := S.2) (i := i) om)
  have hrl4 : ((rows.getD i default).2).length = w + 1 := hwr _ (bC om)
  have he4 : ent S.1 i w = ((rows.getD i default).2.getD w default).1 := by rw [← hrows, ent_vX om]
  refine aI (z := 11) J <| Um J J <| Um J J <| Um J J <| Um J J <| aA (bQ J J J J J om J) J <| aA (cZ J J J) J <| Um J J <| aA (bQ (j := w) J J J J om om J) J <| aA (cZ (l := .agg [_, _, _, _]) J J J) J <| aA (cH J J J J J om J) J <| aZ (eF (f := xc) (us := xs) ((rows.getD i default).2.getD w default) J J J g0 (fun _ => rfl) J J om J) <| Wn <| aE <| Ck [2,11,12,16,63,64,65] J <| aI (z := 2) J <| aA (cI (((i + 1 : Nat) : Int)) (aP J J om) om) J <| Um J J <| Wn <| aC <| ⟨⟨i + 1, _, xs.set (S.2.getD i default) ((rows.getD i default).2.getD w default)⟩, ⟨J, J, J, J, J, J, J, trivial⟩, ⟨g0, trivial⟩, ⟨om, by rw [List.length_set]; exact hxl, ?_⟩, by show S.2.length - (i + 1) < S.2.length - i; omega⟩
  rw [List.map_set, hxs, solv, he4]
 refine Wn <| aT J <| aV <| aQ <| aN J <| aB ?_
 have hxs' : xs.map (·.1) = solv S w S.2.length := by rw [hxs, show i = S.2.length by omega]
 refine Rg 4 J <| Um J J <| aA (aX J J) J <| Um J J <| aA (bS J J) J <| aW (fun h84 => ?_) (fun h84 => ?_)
 ·refine Wn <| aS J <| aB <| Rg 3 J <| Um J J <| Ua J J <| Ua J J <| Nk [6,7] J <| bB <| ⟨.tup [.v (.int .i64 2), .sl 1 (xs.map xc)], by rw [if_neg (by rw [hns]; decide)]; exact ⟨xs, by unfold solk; rw [if_pos om], hxs'⟩, ?_⟩
  exact lR (n := 0) [(q2, { cells := (xs.map xc).flatten, sz := 4, elem := 102, st := 1 })] (.inr J) J (.data (.v _) (.own (ob := { cells := (xs.map xc).flatten, sz := 4, elem := 102, st := 0 }) _ (by rw [List.length_map, hxl]) g0 (by show (0 : Nat) ≠ 2; decide) J (by decide) (List.mem_singleton.2 J) J (cM (n := 4) (fun _ => rfl)) (bL pD) .nil)) (by intro p hp; rw [List.mem_singleton] at hp; subst hp; exact ⟨_, g0, by show (0 : Nat) ≠ 2; decide, rfl⟩)
 refine Wn <| aT J <| aD <| Rg 3 J <| Um J J <| Ua J J <| Ua J J <| Nk [6,7] J <| aO <| ⟨.tup [.v (.int .i64 1), .sl 1 (xs.map xc)], by rw [if_neg (by rw [hns]; decide)]; exact ⟨xs, by unfold solk; rw [if_neg om], hxs'⟩, ?_⟩
 exact lR (n := 0) [(q2, { cells := (xs.map xc).flatten, sz := 4, elem := 102, st := 1 })] (.inr J) J (.data (.v _) (.own (ob := { cells := (xs.map xc).flatten, sz := 4, elem := 102, st := 0 }) _ (by rw [List.length_map, hxl]) g0 (by show (0 : Nat) ≠ 2; decide) J (by decide) (List.mem_singleton.2 J) J (cM (n := 4) (fun _ => rfl)) (bL pD) .nil)) (by intro p hp; rw [List.mem_singleton] at hp; subst hp; exact ⟨_, g0, by show (0 : Nat) ≠ 2; decide, rfl⟩)
end Go.Proofs.YtahljdjhhapngaaGreat
namespace Go.Proofs.YtahljdjhhapngaaGreat
open Go.Ab Go.RowKit
theorem mean_run (c : CH) (kv : Nat) (vx : List X) (n0 : Nat) (hc : VB n0 c.2.2) (hl : vx.length = n0) (β : Nat) (h1β : 1 ≤ β) (hβ : β ≤ 2147483648) (hv : ∀ x, x ∈ vx → Bd β x.1) : Run Tryz.prog T E0 (.call 113 [lvC c, .sl kv (vx.map xc)] (lvX (xmean c.2.2 vx c.2.2.length))) := by
 have hcl := hc.len
 refine bH Tryz.func113 J J (dK J) <| Rg 2 J <| bA (dT J J) J <| bA (dY J) J <| Wn <| Rg 1 J <| bA (dY J) J <| Wn <| aB <| Rg 4 J <| aA (bE J J J J J) J <| aA (aM J J gG J J) J ?_
 refine aA (aX J J) J <| Um J J <| Wn <| aL <| aY (α := Nat) (fun i => [(1, .sl kv (vx.map xc)), (4, .ptr (0 + 1) 0), (5, .ptr (0 + 2) 0), (9, .sl c.2.1 (c.2.2.map brc)), (10, .v (.int .i64 (c.2.2.length : Int))), (11, .v (.int .i64 (i : Int)))]) (fun i => [((0 + 2), { cells := xc ((xmean c.2.2 vx i)), sz := 4, elem := (102), st := 0 }), ((0 + 1), { cells := xc (x0), sz := 4, elem := (102), st := 0 })]) (fun i n => i ≤ c.2.2.length ∧ 4 ≤ n) (fun i => c.2.2.length - i) (0) ⟨J, J, J, J, J, J, trivial⟩ ⟨gG, gG, trivial⟩ ⟨Nat.zero_le _, om⟩ ?_
 rintro i n hF
 change WC _ _ _ _ _ (_ :: _) (_ :: _) n _
 obtain ⟨hi, hn⟩ := hF
 refine Rg 1 J <| aA (bS J J) J <| aW (fun h12 => ?_) (fun h12 => ?_)
 rotate_left
 ·refine Wn <| aT J <| aV <| aQ <| aN J <| Rg 2 J <| aA (aM (l := lvX (xmean c.2.2 vx i)) J J gG J J) J ?_
  refine aZ (cB (cs' := xc (xmean c.2.2 vx i)) J J J gG J J J J) ?_
  refine Wn <| aO ?_
  have hin : i = c.2.2.length := by omega
  rw [← hin]
  refine post (n := 0) (.inr J) J ?_ dD
  rfl
 refine Wn <| aS J <| aD <| aL ?_
 have hto := hc.to i om
 have hvn := hc.vn i om
 have hi3 := hvn.all3
 have hm1 := oV hc h1β hv i hi
 have hm2 : i * (β + 3) ≤ 8 * (β + 3) := Nat.mul_le_mul_right _ om
 have hg := kN h1β hv (c.2.2.getD i default).1.toNat
 refine Rg 4 J <| aA (bQ J J J J J om J) J <| aA (cZ (l := .agg (brc (c.2.2.getD i default))) J J J) J <| bA (dY J) J <| aZ (cB (cs' := brc (c.2.2.getD i default)) J J J g0 J J J J) <| Wn <| dN (z := 12) J kR <| aF (aM (l := lvX (xmean c.2.2 vx i)) J J gG J J) J ?_
 refine aF (bE J J J J J) J <| aF (aM (l := lvM (c.2.2.getD i default).2) J J gG J J) J ?_
 refine aF (bK (b := lvX (nx (c.2.2.getD i default).2)) (aK J (eK (c.2.2.getD i default).2 hi3.1 hi3.2.1 hi3.2.2) dD) J) J <| Dm J J <| aF (bE J J J J J) J <| aF (aM J J gG J J) J ?_
 refine aF (bQ (j := (c.2.2.getD i default).1.toNat) J J J J om om J) J <| aF (cZ (l := lvX (vx.getD (c.2.2.getD i default).1.toNat default)) J J J) J <| aF (aK J (iW (nx (c.2.2.getD i default).2) (vx.getD (c.2.2.getD i default).1.toNat default) (hvn.bd.mono om) (hg.mono om)) dD) J <| aF (bK (b := lvX (xmean c.2.2 vx (i + 1))) (aK J (iV (xmean c.2.2 vx i) (xmul (nx (c.2.2.getD i default).2) (vx.getD (c.2.2.getD i default).1.toNat default)) (hm1.mono om) ((hvn.bd.mul hg).mono om)) dD) J) J <| cA (cB (cs' := xc (xmean c.2.2 vx (i + 1))) J J J gG J J J J) ?_
 refine bD (aR kR) J <| aE <| Ck [1,4,5,9,10,11] J <| aI (z := 2) J <| aA (cI (((i + 1 : Nat) : Int)) (aP J J om) om) J <| Um J J <| Wn <| aC <| ⟨i + 1, ⟨J, J, J, J, J, J, trivial⟩, ⟨gG, gG, trivial⟩, ⟨om, om⟩, by show c.2.2.length - (i + 1) < c.2.2.length - i; omega⟩
theorem mR (c : CH) (d : X) (kv : Nat) (vx : List X) (n0 : Nat) (hr : VN c.1) (hc : VB n0 c.2.2) (hd : Bd 2 d.1) (hl : vx.length = n0) (β : Nat) (h1β : 1 ≤ β) (hβ : β ≤ 2147483648) (hv : ∀ x, x ∈ vx → Bd β x.1) : Run Tryz.prog T E0 (.call 80 [lvC c, lvX d, .sl kv (vx.map xc)] (lvX (xyl c d vx))) := by
 have hcl := hc.len
 have hi3 := hr.all3
 have hm1 := oV hc h1β hv c.2.2.length (Nat.le_refl _)
 have hm2 : c.2.2.length * (β + 3) ≤ 8 * (β + 3) := Nat.mul_le_mul_right _ om
 refine bH Tryz.func80 J J (dK J) <| Rg 3 J <| bA (dT J J) J <| bA (dT J J) J <| bA (dY J) J <| Wn <| bI (z := 10) J kR <| aF (bE J J J J J) J <| aF (aM (l := lvM c.1) J J gG J J) J ?_
 refine aF (bK (b := lvX (nx c.1)) (aK J (eK c.1 hi3.1 hi3.2.1 hi3.2.2) dD) J) J <| aF (aM (l := lvX d) J J gG J J) J ?_
 refine aF (aM (l := lvC c) J J gG J J) J ?_
 refine Dm J J <| aF (aK J (mean_run c kv vx n0 hc hl β h1β hβ hv) (bJ (by intro c hc; simp only [List.mem_cons, List.not_mem_nil, or_false] at hc; rcases hc with rfl | rfl; exact iZ; exact (.sl _ _ fun row hr => bL pD row hr)))) J <| aF (aK J (iW d (xmean c.2.2 vx c.2.2.length) (hd.mono om) (hm1.mono om)) dD) J <| aF (bK (b := lvX (xyl c d vx)) (aK J (iV (nx c.1) (xmul d (xmean c.2.2 vx c.2.2.length)) (hr.bd.mono om) ((hd.mul hm1).mono om)) dD) J) J <| cA (cB (cs' := xc (xyl c d vx)) J J J gG J J J J) ?_
 refine bD (aR kR) J <| Ck [6] J <| aO <| post (n := 0) (.inr J) J ?_ dD
 rfl
theorem wants1_run (a b : X) (ha : Bd 34359738368 a.1) (hb : Bd 34359738368 b.1) : Run Tryz.prog T E0 (.call 122 [lvX a, lvX b] (.v (.int .i64 (b.1 - a.1).num.sign))) := by
 refine bH Tryz.func122 J J (dK J) <| Rg 3 J <| bA (dT J J) J <| bA (dT J J) J <| Ua J J <| Wn <| Rg 4 J <| aA (aM (l := lvX b) J J gG J J) J ?_
 refine aA (aM (l := lvX a) J J gG J J) J ?_
 refine aA (aK J (jY b a hb ha) dD) J <| Ua J J <| Wn <| aO <| post (n := 0) (.inr J) J ?_ dD
 rfl
theorem wants_run (pl : Int) : Run Tryz.prog T E0 (.call 98 [.v (.int .i64 pl)] (.fn (.func (if pl = 1 then 122 else 76)) [] [])) := by
 refine bH Tryz.func98 J J (dK J) <| Rg 1 J <| Ua J J <| Wn <| Rg 1 J <| Um J J <| Wn <| bY <| Rg 2 J <| aA (eC J J) J <| aW (fun h5 => ?_) (fun h5 => ?_)
 ·refine Ua J J <| Wn <| bV J <| Rg 1 J <| Ua J J <| Wn <| aO <| eG ?_
  rw [if_pos (show pl = 1 by omega)]
  refine post (n := 0) (.inr J) J ?_ dD
  rfl
 refine Ua J J <| Wn <| bR J <| Rg 1 J <| Ua J J <| Wn <| aO <| eG ?_
 rw [if_neg (show ¬ pl = 1 by omega)]
 refine post (n := 0) (.inr J) J ?_ dD
 rfl
theorem cmpf_run (pl : Int) (a b : X) (ha : Bd 34359738368 a.1) (hb : Bd 34359738368 b.1) : Run Tryz.prog T E0 (.call (if pl = 1 then 122 else 76) [lvX a, lvX b] (.v (.int .i64 (sgnF pl a.1 b.1)))) := by
 unfold sgnF
 by_cases h : pl = 1
 ·rw [if_pos h, if_pos h]; exact wants1_run a b ha hb
 ·rw [if_neg h, if_neg h]; exact jY a b ha hb
end Go.Proofs.YtahljdjhhapngaaGreat
namespace Go.Proofs.YtahljdjhhapngaaGreat
open Go.Ab Go.RowKit
theorem lK (n0 : Nat) (H : Hp) (k kv : Nat) (ss : List Go.Ab.ST) (d : X) (vx : List X) (st : List Int) (pl : Int) (qs : Nat) (hnd : subsM H H) (hlt : ∀ q o, getH H q = some o → q < n0) (hq : getH H qs = some { cells := ((st).map ic).flatten, sz := 1, elem := (3), st := 0 }) (hV : VMo ss = true) (hd : Bd 2 d.1) (hl : vx.length = ss.length) (hst : st.length = ss.length) (β : Nat) (h1β : 1 ≤ β) (hβ : β ≤ 2147483648) (hv : ∀ x, x ∈ vx → Bd β x.1) : WC Tryz.prog T E0 Tryz.f97.ntmps (codeOf Tryz.f97) (argsEnv 0 [lvMo k ss, lvX d, .sl kv (vx.map xc), .ref qs 1 0 ss.length, .v (.int .i64 pl)]) H n0 (fun x e' h' n' => (x = .normal ∨ x = .ret) ∧ n0 ≤ n' ∧ ((resE e' T h' Tryz.f97.results.toList = some [.v (.bool false)] ∧ NoImp ss d.1 pl (vl vx) ∧ ∀ q o, getH H q = some o → getH h' q = some o) ∨ ∃ i j, resE e' T h' Tryz.f97.results.toList = some [.v (.bool true)] ∧ i < ss.length ∧ (ss.getD i default).1.1 = pl ∧ j < (ss.getD i default).2.2.length ∧ btr pl (yl d.1 (ch ss i j) (vl vx)) (vl vx i) ∧ getH h' qs = some { cells := ((st.set i (j : Int)).map ic).flatten, sz := 1, elem := (3), st := 0 } ∧ ∀ q o, q ≠ qs → getH H q = some o → getH h' q = some o)) := by
 have hV1 := iG hV
 have hn40 := hV1.wt.len
 have hql := hlt qs _ hq
 change WC _ _ _ _ _ [(0, lvMo k ss), (1, lvX d), (2, .sl kv (vx.map xc)), (3, .ref qs 1 0 ss.length), (4, .v (.int .i64 pl))] _ _ _
 refine Rg 3 J <| bA (dT J J) J <| bA (dT J J) J <| Ua J J <| Wn <| Rg 3 J <| Um J J <| aA (aK J (wants_run pl) (bJ (by intro c hc; simp only [List.mem_cons, List.not_mem_nil, or_false] at hc; rcases hc with rfl; exact .v _))) J <| Ua J J <| Wn <| aB <| Rg 4 J <| aA (bE J J J J J) J <| aA (aM J J gG J J) J ?_
 refine aA (aX J J) J <| Um J J <| Nk [2,3,4,6,11,19,20,21] J <| aL <| aY (α := Nat) (fun i => [(2, .sl kv (vx.map xc)), (3, .ref qs 1 0 ss.length), (4, .v (.int .i64 pl)), (6, .ptr (n0 + 1) 0), (11, .fn (.func (if pl = 1 then 122 else 76)) [] []), (19, .sl k (ss.map stc)), (20, .v (.int .i64 (ss.length : Int))), (21, .v (.int .i64 (i : Int)))]) (fun i => (n0 + 1, { cells := xc (d), sz := 4, elem := (102), st := 0 }) :: H) (fun i n => i ≤ ss.length ∧ (∀ a, a < i → (ss.getD a default).1.1 = pl → ∀ b, b < (ss.getD a default).2.2.length → ¬ btr pl (yl d.1 (ch ss a b) (vl vx)) (vl vx a)) ∧ n0 + 3 ≤ n) (fun i => ss.length - i) (0) ⟨J, J, J, J, J, J, J, J, trivial⟩ ⟨gG, cQ hnd (by intro q o hq'; have := hlt q o hq'; repeat (first | exact hq' | refine g1 om ?_))⟩ ⟨Nat.zero_le _, fun a ha => absurd ha om, om⟩ ?_
 rintro i n hF
 change WC _ _ _ _ _ [(2, .sl kv (vx.map xc)), (3, .ref qs 1 0 ss.length), (4, .v (.int .i64 pl)), (6, .ptr (n0 + 1) 0), (11, .fn (.func (if pl = 1 then 122 else 76)) [] []), (19, .sl k (ss.map stc)), (20, .v (.int .i64 (ss.length : Int))), (21, .v (.int .i64 (i : Int)))] ((n0 + 1, { cells := xc (d), sz := 4, elem := (102), st := 0 }) :: H) n _
 obtain ⟨hi, hA, hn⟩ := hF
 refine Rg 1 J <| aA (bS J J) J <| aW (fun h22 => ?_) (fun h22 => ?_)
 rotate_left
 ·refine Wn <| aT J <| aV <| aQ <| aN J <| Rg 1 J <| Ua J J <| Wn <| aO <| ⟨.inr J, om, .inl ⟨rfl, fun a ha ho b hb => hA a om ho b hb, (by intro q o hq'; have := hlt q o hq'; repeat (first | exact hq' | refine g1 om ?_))⟩⟩
 refine Wn <| aS J <| aD <| aL ?_
 have hm := bC (us := ss) (i := i) om
 have hcl := hV1.cs _ hm
 refine Rg 6 J <| Um J J <| aA (bQ J J J J J om J) J <| aA (cZ (l := .agg (stc (ss.getD i default))) J J J) J <| bA (dY J) J <| Ua J J <| aZ (cB (cs' := stc (ss.getD i default)) J J J g0 J J J J) <| Wn <| aB <| Rg 4 J <| aA (bE J J J J J) J <| aA (aM J J gG J J) J ?_
 refine Um J J <| aA (dS J J) J <| aW (fun h29 => ?_) (fun h29 => ?_)
 ·refine Nk [2,3,4,6,11,12,13,19,20,21,29] J <| aS J <| aV <| aN J <| aI (z := 2) J <| aA (cI (((i + 1 : Nat) : Int)) (aP J J om) om) J <| Um J J <| Wn <| aC <| ⟨i + 1, ⟨J, J, J, J, J, J, J, J, trivial⟩, ⟨gG, cQ hnd (by intro q o hq'; have := hlt q o hq'; repeat (first | exact hq' | refine g1 om ?_))⟩, ⟨om, fun a ha ho => ?_, om⟩, by show ss.length - (i + 1) < ss.length - i; omega⟩
  by_cases e : a = i
  ·subst e; exact absurd ho om
  ·exact hA a om ho
 refine Nk [2,3,4,6,11,12,13,19,20,21,29] J <| aT J <| aD <| Rg 4 J <| aA (bE J J J J J) J <| aA (aM J J gG J J) J ?_
 refine aA (aX J J) J <| Um J J <| Nk [2,3,4,6,11,12,19,20,21,31,32,33] J <| bY <| aY (α := Nat) (fun j => [(2, .sl kv (vx.map xc)), (3, .ref qs 1 0 ss.length), (4, .v (.int .i64 pl)), (6, .ptr (n0 + 1) 0), (11, .fn (.func (if pl = 1 then 122 else 76)) [] []), (12, .v (.int .i64 (i : Int))), (19, .sl k (ss.map stc)), (20, .v (.int .i64 (ss.length : Int))), (21, .v (.int .i64 (i : Int))), (31, .sl (ss.getD i default).2.1 ((ss.getD i default).2.2.map chc)), (32, .v (.int .i64 ((ss.getD i default).2.2.length : Int))), (33, .v (.int .i64 (j : Int)))]) (fun j => (n0 + 1, { cells := xc (d), sz := 4, elem := (102), st := 0 }) :: H) (fun j n => j ≤ (ss.getD i default).2.2.length ∧ (∀ b, b < j → ¬ btr pl (yl d.1 (ch ss i b) (vl vx)) (vl vx i)) ∧ n0 + 3 ≤ n) (fun j => (ss.getD i default).2.2.length - j) (0) ⟨J, J, J, J, J, J, J, J, J, J, J, J, trivial⟩ ⟨gG, cQ hnd (by intro q o hq'; have := hlt q o hq'; repeat (first | exact hq' | refine g1 om ?_))⟩ ⟨Nat.zero_le _, fun a ha => absurd ha om, om⟩ ?_
 rintro j n hF
 change WC _ _ _ _ _ [(2, .sl kv (vx.map xc)), (3, .ref qs 1 0 ss.length), (4, .v (.int .i64 pl)), (6, .ptr (n0 + 1) 0), (11, .fn (.func (if pl = 1 then 122 else 76)) [] []), (12, .v (.int .i64 (i : Int))), (19, .sl k (ss.map stc)), (20, .v (.int .i64 (ss.length : Int))), (21, .v (.int .i64 (i : Int))), (31, .sl (ss.getD i default).2.1 ((ss.getD i default).2.2.map chc)), (32, .v (.int .i64 ((ss.getD i default).2.2.length : Int))), (33, .v (.int .i64 (j : Int)))] ((n0 + 1, { cells := xc (d), sz := 4, elem := (102), st := 0 }) :: H) n _
 obtain ⟨hj, hB, hn2⟩ := hF
 refine Rg 1 J <| aA (bS J J) J <| aW (fun h34 => ?_) (fun h34 => ?_)
 rotate_left
 ·refine Wn <| aT J <| aV <| aQ <| fA J <| aE <| aI (z := 2) J <| aA (cI (((i + 1 : Nat) : Int)) (aP J J om) om) J <| Um J J <| Wn <| aC <| ⟨i + 1, ⟨J, J, J, J, J, J, J, J, trivial⟩, ⟨gG, cQ hnd (by intro q o hq'; have := hlt q o hq'; repeat (first | exact hq' | refine g1 om ?_))⟩, ⟨om, fun a ha ho b hb => ?_, om⟩, by show ss.length - (i + 1) < ss.length - i; omega⟩
  by_cases e : a = i
  ·subst e; exact hB b om
  ·exact hA a om ho b hb
 refine Wn <| aS J <| aD <| aL ?_
 have hmc := bC (us := (ss.getD i default).2.2) (i := j) om
 obtain ⟨hrw, hvb⟩ := jI hV hm hmc
 have hyb := xyl_bd hrw hvb hd h1β hv
 have hgb := kN h1β hv i
 refine Rg 6 J <| Um J J <| aA (bQ J J J J J om J) J <| aA (cZ (l := lvC ((ss.getD i default).2.2.getD j default)) J J J) J <| bA (dY J) J <| Ua J J <| aZ (cB (cs' := chc ((ss.getD i default).2.2.getD j default)) J J J g0 J J J J) <| Nk [2,3,4,6,11,12,14,15,19,20,21,31,32,33] J <| bI (z := 11) J kR <| Dm J J <| aF (aM (l := lvC ((ss.getD i default).2.2.getD j default)) J J g0 J J) J <| aF (aM (l := lvX d) J J gG J J) J ?_
 refine Dm J J <| aF (aK J (mR ((ss.getD i default).2.2.getD j default) d kv vx ss.length hrw hvb hd hl β h1β hβ hv) (bJ (by intro c hc; simp only [List.mem_cons, List.not_mem_nil, or_false] at hc; rcases hc with rfl | rfl | rfl; exact iZ; exact iZ; exact (.sl _ _ fun row hr => bL pD row hr)))) J <| Dm J J <| Dm J J <| aF (bQ (j := i) J J J J om om J) J <| aF (cZ (l := lvX (vx.getD i default)) J J J) J <| aF (oCallVD J J (cmpf_run pl (xyl ((ss.getD i default).2.2.getD j default) d vx) (vx.getD i default) (hyb.mono om) (hgb.mono om)) (data3 d0 (by intro c hc; simp only [List.mem_cons, List.not_mem_nil, or_false] at hc; rcases hc with rfl | rfl; exact iZ; exact iZ) d0)) J <| aF (eE J J) J <| oX (fun h48 => ?_) (fun h48 => ?_)
 rotate_left
 ·refine bD (aR kR) J <| Ck [2,3,4,6,11,12,14,19,20,21,31,32,33,48] J <| bR J <| bT <| aE <| aI (z := 2) J <| aA (cI (((j + 1 : Nat) : Int)) (aP J J om) om) J <| Um J J <| Wn <| aC <| ⟨j + 1, ⟨J, J, J, J, J, J, J, J, J, J, J, J, trivial⟩, ⟨gG, cQ hnd (by intro q o hq'; have := hlt q o hq'; repeat (first | exact hq' | refine g1 om ?_))⟩, ⟨om, fun b hb => ?_, om⟩, by show (ss.getD i default).2.2.length - (j + 1) < (ss.getD i default).2.2.length - j; omega⟩
  by_cases e : b = j
  ·subst e; exact fun hb2 => h48 (oQ.2 (by rw [xyl_v, jL]; exact hb2))
  ·exact hB b om
 refine bD (aR kR) J <| Ck [2,3,4,6,11,12,14,19,20,21,31,32,33,48] J <| bV J <| Rg 5 J <| Um J J <| Um J J <| Um J J <| aA (cH (j := i) J J J J om om J) J <| aZ (eF (f := ic) (us := st) (j : Int) J J J (by have := hlt qs _ hq; repeat (first | exact hq | refine g1 om ?_)) (fun _ => rfl) J J om J) ?_
 refine Nk [] J <| Rg 1 J <| Ua J J <| Wn <| aO <| aU <| bP <| eG <| aU <| bP <| aU <| ⟨.inr J, om, .inr ⟨i, j, rfl, om, om, om, by have := oQ.1 h48; rwa [xyl_v, jL] at this, g0, fun q o hne hq' => ?_⟩⟩
 have := hlt q o hq'
 repeat (first | exact hq' | refine g1 om ?_)
end Go.Proofs.YtahljdjhhapngaaGreat
namespace Go.Proofs.YtahljdjhhapngaaGreat
open Go.Ab Go.RowKit
theorem worth_share (n0 : Nat) (H : Hp) (k : Nat) (ss : List Go.Ab.ST) (d : X) (st : List Int) (qs : Nat) (hnd : subsM H H) (hlt : ∀ q o, getH H q = some o → q < n0) (hq : getH H qs = some { cells := ((st).map ic).flatten, sz := 1, elem := (3), st := 0 }) (hV : VMo ss = true) (hd : Bd 2 d.1) (hd0 : 0 < d.1) (hd1 : d.1 < 1) (hst : vSt ss st = true) : WC Tryz.prog T E0 Tryz.f71.ntmps (codeOf Tryz.f71) (argsEnv 0 [lvMo k ss, lvX d, .ref qs 1 0 ss.length]) H n0 (fun x e' h' n' => (x = .normal ∨ x = .ret) ∧ n0 ≤ n' ∧ ∃ xs : List X, resE e' T h' Tryz.f71.results.toList = some [.sl 1 (xs.map xc)] ∧ xs.length = ss.length ∧ WV ss d.1 st (vl xs) ∧ (∀ x, x ∈ xs → Bd 268435456 x.1) ∧ ∀ q o, getH H q = some o → getH h' q = some o) := by
 have hV1 := iG hV
 have hn40 := hV1.wt.len
 have hpos := hV1.pos
 have hsl := gJ hst
 have hD := gA hV hd0 hd1
 have hql := hlt qs _ hq
 have hfr : ∀ q, n0 ≤ q → getH H q = none := fun q hq => by
  cases h : getH H q with
  | none => rfl
  | some o => have := hlt q o h; omega
 change WC _ _ _ _ _ [(0, lvMo k ss), (1, lvX d), (2, .ref qs 1 0 ss.length)] _ _ _
 refine Rg 3 J <| bA (dT J J) J <| bA (dT J J) J <| Ua J J <| Wn <| Rg 4 J <| aA (bE J J J J J) J <| aA (aM J J gG J J) J ?_
 refine aA (aX J J) J <| Ua J J <| Wn <| Rg 1 J <| Ua J J <| Wn <| Rg 1 J <| Ua J J <| Wn <| aB <| Rg 4 J <| aA (bE J J J J J) J <| aA (aM J J gG J J) J ?_
 refine aA (aX J J) J <| Um J J <| Nk [2,4,7,8,9,22,23,24] J <| aL <| aY (α := Nat × Nat × Nat × (List X1) × (List X)) (fun ⟨i, qa, qb, al, bl⟩ => [(2, .ref qs 1 0 ss.length), (4, .ptr (n0 + 1) 0), (7, .v (.int .i64 (ss.length : Int))), (8, outV qa 1 (al.map fX)), (9, outV qb 4 (bl.map xc)), (22, .sl k (ss.map stc)), (23, .v (.int .i64 (ss.length : Int))), (24, .v (.int .i64 (i : Int)))]) (fun ⟨i, qa, qb, al, bl⟩ => outH qa 1 104 (al.map fX) (outH qb 4 102 (bl.map xc) ((n0 + 1, { cells := xc (d), sz := 4, elem := (102), st := 0 }) :: H))) (fun ⟨i, qa, qb, al, bl⟩ n => i ≤ ss.length ∧ al.length = i ∧ bl.length = i ∧ (∀ a, a < i → RowOk ss.length d.1 (ch ss a (st.getD a default).toNat).2.2 a ((al.getD a default).2.map (·.1)) ∧ (al.getD a default).1 = kd (al.getD a default).2.length ∧ (bl.getD a default).1 = nq (ch ss a (st.getD a default).toNat).1) ∧ (∀ r, r ∈ al → ∀ x, x ∈ r.2 → Bd 8 x.1) ∧ (∀ x, x ∈ bl → Bd 8 x.1) ∧ n0 + 1 < qa ∧ n0 + 1 < qb ∧ qa ≠ qb ∧ qa < n ∧ qb < n ∧ n0 + 6 ≤ n) (fun ⟨i, qa, qb, al, bl⟩ => ss.length - i) (0, n0 + 2, n0 + 3, [], []) ⟨J, J, J, J, J, J, J, J, trivial⟩ ⟨gG, cQ hnd (by intro q o hq'; have := hlt q o hq'; repeat (first | exact hq' | refine g1 om ?_))⟩ ⟨Nat.zero_le _, rfl, rfl, fun a ha => absurd ha om, by simp, by simp, om, om, om, om, om, om⟩ ?_
 rintro ⟨i, qa, qb, al, bl⟩ n hF
 change WC _ _ _ _ _ (_ :: _) (outH _ _ _ _ _) n _
 obtain ⟨hi, hal, hbl, hrows, hba, hbb, hqa, hqb, hqab, hqa3, hqb3, hn⟩ := hF
 obtain ⟨nK, hnK⟩ : ∃ z, z = n := ⟨n, rfl⟩
 subst hnK
 refine Rg 1 J <| aA (bS J J) J <| aW (fun h25 => ?_) (fun h25 => ?_)
 rotate_left
 ·refine Wn <| aT J <| aV <| aQ <| aN J ?_
  obtain ⟨a0, at', rfl⟩ : ∃ a t, al = a :: t := by
   cases al with
   | nil => simp at hal; omega
   | cons a t => exact ⟨a, t, rfl⟩
  obtain ⟨b0, bt, rfl⟩ : ∃ a t, bl = a :: t := by
   cases bl with
   | nil => simp at hbl; omega
   | cons a t => exact ⟨a, t, rfl⟩
  obtain rfl : i = ss.length := by omega
  obtain ⟨hg1, _, hns, hsvl, hwv, hsb⟩ := worth_sys hD hn40 hst (A := vX (a0 :: at')) (b := (b0 :: bt).map (·.1)) (by rw [cW]; exact hal) (by rw [List.length_map]; exact hbl) (fun a ha => by rw [dB]; exact (hrows a ha).1) (fun a ha => by show fn_ ((b0 :: bt).map (·.1)) a = _; exact (jL (b0 :: bt) a).symm.trans (hrows a ha).2.2) (fun r hr x hx => by obtain ⟨y, hy, rfl⟩ := List.mem_map.1 hr; obtain ⟨z, hz, rfl⟩ := List.mem_map.1 hx; exact hba y hy z hz) (fun x hx => by obtain ⟨y, hy, rfl⟩ := List.mem_map.1 hx; exact hbb y hy)
  have hrow2 : ∀ r, r ∈ a0 :: at' → r.2.length = ss.length ∧ r.1 = kd r.2.length := fun r hr => by
   obtain ⟨a, ha, rfl⟩ := List.getElem_of_mem hr
   have h1 := hrows a om
   rw [show (a0 :: at').getD a default = (a0 :: at')[a] by rw [List.getD_eq_getElem?_getD, List.getElem?_eq_getElem ha]; rfl] at h1
   have h2 := h1.1.1
   rw [List.length_map] at h2
   exact ⟨h2, h1.2.1⟩
  obtain ⟨r, hr, hphi⟩ := oE (a0 :: at') 1 (b0 :: bt) ss.length (by simp) om (fun r hr => (hrow2 r hr).1) (fun r hr => (hrow2 r hr).2) om om 268435456 (Nat.le_refl _) hg1
  rw [if_neg (by rw [hns]; decide)] at hphi
  obtain ⟨xs, rfl, hxs⟩ := hphi
  have hxl : xs.length = ss.length := by have := congrArg List.length hxs; rw [hsvl, List.length_map] at this; exact this
  refine Rg 9 J <| Um J J <| Um J J <| Um J J <| bA (iU [.sl 1 ((a0 :: at').map fX), .sl 1 ((b0 :: bt).map xc), .v (.int .i64 (ss.length : Int))] [(qa, { cells := ((a0 :: at').map fX).flatten, sz := 1, elem := 104, st := 1 }), (qb, { cells := ((b0 :: bt).map xc).flatten, sz := 4, elem := 102, st := 1 })] J hr (.own (ob := { cells := ((a0 :: at').map fX).flatten, sz := 1, elem := 104, st := 0 }) ((a0 :: at').map fX) (by simp) g0 (by show (0 : Nat) ≠ 2; decide) J (by decide) (by simp [keys]) J (cM (f := fX) (n := 1) (fun _ => rfl)) (bL dfX) (.own (ob := { cells := ((b0 :: bt).map xc).flatten, sz := 4, elem := 102, st := 0 }) ((b0 :: bt).map xc) (by simp) (g1 om g0) (by show (0 : Nat) ≠ 2; decide) J (by decide) (by simp [keys]) J (cM (f := xc) (n := 4) (fun _ => rfl)) (bL pD) (.data (.v _) .nil))) (by intro p hp; simp only [List.mem_cons, List.not_mem_nil, or_false] at hp; rcases hp with rfl | rfl; exact ⟨_, g0, (by show (0 : Nat) ≠ 2; decide), rfl⟩; exact ⟨_, g1 om g0, (by show (0 : Nat) ≠ 2; decide), rfl⟩)) J <| Um J J <| aA (dF J J) J <| aA (dF J J) J <| Ua J J <| Ua J J <| Nk [17] J <| Rg 2 J <| Um J J <| Ua J J <| Wn <| aO <| ⟨.inr J, om, xs, rfl, hxl, by unfold vl; rw [hxs]; exact hwv, fun x hx => hsb _ (by rw [← hxs]; exact List.mem_map.2 ⟨x, hx, rfl⟩), (by intro q o hq'; have := hlt q o hq'; repeat (first | exact hq' | refine g1 om ?_))⟩
 refine Wn <| aS J <| aD <| aL ?_
 have hm := bC (us := ss) (i := i) om
 obtain ⟨hs0, hs1⟩ := jK hst (i := i) om
 have hmc := bC (us := (ss.getD i default).2.2) (i := (st.getD i default).toNat) om
 obtain ⟨hrw, hvb⟩ : VN (ch ss i (st.getD i default).toNat).1 ∧ VB ss.length (ch ss i (st.getD i default).toNat).2.2 := jI hV hm hmc
 have hr3 := hrw.all3
 have hcl := hV1.cs _ hm
 have hqsn : qs < nK := by omega
 refine Rg 6 J <| Um J J <| aA (bQ J J J J J om J) J <| aA (cZ (l := .agg (stc (ss.getD i default))) J J J) J <| bA (dY J) J <| Ua J J <| aZ (cB (cs' := stc (ss.getD i default)) J J J g0 J J J J) <| Wn <| bI (z := 10) J kR <| aF (bE J J J J J) J <| aF (aM J J gG J J) J ?_
 refine Dm J J <| Dm J J <| aF (cH (j := i) J J J J om om J) J <| aF (eL (f := ic) (us := st) (j := i) J J (by have := hlt qs _ hq; repeat (first | exact hq | refine g1 om ?_ | refine aG om ?_)) (fun _ => rfl) J (by decide) om J) J ?_
 refine aF (bQ (j := (st.getD i default).toNat) J J J J om om J) J <| aF (cZ (l := lvC (ch ss i (st.getD i default).toNat)) J J J) J <| nL (dY J) J <| cA (cB (cs' := chc (ch ss i (st.getD i default).toNat)) J J J g0 J J J J) <| bD (gO (rn nK) (by simp only [List.reverse_cons, List.reverse_nil, List.nil_append, List.cons_append, List.map_cons, List.map_nil, ren, keys, Nat.add_assoc, rn_add, rn_lt hqsn]; kernel_rfl)) J <| Ck [2,4,7,8,9,10,12,22,23,24] J <| Rg 3 J <| Um J J <| bA (oMk (a := ss.length) (b := ss.length) J J J J om om (by decide) om (by show 64 * ss.length ≤ _; omega) om) J <| Ua J J <| Wn <| aB <| Rg 4 J <| aA (bE J J J J J) J <| aA (aM J J gG J J) J ?_
 refine aA (aX J J) J <| Um J J <| Nk [2,4,7,8,9,10,12,13,22,23,24,40,41,42] J <| aL <| aY (α := Nat × (List X)) (fun ⟨j, row⟩ => [(2, .ref qs 1 0 ss.length), (4, .ptr (n0 + 1) 0), (7, .v (.int .i64 (ss.length : Int))), (8, outV qa 1 (al.map fX)), (9, outV qb 4 (bl.map xc)), (10, .v (.int .i64 (i : Int))), (12, .ptr (nK + 1 + 6 + 8) 0), (13, .ref (nK + 1 + 6 + 10 + 1) 4 0 ss.length), (22, .sl k (ss.map stc)), (23, .v (.int .i64 (ss.length : Int))), (24, .v (.int .i64 (i : Int))), (40, .sl (ch ss i (st.getD i default).toNat).2.1 ((ch ss i (st.getD i default).toNat).2.2.map brc)), (41, .v (.int .i64 ((ch ss i (st.getD i default).toNat).2.2.length : Int))), (42, .v (.int .i64 (j : Int)))]) (fun ⟨j, row⟩ => ((nK + 1 + 6 + 10 + 1), { cells := (row.map xc).flatten, sz := 4, elem := (102), st := 0 }) :: ((nK + 1 + 6 + 8), { cells := chc (ch ss i (st.getD i default).toNat), sz := 3, elem := (57), st := 0 }) :: outH qa 1 104 (al.map fX) (outH qb 4 102 (bl.map xc) ((n0 + 1, { cells := xc (d), sz := 4, elem := (102), st := 0 }) :: H))) (fun ⟨j, row⟩ n => j ≤ (ch ss i (st.getD i default).toNat).2.2.length ∧ RowP ss.length d.1 (ch ss i (st.getD i default).toNat).2.2 j (row.map (·.1)) ∧ nK + 24 ≤ n) (fun ⟨j, row⟩ => (ch ss i (st.getD i default).toNat).2.2.length - j) (0, List.replicate ss.length x0) ⟨J, J, J, J, J, J, J, J, J, J, J, J, J, J, trivial⟩ ⟨g0.trans (by rw [List.map_replicate]; rfl), gG, cD (fun hne => by rw [dL hne]; repeat (first | exact g0 | refine g1 om ?_ | refine aG om ?_)) (cD (fun hne => by rw [dL hne]; repeat (first | exact g0 | refine g1 om ?_ | refine aG om ?_)) ⟨(by repeat (first | exact g0 | refine g1 om ?_ | refine aG om ?_)), cQ hnd (by intro q o hq'; have := hlt q o hq'; repeat (first | exact hq' | refine g1 om ?_ | refine aG om ?_))⟩)⟩ ⟨Nat.zero_le _, by rw [List.map_replicate]; exact RowP.init _ _ _, om⟩ ?_
 rintro ⟨j, row⟩ n hF
 change WC _ _ _ _ _ [(2, .ref qs 1 0 ss.length), (4, .ptr (n0 + 1) 0), (7, .v (.int .i64 (ss.length : Int))), (8, outV qa 1 (al.map fX)), (9, outV qb 4 (bl.map xc)), (10, .v (.int .i64 (i : Int))), (12, .ptr (nK + 1 + 6 + 8) 0), (13, .ref (nK + 1 + 6 + 10 + 1) 4 0 ss.length), (22, .sl k (ss.map stc)), (23, .v (.int .i64 (ss.length : Int))), (24, .v (.int .i64 (i : Int))), (40, .sl (ch ss i (st.getD i default).toNat).2.1 ((ch ss i (st.getD i default).toNat).2.2.map brc)), (41, .v (.int .i64 ((ch ss i (st.getD i default).toNat).2.2.length : Int))), (42, .v (.int .i64 (j : Int)))] (((nK + 1 + 6 + 10 + 1), { cells := (row.map xc).flatten, sz := 4, elem := (102), st := 0 }) :: ((nK + 1 + 6 + 8), { cells := chc (ch ss i (st.getD i default).toNat), sz := 3, elem := (57), st := 0 }) :: outH qa 1 104 (al.map fX) (outH qb 4 102 (bl.map xc) ((n0 + 1, { cells := xc (d), sz := 4, elem := (102), st := 0 }) :: H))) n _
 obtain ⟨hj, hR, hn2⟩ := hF
 have hrl : row.length = ss.length := by have := hR.1; rwa [List.length_map] at this
 refine Rg 1 J <| aA (bS J J) J <| aW (fun h43 => ?_) (fun h43 => ?_)
 ·refine Nk [2,4,7,8,9,10,12,13,22,23,24,40,41,42,43] J <| aS J <| aD <| aL ?_
  have hto := hvb.to j om
  have hvn := hvb.vn j om
  have hi3 := hvn.all3
  have hbl8 := hvb.len
  refine Rg 4 J <| aA (bQ J J J J J om J) J <| aA (cZ (l := .agg (brc ((ch ss i (st.getD i default).toNat).2.2.getD j default))) J J J) J <| bA (dY J) J <| aZ (cB (cs' := brc ((ch ss i (st.getD i default).toNat).2.2.getD j default)) J J J g0 J J J J) <| Nk [2,4,7,8,9,10,12,13,15,22,23,24,40,41,42] J <| dN (z := 11) J kR <| Dm J J <| aF (bE J J J J J) J <| aF (aM J J gG J J) J ?_
  refine aF (aM (l := lvX d) J J (by repeat (first | exact g0 | refine g1 om ?_ | refine aG om ?_)) J J) J ?_
  refine aF (bE J J J J J) J <| aF (aM (l := lvM ((ch ss i (st.getD i default).toNat).2.2.getD j default).2) J J gG J J) J ?_
  refine aF (bK (b := lvX (nx ((ch ss i (st.getD i default).toNat).2.2.getD j default).2)) (aK J (eK ((ch ss i (st.getD i default).toNat).2.2.getD j default).2 hi3.1 hi3.2.1 hi3.2.2) dD) J) J <| aF (aK J (iW d (nx ((ch ss i (st.getD i default).toNat).2.2.getD j default).2) (hd.mono om) (hvn.bd.mono om)) dD) J <| aF (aK J (iX (xmul d (nx ((ch ss i (st.getD i default).toNat).2.2.getD j default).2))) dD) J <| aF (cH (j := ((ch ss i (st.getD i default).toNat).2.2.getD j default).1.toNat) J J J J om om J) J <| cA (eF (f := xc) (us := row) (xneg (xmul d (nx ((ch ss i (st.getD i default).toNat).2.2.getD j default).2))) J J J gG (fun _ => rfl) J J om J) ?_
  refine bD (aR kR) J <| aE <| Ck [2,4,7,8,9,10,12,13,22,23,24,40,41,42] J <| aI (z := 2) J <| aA (cI (((j + 1 : Nat) : Int)) (aP J J om) om) J <| Um J J <| Wn <| aC <| ⟨⟨j + 1, row.set ((ch ss i (st.getD i default).toNat).2.2.getD j default).1.toNat (xneg (xmul d (nx ((ch ss i (st.getD i default).toNat).2.2.getD j default).2)))⟩, ⟨J, J, J, J, J, J, J, J, J, J, J, J, J, J, trivial⟩, ⟨gG, gG, cD (fun hne => by rw [dL hne]; repeat (first | exact g0 | refine g1 om ?_ | refine aG om ?_)) (cD (fun hne => by rw [dL hne]; repeat (first | exact g0 | refine g1 om ?_ | refine aG om ?_)) ⟨(by repeat (first | exact g0 | refine g1 om ?_ | refine aG om ?_)), cQ hnd (by intro q o hq'; have := hlt q o hq'; repeat (first | exact hq' | refine g1 om ?_ | refine aG om ?_))⟩)⟩, ⟨om, by rw [List.map_set]; exact hR.step hvb om hd, om⟩, by show (ch ss i (st.getD i default).toNat).2.2.length - (j + 1) < (ch ss i (st.getD i default).toNat).2.2.length - j; omega⟩
 refine Nk [2,4,7,8,9,10,12,13,22,23,24,40,41,42,43] J <| aT J <| aV <| aQ <| aN J <| Ck [2,4,7,8,9,10,12,13,22,23,24] J ?_
 have hjn : j = (ch ss i (st.getD i default).toNat).2.2.length := by have := hvb.len; omega
 subst hjn
 have hgi : Bd 4 (row.getD i default).1 := kN (by decide) (fun x hx => hR.2.2.2 _ (List.mem_map.2 ⟨x, hx, rfl⟩)) i
 have hrowok := hR.done (i := i) om
 rw [show (row.map (·.1)).set i ((row.map (·.1)).getD i default + 1) = (row.set i (xadd (row.getD i default) (xint 1))).map (·.1) by rw [List.map_set]; congr 1; show _ = (row.getD i default).1 + 1; rw [jL]; rfl] at hrowok
 have hov : outV (nK + 1 + 6 + 10 + 1) 4 ((row.set i (xadd (row.getD i default) (xint 1))).map xc) = .ref (nK + 1 + 6 + 10 + 1) 4 0 ss.length := by
  rw [oK (fun h => by have := congrArg List.length h; rw [List.length_map, List.length_set, List.length_nil] at this; omega), List.length_map, List.length_set, hrl]
 have hqa2 : qa < n := by omega
 have hqb2 : qb < n := by omega
 have h12 : nK + (1 + (6 + 8)) < n := by omega
 have h12b : nK + (1 + (6 + 8)) ≠ qb := by omega
 have h12a : nK + (1 + (6 + 8)) ≠ qa := by omega
 have hqba : qb ≠ qa := by omega
 refine bI (z := 10) J kR <| Dm J J <| Dm J J <| Dm J J <| Dm J J <| aF (cH (j := i) J J J J om om J) J <| aF (eL (f := xc) (us := row) (j := i) (l := lvX (row.getD i default)) J J gG (fun _ => rfl) J (by decide) om J) J ?_
 refine aF (aK J (gS 1 (by unfold I64; omega)) dD) J <| aF (aK J (iV (row.getD i default) (xint 1) (hgi.mono om) (Bd1.mono om)) dD) J <| aF (cH (j := i) J J J J om om J) J <| cA (eF (f := xc) (us := row) (xadd (row.getD i default) (xint 1)) J J J gG (fun _ => rfl) J J om J) ?_
 refine bD (aR kR) J <| Ck [2,4,7,8,9,12,13,22,23,24] J <| oW (z := 12) J kR <| Dm J J <| Dm J J <| aF (cU (cs := [_]) (rows := [[_]]) J J (by decide) J J J) J <| jO _ (subsM.get (cD (q := qa) (sz := 1) (el := 104) (us := al.map fX) (h := ((nK + 1 + 6 + 10 + 1), { cells := ((row.set i (xadd (row.getD i default) (xint 1))).map xc).flatten, sz := 4, elem := (102), st := 0 }) :: ((nK + 1 + 6 + 8), { cells := chc (ch ss i (st.getD i default).toNat), sz := 3, elem := (57), st := 0 }) :: outH qb 4 102 (bl.map xc) ((n0 + 1, { cells := xc (d), sz := 4, elem := (102), st := 0 }) :: H)) (fun hne => by rw [dL hne]; repeat (first | exact g0 | refine g1 om ?_ | refine aG om ?_)) ⟨(by repeat (first | exact g0 | refine g1 om ?_ | refine aG om ?_)), (by repeat (first | exact g0 | refine g1 om ?_ | refine aG om ?_)), cD (fun hne => by rw [dL hne]; repeat (first | exact g0 | refine g1 om ?_ | refine aG om ?_)) ⟨(by repeat (first | exact g0 | refine g1 om ?_ | refine aG om ?_)), cQ hnd (by intro q o hq'; have := hlt q o hq'; repeat (first | exact hq' | refine g1 om ?_ | refine aG om ?_))⟩⟩)) ?_
 refine WD.ap (te := ti104) (k0 := 0) (us := al.map fX) (rows := [[_]]) (.inl J) J J J (by rw [jW]; rfl) J (by decide) (by intro r hr; rw [List.mem_singleton] at hr; subst hr; rfl) (cM (f := fX) (n := 1) fun _ => rfl) (by simp) (by rw [List.length_map]; show (2 * (al.length + 1) + 256) * 24 ≤ _; omega) (by rw [List.length_map]; show al.length + 1 < _; omega) (gN om (gN om (fZ om (gN om (hfr qa om))))) J <| Dm J J <| aF (bE J J J J J) J <| aF (aM (l := lvM (ch ss i (st.getD i default).toNat).1) J J (by repeat (first | exact g0 | refine g1 om ?_ | refine aG om ?_)) J J) J ?_
 refine aF (bK (b := lvX (nx (ch ss i (st.getD i default).toNat).1)) (aK J (eK (ch ss i (st.getD i default).toNat).1 hr3.1 hr3.2.1 hr3.2.2) dD) J) J <| aF (cU (cs := [_, _, _, _]) (rows := [[_, _, _, _]]) J J (by decide) J J J) J <| jO _ (subsM.get (cD (q := qb) (sz := 4) (el := 102) (us := bl.map xc) (h := ((n + 1 + 10 + 3), { cells := (al.map fX).flatten ++ [[LV.ref (nK + 1 + 6 + 10 + 1) 4 0 ss.length]].flatten, sz := 1, elem := 104, st := 0 }) :: ((nK + 1 + 6 + 10 + 1), { cells := ((row.set i (xadd (row.getD i default) (xint 1))).map xc).flatten, sz := 4, elem := (102), st := 0 }) :: (n0 + 1, { cells := xc (d), sz := 4, elem := (102), st := 0 }) :: H) (fun hne => by rw [dL hne]; repeat (first | exact g0 | refine g1 om ?_ | refine aG om ?_)) ⟨(by repeat (first | exact g0 | refine g1 om ?_ | refine aG om ?_)), (by repeat (first | exact g0 | refine g1 om ?_ | refine aG om ?_)), (by repeat (first | exact g0 | refine g1 om ?_ | refine aG om ?_)), cQ hnd (by intro q o hq'; have := hlt q o hq'; repeat (first | exact hq' | refine g1 om ?_ | refine aG om ?_))⟩)) ?_
 refine WD.ap (te := ti102) (k0 := 0) (us := bl.map xc) (rows := [xc (nx (ch ss i (st.getD i default).toNat).1)]) (.inl J) J J J (by rw [jW]; rfl) J (by decide) (by intro r hr; rw [List.mem_singleton] at hr; subst hr; rfl) (cM (f := xc) (n := 4) fun _ => rfl) (by simp) (by rw [List.length_map]; show (2 * (bl.length + 1) + 256) * 64 ≤ _; omega) (by rw [List.length_map]; show bl.length + 1 < _; omega) (gN om (gN om (gN om (hfr qb om)))) J <| aF (iE J) J <| aF (iE J) J <| bD (gO (rq2 qa qb n) (by simp only [List.reverse_cons, List.reverse_nil, List.nil_append, List.cons_append, List.map_cons, List.map_nil, ren, keys, Nat.add_assoc, rq2_a, rq2_b hqba, rq2_lt h12 h12a h12b, rq2_add hqa2 hqb2]; kernel_rfl)) J <| Fz.weakH (outH (nK + 1 + 6 + 10 + 1) 4 (102) ((row.set i (xadd (row.getD i default) (xint 1))).map xc) (((n + 1 + 10 + 3), { cells := (al.map fX).flatten ++ [outV (nK + 1 + 6 + 10 + 1) 4 ((row.set i (xadd (row.getD i default) (xint 1))).map xc)], sz := 1, elem := 104, st := 0 }) :: ((n + 1 + 10 + 9), { cells := (bl.map xc).flatten ++ [xc (nx (ch ss i (st.getD i default).toNat).1)].flatten, sz := 4, elem := 102, st := 0 }) :: (n0 + 1, { cells := xc (d), sz := 4, elem := (102), st := 0 }) :: H)) (subsM.get (cD (fun _ => (by repeat (first | exact g0 | refine g1 om ?_ | refine aG om ?_))) ⟨by rw [hov]; exact (by repeat (first | exact g0 | refine g1 om ?_ | refine aG om ?_)), (by repeat (first | exact g0 | refine g1 om ?_ | refine aG om ?_)), (by repeat (first | exact g0 | refine g1 om ?_ | refine aG om ?_)), cQ hnd (by intro q o hq'; have := hlt q o hq'; repeat (first | exact hq' | refine g1 om ?_ | refine aG om ?_))⟩)) ?_
 refine Fz.cellR [(2, _), (4, _), (7, _), (8, _), (9, _), (22, _), (23, _), (24, _)] ⟨J, J, J, J, J, J, J, J, trivial⟩ om (by decide) (cM (f := xc) (n := 4) fun _ => rfl) (bL pD) (gN om (gN om (hfr _ om))) ?_
 rw [kT]
 refine aE <| aI (z := 2) J <| aA (cI (((i + 1 : Nat) : Int)) (aP J J om) om) J <| Um J J <| Wn <| aC <| ⟨⟨i + 1, (n + 1 + 10 + 3), (n + 1 + 10 + 9), al ++ [(kd (row.set i (xadd (row.getD i default) (xint 1))).length, (row.set i (xadd (row.getD i default) (xint 1))))], bl ++ [nx (ch ss i (st.getD i default).toNat).1]⟩, ⟨rfl, rfl, rfl, congrArg some (by rw [List.map_append]; exact outV_snoc.symm), congrArg some (by rw [List.map_append]; exact outV_snoc.symm), rfl, rfl, rfl, trivial⟩, by dsimp only; rw [List.map_append, List.map_append]; simp only [List.map_cons, List.map_nil]; rw [jV, jV]; exact ⟨gG, gG, gG, cQ hnd (by intro q o hq'; have := hlt q o hq'; repeat (first | exact hq' | refine g1 om ?_))⟩, ⟨om, by rw [List.length_append]; show al.length + 1 = _; omega, by rw [List.length_append]; show bl.length + 1 = _; omega, fun a ha => ?_, fun r hr => ?_, fun x hx => ?_, om, om, om, om, om, om⟩, by show ss.length - (i + 1) < ss.length - i; omega⟩
 ·by_cases e : a = i
  ·subst e
   rw [show (al ++ [(kd (row.set a (xadd (row.getD a default) (xint 1))).length, (row.set a (xadd (row.getD a default) (xint 1))))]).getD a default = (kd (row.set a (xadd (row.getD a default) (xint 1))).length, (row.set a (xadd (row.getD a default) (xint 1)))) by rw [← hal]; simp [List.getD_eq_getElem?_getD], show (bl ++ [nx (ch ss a (st.getD a default).toNat).1]).getD a default = nx (ch ss a (st.getD a default).toNat).1 by rw [← hbl]; simp [List.getD_eq_getElem?_getD]]
   exact ⟨hrowok.1, rfl, rfl⟩
  ·rw [show (al ++ [(kd (row.set i (xadd (row.getD i default) (xint 1))).length, (row.set i (xadd (row.getD i default) (xint 1))))]).getD a default = al.getD a default by simp only [List.getD_eq_getElem?_getD]; rw [List.getElem?_append_left om], show (bl ++ [nx (ch ss i (st.getD i default).toNat).1]).getD a default = bl.getD a default by simp only [List.getD_eq_getElem?_getD]; rw [List.getElem?_append_left om]]
   exact hrows a om
 ·rcases List.mem_append.1 hr with h | h
  ·exact hba r h
  ·rw [List.mem_singleton] at h; subst h
   exact fun x hx => hrowok.2 _ (List.mem_map.2 ⟨x, hx, rfl⟩)
 ·rcases List.mem_append.1 hx with h | h
  ·exact hbb x h
  ·rw [List.mem_singleton] at h; subst h
   exact hrw.bd.mono (by decide)
theorem worth_wc (n0 : Nat) (H : Hp) (k ks : Nat) (ss : List Go.Ab.ST) (d : X) (st : List Int) (hnd : subsM H H) (hlt : ∀ q o, getH H q = some o → q < n0) (hV : VMo ss = true) (hd : Bd 2 d.1) (hd0 : 0 < d.1) (hd1 : d.1 < 1) (hst : vSt ss st = true) : WC Tryz.prog T E0 Tryz.f71.ntmps (codeOf Tryz.f71) (argsEnv 0 [lvMo k ss, lvX d, .sl ks (st.map ic)]) H n0 (fun x e' h' n' => (x = .normal ∨ x = .ret) ∧ n0 ≤ n' ∧ ∃ xs : List X, resE e' T h' Tryz.f71.results.toList = some [.sl 1 (xs.map xc)] ∧ xs.length = ss.length ∧ WV ss d.1 st (vl xs) ∧ (∀ x, x ∈ xs → Bd 268435456 x.1) ∧ ∀ q o, getH H q = some o → getH h' q = some o) := by
 have hV1 := iG hV
 have hn40 := hV1.wt.len
 have hpos := hV1.pos
 have hsl := gJ hst
 have hD := gA hV hd0 hd1
 have hfr : ∀ q, n0 ≤ q → getH H q = none := fun q hq => by
  cases h : getH H q with
  | none => rfl
  | some o => have := hlt q o h; omega
 change WC _ _ _ _ _ [(0, lvMo k ss), (1, lvX d), (2, .sl ks (st.map ic))] _ _ _
 refine Rg 3 J <| bA (dT J J) J <| bA (dT J J) J <| Ua J J <| Wn <| Rg 4 J <| aA (bE J J J J J) J <| aA (aM J J gG J J) J ?_
 refine aA (aX J J) J <| Ua J J <| Wn <| Rg 1 J <| Ua J J <| Wn <| Rg 1 J <| Ua J J <| Wn <| aB <| Rg 4 J <| aA (bE J J J J J) J <| aA (aM J J gG J J) J ?_
 refine aA (aX J J) J <| Um J J <| Nk [2,4,7,8,9,22,23,24] J <| aL <| aY (α := Nat × Nat × Nat × (List X1) × (List X)) (fun ⟨i, qa, qb, al, bl⟩ => [(2, .sl ks (st.map ic)), (4, .ptr (n0 + 1) 0), (7, .v (.int .i64 (ss.length : Int))), (8, outV qa 1 (al.map fX)), (9, outV qb 4 (bl.map xc)), (22, .sl k (ss.map stc)), (23, .v (.int .i64 (ss.length : Int))), (24, .v (.int .i64 (i : Int)))]) (fun ⟨i, qa, qb, al, bl⟩ => outH qa 1 104 (al.map fX) (outH qb 4 102 (bl.map xc) ((n0 + 1, { cells := xc (d), sz := 4, elem := (102), st := 0 }) :: H))) (fun ⟨i, qa, qb, al, bl⟩ n => i ≤ ss.length ∧ al.length = i ∧ bl.length = i ∧ (∀ a, a < i → RowOk ss.length d.1 (ch ss a (st.getD a default).toNat).2.2 a ((al.getD a default).2.map (·.1)) ∧ (al.getD a default).1 = kd (al.getD a default).2.length ∧ (bl.getD a default).1 = nq (ch ss a (st.getD a default).toNat).1) ∧ (∀ r, r ∈ al → ∀ x, x ∈ r.2 → Bd 8 x.1) ∧ (∀ x, x ∈ bl → Bd 8 x.1) ∧ n0 + 1 < qa ∧ n0 + 1 < qb ∧ qa ≠ qb ∧ qa < n ∧ qb < n ∧ n0 + 6 ≤ n) (fun ⟨i, qa, qb, al, bl⟩ => ss.length - i) (0, n0 + 2, n0 + 3, [], []) ⟨J, J, J, J, J, J, J, J, trivial⟩ ⟨gG, cQ hnd (by intro q o hq'; have := hlt q o hq'; repeat (first | exact hq' | refine g1 om ?_))⟩ ⟨Nat.zero_le _, rfl, rfl, fun a ha => absurd ha om, by simp, by simp, om, om, om, om, om, om⟩ ?_
 rintro ⟨i, qa, qb, al, bl⟩ n hF
 change WC _ _ _ _ _ (_ :: _) (outH _ _ _ _ _) n _
 obtain ⟨hi, hal, hbl, hrows, hba, hbb, hqa, hqb, hqab, hqa3, hqb3, hn⟩ := hF
 obtain ⟨nK, hnK⟩ : ∃ z, z = n := ⟨n, rfl⟩
 subst hnK
 refine Rg 1 J <| aA (bS J J) J <| aW (fun h25 => ?_) (fun h25 => ?_)
 rotate_left
 ·refine Wn <| aT J <| aV <| aQ <| aN J ?_
  obtain ⟨a0, at', rfl⟩ : ∃ a t, al = a :: t := by
   cases al with
   | nil => simp at hal; omega
   | cons a t => exact ⟨a, t, rfl⟩
  obtain ⟨b0, bt, rfl⟩ : ∃ a t, bl = a :: t := by
   cases bl with
   | nil => simp at hbl; omega
   | cons a t => exact ⟨a, t, rfl⟩
  obtain rfl : i = ss.length := by omega
  obtain ⟨hg1, _, hns, hsvl, hwv, hsb⟩ := worth_sys hD hn40 hst (A := vX (a0 :: at')) (b := (b0 :: bt).map (·.1)) (by rw [cW]; exact hal) (by rw [List.length_map]; exact hbl) (fun a ha => by rw [dB]; exact (hrows a ha).1) (fun a ha => by show fn_ ((b0 :: bt).map (·.1)) a = _; exact (jL (b0 :: bt) a).symm.trans (hrows a ha).2.2) (fun r hr x hx => by obtain ⟨y, hy, rfl⟩ := List.mem_map.1 hr; obtain ⟨z, hz, rfl⟩ := List.mem_map.1 hx; exact hba y hy z hz) (fun x hx => by obtain ⟨y, hy, rfl⟩ := List.mem_map.1 hx; exact hbb y hy)
  have hrow2 : ∀ r, r ∈ a0 :: at' → r.2.length = ss.length ∧ r.1 = kd r.2.length := fun r hr => by
   obtain ⟨a, ha, rfl⟩ := List.getElem_of_mem hr
   have h1 := hrows a om
   rw [show (a0 :: at').getD a default = (a0 :: at')[a] by rw [List.getD_eq_getElem?_getD, List.getElem?_eq_getElem ha]; rfl] at h1
   have h2 := h1.1.1
   rw [List.length_map] at h2
   exact ⟨h2, h1.2.1⟩
  obtain ⟨r, hr, hphi⟩ := oE (a0 :: at') 1 (b0 :: bt) ss.length (by simp) om (fun r hr => (hrow2 r hr).1) (fun r hr => (hrow2 r hr).2) om om 268435456 (Nat.le_refl _) hg1
  rw [if_neg (by rw [hns]; decide)] at hphi
  obtain ⟨xs, rfl, hxs⟩ := hphi
  have hxl : xs.length = ss.length := by have := congrArg List.length hxs; rw [hsvl, List.length_map] at this; exact this
  refine Rg 9 J <| Um J J <| Um J J <| Um J J <| bA (iU [.sl 1 ((a0 :: at').map fX), .sl 1 ((b0 :: bt).map xc), .v (.int .i64 (ss.length : Int))] [(qa, { cells := ((a0 :: at').map fX).flatten, sz := 1, elem := 104, st := 1 }), (qb, { cells := ((b0 :: bt).map xc).flatten, sz := 4, elem := 102, st := 1 })] J hr (.own (ob := { cells := ((a0 :: at').map fX).flatten, sz := 1, elem := 104, st := 0 }) ((a0 :: at').map fX) (by simp) g0 (by show (0 : Nat) ≠ 2; decide) J (by decide) (by simp [keys]) J (cM (f := fX) (n := 1) (fun _ => rfl)) (bL dfX) (.own (ob := { cells := ((b0 :: bt).map xc).flatten, sz := 4, elem := 102, st := 0 }) ((b0 :: bt).map xc) (by simp) (g1 om g0) (by show (0 : Nat) ≠ 2; decide) J (by decide) (by simp [keys]) J (cM (f := xc) (n := 4) (fun _ => rfl)) (bL pD) (.data (.v _) .nil))) (by intro p hp; simp only [List.mem_cons, List.not_mem_nil, or_false] at hp; rcases hp with rfl | rfl; exact ⟨_, g0, (by show (0 : Nat) ≠ 2; decide), rfl⟩; exact ⟨_, g1 om g0, (by show (0 : Nat) ≠ 2; decide), rfl⟩)) J <| Um J J <| aA (dF J J) J <| aA (dF J J) J <| Ua J J <| Ua J J <| Nk [17] J <| Rg 2 J <| Um J J <| Ua J J <| Wn <| aO <| ⟨.inr J, om, xs, rfl, hxl, by unfold vl; rw [hxs]; exact hwv, fun x hx => hsb _ (by rw [← hxs]; exact List.mem_map.2 ⟨x, hx, rfl⟩), (by intro q o hq'; have := hlt q o hq'; repeat (first | exact hq' | refine g1 om ?_))⟩
 refine Wn <| aS J <| aD <| aL ?_
 have hm := bC (us := ss) (i := i) om
 obtain ⟨hs0, hs1⟩ := jK hst (i := i) om
 have hmc := bC (us := (ss.getD i default).2.2) (i := (st.getD i default).toNat) om
 obtain ⟨hrw, hvb⟩ : VN (ch ss i (st.getD i default).toNat).1 ∧ VB ss.length (ch ss i (st.getD i default).toNat).2.2 := jI hV hm hmc
 have hr3 := hrw.all3
 have hcl := hV1.cs _ hm
 refine Rg 6 J <| Um J J <| aA (bQ J J J J J om J) J <| aA (cZ (l := .agg (stc (ss.getD i default))) J J J) J <| bA (dY J) J <| Ua J J <| aZ (cB (cs' := stc (ss.getD i default)) J J J g0 J J J J) <| Wn <| bI (z := 10) J kR <| aF (bE J J J J J) J <| aF (aM J J gG J J) J ?_
 refine Dm J J <| Dm J J <| aF (bQ (j := i) J J J J om om J) J <| aF (cZ J J J) J <| aF (bQ (j := (st.getD i default).toNat) J J J J om om J) J <| aF (cZ (l := lvC (ch ss i (st.getD i default).toNat)) J J J) J <| nL (dY J) J <| cA (cB (cs' := chc (ch ss i (st.getD i default).toNat)) J J J g0 J J J J) <| bD (gO (rn nK) (by simp only [List.reverse_cons, List.reverse_nil, List.nil_append, List.cons_append, List.map_cons, List.map_nil, ren, keys, Nat.add_assoc, rn_add]; kernel_rfl)) J <| Ck [2,4,7,8,9,10,12,22,23,24] J <| Rg 3 J <| Um J J <| bA (oMk (a := ss.length) (b := ss.length) J J J J om om (by decide) om (by show 64 * ss.length ≤ _; omega) om) J <| Ua J J <| Wn <| aB <| Rg 4 J <| aA (bE J J J J J) J <| aA (aM J J gG J J) J ?_
 refine aA (aX J J) J <| Um J J <| Nk [2,4,7,8,9,10,12,13,22,23,24,40,41,42] J <| aL <| aY (α := Nat × (List X)) (fun ⟨j, row⟩ => [(2, .sl ks (st.map ic)), (4, .ptr (n0 + 1) 0), (7, .v (.int .i64 (ss.length : Int))), (8, outV qa 1 (al.map fX)), (9, outV qb 4 (bl.map xc)), (10, .v (.int .i64 (i : Int))), (12, .ptr (nK + 1 + 6 + 8) 0), (13, .ref (nK + 1 + 6 + 10 + 1) 4 0 ss.length), (22, .sl k (ss.map stc)), (23, .v (.int .i64 (ss.length : Int))), (24, .v (.int .i64 (i : Int))), (40, .sl (ch ss i (st.getD i default).toNat).2.1 ((ch ss i (st.getD i default).toNat).2.2.map brc)), (41, .v (.int .i64 ((ch ss i (st.getD i default).toNat).2.2.length : Int))), (42, .v (.int .i64 (j : Int)))]) (fun ⟨j, row⟩ => ((nK + 1 + 6 + 10 + 1), { cells := (row.map xc).flatten, sz := 4, elem := (102), st := 0 }) :: ((nK + 1 + 6 + 8), { cells := chc (ch ss i (st.getD i default).toNat), sz := 3, elem := (57), st := 0 }) :: outH qa 1 104 (al.map fX) (outH qb 4 102 (bl.map xc) ((n0 + 1, { cells := xc (d), sz := 4, elem := (102), st := 0 }) :: H))) (fun ⟨j, row⟩ n => j ≤ (ch ss i (st.getD i default).toNat).2.2.length ∧ RowP ss.length d.1 (ch ss i (st.getD i default).toNat).2.2 j (row.map (·.1)) ∧ nK + 24 ≤ n) (fun ⟨j, row⟩ => (ch ss i (st.getD i default).toNat).2.2.length - j) (0, List.replicate ss.length x0) ⟨J, J, J, J, J, J, J, J, J, J, J, J, J, J, trivial⟩ ⟨g0.trans (by rw [List.map_replicate]; rfl), gG, cD (fun hne => by rw [dL hne]; repeat (first | exact g0 | refine g1 om ?_ | refine aG om ?_)) (cD (fun hne => by rw [dL hne]; repeat (first | exact g0 | refine g1 om ?_ | refine aG om ?_)) ⟨(by repeat (first | exact g0 | refine g1 om ?_ | refine aG om ?_)), cQ hnd (by intro q o hq'; have := hlt q o hq'; repeat (first | exact hq' | refine g1 om ?_ | refine aG om ?_))⟩)⟩ ⟨Nat.zero_le _, by rw [List.map_replicate]; exact RowP.init _ _ _, om⟩ ?_
 rintro ⟨j, row⟩ n hF
 change WC _ _ _ _ _ [(2, .sl ks (st.map ic)), (4, .ptr (n0 + 1) 0), (7, .v (.int .i64 (ss.length : Int))), (8, outV qa 1 (al.map fX)), (9, outV qb 4 (bl.map xc)), (10, .v (.int .i64 (i : Int))), (12, .ptr (nK + 1 + 6 + 8) 0), (13, .ref (nK + 1 + 6 + 10 + 1) 4 0 ss.length), (22, .sl k (ss.map stc)), (23, .v (.int .i64 (ss.length : Int))), (24, .v (.int .i64 (i : Int))), (40, .sl (ch ss i (st.getD i default).toNat).2.1 ((ch ss i (st.getD i default).toNat).2.2.map brc)), (41, .v (.int .i64 ((ch ss i (st.getD i default).toNat).2.2.length : Int))), (42, .v (.int .i64 (j : Int)))] (((nK + 1 + 6 + 10 + 1), { cells := (row.map xc).flatten, sz := 4, elem := (102), st := 0 }) :: ((nK + 1 + 6 + 8), { cells := chc (ch ss i (st.getD i default).toNat), sz := 3, elem := (57), st := 0 }) :: outH qa 1 104 (al.map fX) (outH qb 4 102 (bl.map xc) ((n0 + 1, { cells := xc (d), sz := 4, elem := (102), st := 0 }) :: H))) n _
 obtain ⟨hj, hR, hn2⟩ := hF
 have hrl : row.length = ss.length := by have := hR.1; rwa [List.length_map] at this
 refine Rg 1 J <| aA (bS J J) J <| aW (fun h43 => ?_) (fun h43 => ?_)
 ·refine Nk [2,4,7,8,9,10,12,13,22,23,24,40,41,42,43] J <| aS J <| aD <| aL ?_
  have hto := hvb.to j om
  have hvn := hvb.vn j om
  have hi3 := hvn.all3
  have hbl8 := hvb.len
  refine Rg 4 J <| aA (bQ J J J J J om J) J <| aA (cZ (l := .agg (brc ((ch ss i (st.getD i default).toNat).2.2.getD j default))) J J J) J <| bA (dY J) J <| aZ (cB (cs' := brc ((ch ss i (st.getD i default).toNat).2.2.getD j default)) J J J g0 J J J J) <| Nk [2,4,7,8,9,10,12,13,15,22,23,24,40,41,42] J <| dN (z := 11) J kR <| Dm J J <| aF (bE J J J J J) J <| aF (aM J J gG J J) J ?_
  refine aF (aM (l := lvX d) J J (by repeat (first | exact g0 | refine g1 om ?_ | refine aG om ?_)) J J) J ?_
  refine aF (bE J J J J J) J <| aF (aM (l := lvM ((ch ss i (st.getD i default).toNat).2.2.getD j default).2) J J gG J J) J ?_
  refine aF (bK (b := lvX (nx ((ch ss i (st.getD i default).toNat).2.2.getD j default).2)) (aK J (eK ((ch ss i (st.getD i default).toNat).2.2.getD j default).2 hi3.1 hi3.2.1 hi3.2.2) dD) J) J <| aF (aK J (iW d (nx ((ch ss i (st.getD i default).toNat).2.2.getD j default).2) (hd.mono om) (hvn.bd.mono om)) dD) J <| aF (aK J (iX (xmul d (nx ((ch ss i (st.getD i default).toNat).2.2.getD j default).2))) dD) J <| aF (cH (j := ((ch ss i (st.getD i default).toNat).2.2.getD j default).1.toNat) J J J J om om J) J <| cA (eF (f := xc) (us := row) (xneg (xmul d (nx ((ch ss i (st.getD i default).toNat).2.2.getD j default).2))) J J J gG (fun _ => rfl) J J om J) ?_
  refine bD (aR kR) J <| aE <| Ck [2,4,7,8,9,10,12,13,22,23,24,40,41,42] J <| aI (z := 2) J <| aA (cI (((j + 1 : Nat) : Int)) (aP J J om) om) J <| Um J J <| Wn <| aC <| ⟨⟨j + 1, row.set ((ch ss i (st.getD i default).toNat).2.2.getD j default).1.toNat (xneg (xmul d (nx ((ch ss i (st.getD i default).toNat).2.2.getD j default).2)))⟩, ⟨J, J, J, J, J, J, J, J, J, J, J, J, J, J, trivial⟩, ⟨gG, gG, cD (fun hne => by rw [dL hne]; repeat (first | exact g0 | refine g1 om ?_ | refine aG om ?_)) (cD (fun hne => by rw [dL hne]; repeat (first | exact g0 | refine g1 om ?_ | refine aG om ?_)) ⟨(by repeat (first | exact g0 | refine g1 om ?_ | refine aG om ?_)), cQ hnd (by intro q o hq'; have := hlt q o hq'; repeat (first | exact hq' | refine g1 om ?_ | refine aG om ?_))⟩)⟩, ⟨om, by rw [List.map_set]; exact hR.step hvb om hd, om⟩, by show (ch ss i (st.getD i default).toNat).2.2.length - (j + 1) < (ch ss i (st.getD i default).toNat).2.2.length - j; omega⟩
 refine Nk [2,4,7,8,9,10,12,13,22,23,24,40,41,42,43] J <| aT J <| aV <| aQ <| aN J <| Ck [2,4,7,8,9,10,12,13,22,23,24] J ?_
 have hjn : j = (ch ss i (st.getD i default).toNat).2.2.length := by have := hvb.len; omega
 subst hjn
 have hgi : Bd 4 (row.getD i default).1 := kN (by decide) (fun x hx => hR.2.2.2 _ (List.mem_map.2 ⟨x, hx, rfl⟩)) i
 have hrowok := hR.done (i := i) om
 rw [show (row.map (·.1)).set i ((row.map (·.1)).getD i default + 1) = (row.set i (xadd (row.getD i default) (xint 1))).map (·.1) by rw [List.map_set]; congr 1; show _ = (row.getD i default).1 + 1; rw [jL]; rfl] at hrowok
 have hov : outV (nK + 1 + 6 + 10 + 1) 4 ((row.set i (xadd (row.getD i default) (xint 1))).map xc) = .ref (nK + 1 + 6 + 10 + 1) 4 0 ss.length := by
  rw [oK (fun h => by have := congrArg List.length h; rw [List.length_map, List.length_set, List.length_nil] at this; omega), List.length_map, List.length_set, hrl]
 have hqa2 : qa < n := by omega
 have hqb2 : qb < n := by omega
 have h12 : nK + (1 + (6 + 8)) < n := by omega
 have h12b : nK + (1 + (6 + 8)) ≠ qb := by omega
 have h12a : nK + (1 + (6 + 8)) ≠ qa := by omega
 have hqba : qb ≠ qa := by omega
 refine bI (z := 10) J kR <| Dm J J <| Dm J J <| Dm J J <| Dm J J <| aF (cH (j := i) J J J J om om J) J <| aF (eL (f := xc) (us := row) (j := i) (l := lvX (row.getD i default)) J J gG (fun _ => rfl) J (by decide) om J) J ?_
 refine aF (aK J (gS 1 (by unfold I64; omega)) dD) J <| aF (aK J (iV (row.getD i default) (xint 1) (hgi.mono om) (Bd1.mono om)) dD) J <| aF (cH (j := i) J J J J om om J) J <| cA (eF (f := xc) (us := row) (xadd (row.getD i default) (xint 1)) J J J gG (fun _ => rfl) J J om J) ?_
 refine bD (aR kR) J <| Ck [2,4,7,8,9,12,13,22,23,24] J <| oW (z := 12) J kR <| Dm J J <| Dm J J <| aF (cU (cs := [_]) (rows := [[_]]) J J (by decide) J J J) J <| jO _ (subsM.get (cD (q := qa) (sz := 1) (el := 104) (us := al.map fX) (h := ((nK + 1 + 6 + 10 + 1), { cells := ((row.set i (xadd (row.getD i default) (xint 1))).map xc).flatten, sz := 4, elem := (102), st := 0 }) :: ((nK + 1 + 6 + 8), { cells := chc (ch ss i (st.getD i default).toNat), sz := 3, elem := (57), st := 0 }) :: outH qb 4 102 (bl.map xc) ((n0 + 1, { cells := xc (d), sz := 4, elem := (102), st := 0 }) :: H)) (fun hne => by rw [dL hne]; repeat (first | exact g0 | refine g1 om ?_ | refine aG om ?_)) ⟨(by repeat (first | exact g0 | refine g1 om ?_ | refine aG om ?_)), (by repeat (first | exact g0 | refine g1 om ?_ | refine aG om ?_)), cD (fun hne => by rw [dL hne]; repeat (first | exact g0 | refine g1 om ?_ | refine aG om ?_)) ⟨(by repeat (first | exact g0 | refine g1 om ?_ | refine aG om ?_)), cQ hnd (by intro q o hq'; have := hlt q o hq'; repeat (first | exact hq' | refine g1 om ?_ | refine aG om ?_))⟩⟩)) ?_
 refine WD.ap (te := ti104) (k0 := 0) (us := al.map fX) (rows := [[_]]) (.inl J) J J J (by rw [jW]; rfl) J (by decide) (by intro r hr; rw [List.mem_singleton] at hr; subst hr; rfl) (cM (f := fX) (n := 1) fun _ => rfl) (by simp) (by rw [List.length_map]; show (2 * (al.length + 1) + 256) * 24 ≤ _; omega) (by rw [List.length_map]; show al.length + 1 < _; omega) (gN om (gN om (fZ om (gN om (hfr qa om))))) J <| Dm J J <| aF (bE J J J J J) J <| aF (aM (l := lvM (ch ss i (st.getD i default).toNat).1) J J (by repeat (first | exact g0 | refine g1 om ?_ | refine aG om ?_)) J J) J ?_
 refine aF (bK (b := lvX (nx (ch ss i (st.getD i default).toNat).1)) (aK J (eK (ch ss i (st.getD i default).toNat).1 hr3.1 hr3.2.1 hr3.2.2) dD) J) J <| aF (cU (cs := [_, _, _, _]) (rows := [[_, _, _, _]]) J J (by decide) J J J) J <| jO _ (subsM.get (cD (q := qb) (sz := 4) (el := 102) (us := bl.map xc) (h := ((n + 1 + 10 + 3), { cells := (al.map fX).flatten ++ [[LV.ref (nK + 1 + 6 + 10 + 1) 4 0 ss.length]].flatten, sz := 1, elem := 104, st := 0 }) :: ((nK + 1 + 6 + 10 + 1), { cells := ((row.set i (xadd (row.getD i default) (xint 1))).map xc).flatten, sz := 4, elem := (102), st := 0 }) :: (n0 + 1, { cells := xc (d), sz := 4, elem := (102), st := 0 }) :: H) (fun hne => by rw [dL hne]; repeat (first | exact g0 | refine g1 om ?_ | refine aG om ?_)) ⟨(by repeat (first | exact g0 | refine g1 om ?_ | refine aG om ?_)), (by repeat (first | exact g0 | refine g1 om ?_ | refine aG om ?_)), (by repeat (first | exact g0 | refine g1 om ?_ | refine aG om ?_)), cQ hnd (by intro q o hq'; have := hlt q o hq'; repeat (first | exact hq' | refine g1 om ?_ | refine aG om ?_))⟩)) ?_
 refine WD.ap (te := ti102) (k0 := 0) (us := bl.map xc) (rows := [xc (nx (ch ss i (st.getD i default).toNat).1)]) (.inl J) J J J (by rw [jW]; rfl) J (by decide) (by intro r hr; rw [List.mem_singleton] at hr; subst hr; rfl) (cM (f := xc) (n := 4) fun _ => rfl) (by simp) (by rw [List.length_map]; show (2 * (bl.length + 1) + 256) * 64 ≤ _; omega) (by rw [List.length_map]; show bl.length + 1 < _; omega) (gN om (gN om (gN om (hfr qb om)))) J <| aF (iE J) J <| aF (iE J) J <| bD (gO (rq2 qa qb n) (by simp only [List.reverse_cons, List.reverse_nil, List.nil_append, List.cons_append, List.map_cons, List.map_nil, ren, keys, Nat.add_assoc, rq2_a, rq2_b hqba, rq2_lt h12 h12a h12b, rq2_add hqa2 hqb2]; kernel_rfl)) J <| Fz.weakH (outH (nK + 1 + 6 + 10 + 1) 4 (102) ((row.set i (xadd (row.getD i default) (xint 1))).map xc) (((n + 1 + 10 + 3), { cells := (al.map fX).flatten ++ [outV (nK + 1 + 6 + 10 + 1) 4 ((row.set i (xadd (row.getD i default) (xint 1))).map xc)], sz := 1, elem := 104, st := 0 }) :: ((n + 1 + 10 + 9), { cells := (bl.map xc).flatten ++ [xc (nx (ch ss i (st.getD i default).toNat).1)].flatten, sz := 4, elem := 102, st := 0 }) :: (n0 + 1, { cells := xc (d), sz := 4, elem := (102), st := 0 }) :: H)) (subsM.get (cD (fun _ => (by repeat (first | exact g0 | refine g1 om ?_ | refine aG om ?_))) ⟨by rw [hov]; exact (by repeat (first | exact g0 | refine g1 om ?_ | refine aG om ?_)), (by repeat (first | exact g0 | refine g1 om ?_ | refine aG om ?_)), (by repeat (first | exact g0 | refine g1 om ?_ | refine aG om ?_)), cQ hnd (by intro q o hq'; have := hlt q o hq'; repeat (first | exact hq' | refine g1 om ?_ | refine aG om ?_))⟩)) ?_
 refine Fz.cellR [(2, _), (4, _), (7, _), (8, _), (9, _), (22, _), (23, _), (24, _)] ⟨J, J, J, J, J, J, J, J, trivial⟩ om (by decide) (cM (f := xc) (n := 4) fun _ => rfl) (bL pD) (gN om (gN om (hfr _ om))) ?_
 rw [kT]
 refine aE <| aI (z := 2) J <| aA (cI (((i + 1 : Nat) : Int)) (aP J J om) om) J <| Um J J <| Wn <| aC <| ⟨⟨i + 1, (n + 1 + 10 + 3), (n + 1 + 10 + 9), al ++ [(kd (row.set i (xadd (row.getD i default) (xint 1))).length, (row.set i (xadd (row.getD i default) (xint 1))))], bl ++ [nx (ch ss i (st.getD i default).toNat).1]⟩, ⟨rfl, rfl, rfl, congrArg some (by rw [List.map_append]; exact outV_snoc.symm), congrArg some (by rw [List.map_append]; exact outV_snoc.symm), rfl, rfl, rfl, trivial⟩, by dsimp only; rw [List.map_append, List.map_append]; simp only [List.map_cons, List.map_nil]; rw [jV, jV]; exact ⟨gG, gG, gG, cQ hnd (by intro q o hq'; have := hlt q o hq'; repeat (first | exact hq' | refine g1 om ?_))⟩, ⟨om, by rw [List.length_append]; show al.length + 1 = _; omega, by rw [List.length_append]; show bl.length + 1 = _; omega, fun a ha => ?_, fun r hr => ?_, fun x hx => ?_, om, om, om, om, om, om⟩, by show ss.length - (i + 1) < ss.length - i; omega⟩
 ·by_cases e : a = i
  ·subst e
   rw [show (al ++ [(kd (row.set a (xadd (row.getD a default) (xint 1))).length, (row.set a (xadd (row.getD a default) (xint 1))))]).getD a default = (kd (row.set a (xadd (row.getD a default) (xint 1))).length, (row.set a (xadd (row.getD a default) (xint 1)))) by rw [← hal]; simp [List.getD_eq_getElem?_getD], show (bl ++ [nx (ch ss a (st.getD a default).toNat).1]).getD a default = nx (ch ss a (st.getD a default).toNat).1 by rw [← hbl]; simp [List.getD_eq_getElem?_getD]]
   exact ⟨hrowok.1, rfl, rfl⟩
  ·rw [show (al ++ [(kd (row.set i (xadd (row.getD i default) (xint 1))).length, (row.set i (xadd (row.getD i default) (xint 1))))]).getD a default = al.getD a default by simp only [List.getD_eq_getElem?_getD]; rw [List.getElem?_append_left om], show (bl ++ [nx (ch ss i (st.getD i default).toNat).1]).getD a default = bl.getD a default by simp only [List.getD_eq_getElem?_getD]; rw [List.getElem?_append_left om]]
   exact hrows a om
 ·rcases List.mem_append.1 hr with h | h
  ·exact hba r h
  ·rw [List.mem_singleton] at h; subst h
   exact fun x hx => hrowok.2 _ (List.mem_map.2 ⟨x, hx, rfl⟩)
 ·rcases List.mem_append.1 hx with h | h
  ·exact hbb x h
  ·rw [List.mem_singleton] at h; subst h
   exact hrw.bd.mono (by decide)
theorem pZ (k ks : Nat) (ss : List Go.Ab.ST) (d : X) (st : List Int) (hV : VMo ss = true) (hd : Bd 2 d.1) (hd0 : 0 < d.1) (hd1 : d.1 < 1) (hst : vSt ss st = true) :
  ∃ r, Run Tryz.prog T E0 (.call 71 [lvMo k ss, lvX d, .sl ks (st.map ic)] r) ∧ ∃ xs : List X, r = .sl 1 (xs.map xc) ∧ xs.length = ss.length ∧ WV ss d.1 st (vl xs) ∧ ∀ x, x ∈ xs → Bd 268435456 x.1 := by
 refine eQ Tryz.func71 J J (dK J) <| (worth_wc 0 [] k ks ss d st trivial (by intro q o hq; simp [getH] at hq) hV hd hd0 hd1 hst).mono ?_
 rintro x e h n ⟨hx, _, xs, hr, hl, hw, hb, _⟩
 exact ⟨.sl 1 (xs.map xc), ⟨xs, rfl, hl, hw, hb⟩, post (n := n) hx hr J (.sl _ _ fun row hr => bL pD row hr)⟩
end Go.Proofs.YtahljdjhhapngaaGreat
namespace Go.Proofs.YtahljdjhhapngaaGreat
open Go.Ab Go.RowKit
theorem g0' {h : Hp} {q : Nat} {a b : Ob} (h1 : getH h q = some a) (h2 : a = b) : getH h q = some b := by rw [h1, h2]
theorem four_set {a b c d : Nat} {o1 o2 o2' o3 o4 : Ob} {h' : Hp} (hq : getH h' b = some o2') (hf : ∀ q o, q ≠ b → getH [(a, o1), (b, o2), (c, o3), (d, o4)] q = some o → getH h' q = some o) (h1 : a ≠ b) (h3 : c ≠ b) (h4 : d ≠ b) : ∀ q o, getH [(a, o1), (b, o2'), (c, o3), (d, o4)] q = some o → getH h' q = some o := by
 intro q o h
 by_cases e : b = q
 ·subst e
  rw [g1 h1 g0] at h
  rw [hq]; exact h
 ·refine hf q o (fun h => e h.symm) ?_
  by_cases e1 : a = q
  ·subst e1; rw [g0] at h ⊢; exact h
  ·rw [g1 e1 rfl, g1 e rfl] at h ⊢; exact h
theorem answer_share (n0 : Nat) (hn0 : 9 ≤ n0) (k : Nat) (ss : List Go.Ab.ST) (d : X) (st : List Int) (hV : VMo ss = true) (hd : Bd 2 d.1) (hd0 : 0 < d.1) (hd1 : d.1 < 1) (hst : vSt ss st = true) : WC Tryz.prog T E0 Tryz.f96.ntmps (codeOf Tryz.f96) (argsEnv 0 ([] ++ [] ++ [.ptr 0 0, .ptr (0 + 1) 0, .ptr (0 + 3 + 4) 0])) [((0 + 3 + 4), { cells := [.ref (0 + 3 + 3) 1 0 ss.length], sz := 1, elem := (33), st := 0 }), ((0 + 3 + 3), { cells := ((st).map ic).flatten, sz := 1, elem := (3), st := 0 }), ((0 + 1), { cells := xc (d), sz := 4, elem := (102), st := 0 }), (0, { cells := [.sl k (ss.map stc)], sz := 1, elem := (24), st := 0 })] n0 (fun x e' h' n' => (x = .normal ∨ x = .ret) ∧ n0 ≤ n' ∧ ∃ (s' : List Int) (xs : List X), resE e' T h' Tryz.f96.results.toList = some [.sl 1 (xs.map xc)] ∧ vSt ss s' = true ∧ xs.length = ss.length ∧ WV ss d.1 s' (vl xs) ∧ NoImp ss d.1 1 (vl xs) ∧ (∀ j, j < ss.length → (ss.getD j default).1.1 ≠ 1 → s'.getD j default = st.getD j default) ∧ (∀ x, x ∈ xs → Bd 268435456 x.1) ∧ ∀ q o, getH [((0 + 3 + 4), { cells := [.ref (0 + 3 + 3) 1 0 ss.length], sz := 1, elem := (33), st := 0 }), ((0 + 3 + 3), { cells := ((s').map ic).flatten, sz := 1, elem := (3), st := 0 }), ((0 + 1), { cells := xc (d), sz := 4, elem := (102), st := 0 }), (0, { cells := [.sl k (ss.map stc)], sz := 1, elem := (24), st := 0 })] q = some o → getH h' q = some o) := by
 have hD := gA hV hd0 hd1
 have hn40 := (iG hV).wt.len
 obtain ⟨μ, M, hM, hμ⟩ := rank1 hD
 change WC _ _ _ _ _ [(0, .ptr 0 0), (1, .ptr (0 + 1) 0), (2, .ptr (0 + 3 + 4) 0)] _ _ _
 refine Rg 1 J <| Ua J J <| Wn <| bY <| aY (α := (List Int)) (fun s => [(0, .ptr 0 0), (1, .ptr (0 + 1) 0), (2, .ptr (0 + 3 + 4) 0)]) (fun s => [((0 + 3 + 4), { cells := [.ref (0 + 3 + 3) 1 0 ss.length], sz := 1, elem := (33), st := 0 }), ((0 + 3 + 3), { cells := ((s).map ic).flatten, sz := 1, elem := (3), st := 0 }), ((0 + 1), { cells := xc (d), sz := 4, elem := (102), st := 0 }), (0, { cells := [.sl k (ss.map stc)], sz := 1, elem := (24), st := 0 })]) (fun s n => vSt ss s = true ∧ (∀ j, j < ss.length → (ss.getD j default).1.1 ≠ 1 → s.getD j default = st.getD j default) ∧ n0 ≤ n) (fun s => μ s) (st) ⟨J, J, J, trivial⟩ ⟨gG, gG, gG, gG, trivial⟩ ⟨hst, fun _ _ _ => rfl, om⟩ ?_
 rintro s n hF
 change WC _ _ _ _ _ (_ :: _) (_ :: _) n _
 obtain ⟨hs, hsame, hn⟩ := hF
 refine bY <| nI (z := 5) J <| gL (aM (l := lvMo k ss) J J gG J J) J ?_
 refine gL (aM (l := lvX d) J J gG J J) J ?_
 refine gL (aM (l := .ref (0 + 3 + 3) 1 0 ss.length) J J gG J J) J ?_
 refine WN.G (ls := [lvMo k ss, lvX d, .ref (0 + 3 + 3) 1 0 ss.length]) (Φ := fun r h' n' => ∃ xs : List X, r = .sl 1 (xs.map xc) ∧ xs.length = ss.length ∧ WV ss d.1 s (vl xs) ∧ (∀ x, x ∈ xs → Bd 268435456 x.1) ∧ n + 5 ≤ n' ∧ ∀ q o, getH [((0 + 3 + 4), { cells := [.ref (0 + 3 + 3) 1 0 ss.length], sz := 1, elem := (33), st := 0 }), ((0 + 3 + 3), { cells := ((s).map ic).flatten, sz := 1, elem := (3), st := 0 }), ((0 + 1), { cells := xc (d), sz := 4, elem := (102), st := 0 }), (0, { cells := [.sl k (ss.map stc)], sz := 1, elem := (24), st := 0 })] q = some o → getH h' q = some o) J Tryz.func71 J J (dK J) J ((worth_share (n + 5) [((0 + 3 + 4), { cells := [.ref (0 + 3 + 3) 1 0 ss.length], sz := 1, elem := (33), st := 0 }), ((0 + 3 + 3), { cells := ((s).map ic).flatten, sz := 1, elem := (3), st := 0 }), ((0 + 1), { cells := xc (d), sz := 4, elem := (102), st := 0 }), (0, { cells := [.sl k (ss.map stc)], sz := 1, elem := (24), st := 0 })] k ss d s (0 + 3 + 3) ⟨gG, gG, gG, gG, trivial⟩ (four_lt om om om om) gG hV hd hd0 hd1 hs).mono (by rintro x e h n' ⟨hx, h1, xs, hr, h2, h3, h4, h5⟩; exact ⟨hx, _, hr, xs, rfl, h2, h3, h4, h1, h5⟩)) ?_
 rintro r' h' n' ⟨xs, rfl, hxl, hwv, hxb, hn', hH⟩
 refine nN [((0 + 3 + 4), { cells := [.ref (0 + 3 + 3) 1 0 ss.length], sz := 1, elem := (33), st := 0 }), ((0 + 3 + 3), { cells := ((s).map ic).flatten, sz := 1, elem := (3), st := 0 }), ((0 + 1), { cells := xc (d), sz := 4, elem := (102), st := 0 }), (0, { cells := [.sl k (ss.map stc)], sz := 1, elem := (24), st := 0 })] ⟨hH _ _ gG, hH _ _ gG, hH _ _ gG, hH _ _ gG, trivial⟩ ?_
 refine gL (iE J) J <| mW <| nI (z := 6) J <| gL (aM (l := lvMo k ss) J J gG J J) J ?_
 refine gL (aM (l := lvX d) J J gG J J) J ?_
 refine gL (dG J) J <| gL (aM (l := .ref (0 + 3 + 3) 1 0 ss.length) J J gG J J) J ?_
 refine WN.G (ls := [lvMo k ss, lvX d, .sl 1 (xs.map xc), .ref (0 + 3 + 3) 1 0 ss.length, .v (.int .i64 1)]) (Φ := fun r h' m' => ∃ (b : Bool) (s2 : List Int), r = .v (.bool b) ∧ (∀ q o, getH [((0 + 3 + 4), { cells := [.ref (0 + 3 + 3) 1 0 ss.length], sz := 1, elem := (33), st := 0 }), ((0 + 3 + 3), { cells := ((s2).map ic).flatten, sz := 1, elem := (3), st := 0 }), ((0 + 1), { cells := xc (d), sz := 4, elem := (102), st := 0 }), (0, { cells := [.sl k (ss.map stc)], sz := 1, elem := (24), st := 0 })] q = some o → getH h' q = some o) ∧ m' ≥ n' + 6 ∧ (b = false → s2 = s ∧ NoImp ss d.1 1 (vl xs)) ∧ (b = true → ∃ i j : Nat, i < ss.length ∧ (ss.getD i default).1.1 = 1 ∧ j < (ss.getD i default).2.2.length ∧ btr 1 (yl d.1 (ch ss i j) (vl xs)) (vl xs i) ∧ s2 = s.set i (j : Int))) J Tryz.func97 J J (dK J) J ((lK (n' + 6) [((0 + 3 + 4), { cells := [.ref (0 + 3 + 3) 1 0 ss.length], sz := 1, elem := (33), st := 0 }), ((0 + 3 + 3), { cells := ((s).map ic).flatten, sz := 1, elem := (3), st := 0 }), ((0 + 1), { cells := xc (d), sz := 4, elem := (102), st := 0 }), (0, { cells := [.sl k (ss.map stc)], sz := 1, elem := (24), st := 0 })] k 1 ss d xs s 1 (0 + 3 + 3) ⟨gG, gG, gG, gG, trivial⟩ (four_lt om om om om) gG hV hd hxl (gJ hs) 268435456 (by decide) (by decide) hxb).mono (by
  rintro x e h n' ⟨hx, h1, (⟨hr, hni, h2⟩ | ⟨i, j, hr, hi, ho, hj, hb, hq, h2⟩)⟩
  ·exact ⟨hx, _, hr, false, s, rfl, h2, h1, fun _ => ⟨rfl, hni⟩, fun h => by cases h⟩
  ·exact ⟨hx, _, hr, true, _, rfl, four_set hq (fun q o hq => h2 q o hq) om om om, h1, fun h => (by cases h), fun _ => ⟨i, j, hi, ho, hj, hb, rfl⟩⟩)) ?_
 rintro r' h' m' ⟨b, s2, rfl, hH, hm', hbF, hbT⟩
 refine nN [((0 + 3 + 4), { cells := [.ref (0 + 3 + 3) 1 0 ss.length], sz := 1, elem := (33), st := 0 }), ((0 + 3 + 3), { cells := ((s2).map ic).flatten, sz := 1, elem := (3), st := 0 }), ((0 + 1), { cells := xc (d), sz := 4, elem := (102), st := 0 }), (0, { cells := [.sl k (ss.map stc)], sz := 1, elem := (24), st := 0 })] ⟨hH _ _ gG, hH _ _ gG, hH _ _ gG, hH _ _ gG, trivial⟩ ?_
 refine WN.B (fun h13 => ?_) (fun h13 => ?_)
 rotate_left
 ·refine gL (gE J) J <| mW <| bV J <| Rg 2 J <| Um J J <| Ua J J <| Nk [3] J <| aO <| eG <| bP <| eG ?_
  obtain ⟨rfl, hni⟩ := hbF h13
  exact ⟨.inr J, om, s2, xs, rfl, hs, hxl, hwv, hni, hsame, hxb, fun q o hq => hq⟩
 refine gL (gE J) J <| mW <| bR J <| bT <| cC <| aC ?_
 obtain ⟨i, j, hi, ho, hj, hb, rfl⟩ := hbT h13
 unfold btr at hb
 rw [if_pos rfl] at hb
 have hs2 := vSt_set hs hj
 obtain ⟨_, _, ys, _, _, hys, _⟩ := pZ k 0 ss d _ hV hd hd0 hd1 hs2
 obtain ⟨h5, h6⟩ := imp1 hD hs hi hj hwv hb hys
 refine ⟨s.set i (j : Int), ⟨J, J, J, trivial⟩, ⟨gG, gG, gG, gG, trivial⟩, ⟨hs2, fun a ha hoa => ?_, om⟩, hμ _ _ _ _ i hs2 hs hys hwv h5 hi h6⟩
 rw [lS (by rw [gJ hs]; exact hi), if_neg (fun e => hoa (by rw [← e]; exact ho))]
 exact hsame a ha hoa
theorem values_run (k : Nat) (ss : List Go.Ab.ST) (d : X) (hV : VMo ss = true) (hd : Bd 2 d.1) (hd0 : 0 < d.1) (hd1 : d.1 < 1) : ∃ r, Run Tryz.prog T E0 (.call 60 [lvMo k ss, lvX d] r) ∧ ∃ (st : List Int) (xs : List X), r = .sl 1 (xs.map xc) ∧ vSt ss st = true ∧ xs.length = ss.length ∧ WV ss d.1 st (vl xs) ∧ Val ss d.1 (vl xs) ∧ ∀ x, x ∈ xs → Bd 268435456 x.1 := by
 have hD := gA hV hd0 hd1
 have hV1 := iG hV
 have hn40 := hV1.wt.len
 obtain ⟨μ, M, hM, hμ⟩ := rank0 hD
 have hz0 : vSt ss (List.replicate ss.length 0) = true := by
  unfold vSt
  rw [decide_eq_true (by simp), Bool.true_and]
  refine eX fun i hi => ?_
  rw [List.length_replicate] at hi
  have := hV1.cs _ (bC (us := ss) hi)
  rw [show (List.replicate ss.length (0 : Int)).getD i default = 0 by rw [List.getD_eq_getElem?_getD, List.getElem?_replicate, if_pos hi]; rfl, decide_eq_true (by decide), decide_eq_true om]; rfl
 refine eQ Tryz.func60 J J (dK J) <| Rg 3 J <| bA (dT J J) J <| bA (dT J J) J <| Ua J J <| Wn <| Rg 6 J <| aA (bE J J J J J) J <| aA (aM J J gG J J) J ?_
 refine aA (aX J J) J <| bA (oMk (a := ss.length) (b := ss.length) J J J J (by simp) (by simp) (by decide) om (by show 8 * ss.length ≤ _; omega) om) J <| bA (dY J) J <| aZ (cB (cs' := [_]) J J J g0 J J J J) <| Wn <| Rg 2 J <| aA (oMf J) J <| Ua J J <| Wn <| bY <| aY (α := (List Int) × Nat) (fun ⟨s, g⟩ => [(2, .ptr 0 0), (3, .ptr (0 + 1) 0), (5, .ptr (0 + 3 + 4) 0), (6, .fn (.func 96) [] [.ptr 0 0, .ptr (0 + 1) 0, .ptr (0 + 3 + 4) 0])]) (fun ⟨s, g⟩ => [((0 + 3 + 4), { cells := [.ref (0 + 3 + 3) 1 0 ss.length], sz := 1, elem := (33), st := 0 }), ((0 + 3 + 3), { cells := ((s).map ic).flatten, sz := 1, elem := (3), st := 0 }), ((0 + 1), { cells := xc (d), sz := 4, elem := (102), st := 0 }), (0, { cells := [.sl k (ss.map stc)], sz := 1, elem := (24), st := 0 })]) (fun ⟨s, g⟩ n => vSt ss s = true ∧ (∀ (s2 : List Int) (u : Nat → Rat), vSt ss s2 = true → WV ss d.1 s2 u → NoImp ss d.1 1 u → (∀ j, j < ss.length → (ss.getD j default).1.1 ≠ 1 → s2.getD j default = s.getD j default) → μ s2 < g) ∧ 9 ≤ n) (fun ⟨s, g⟩ => g) (List.replicate ss.length 0, M) ⟨J, J, J, J, trivial⟩ ⟨gG, g0' gG (by rw [List.map_replicate]; rfl), gG, gG, trivial⟩ ⟨hz0, fun s2 _ _ _ _ _ => hM s2, om⟩ ?_
 rintro ⟨s, g⟩ n hF
 change WC _ _ _ _ _ (_ :: _) (_ :: _) n _
 obtain ⟨hs, hfu, hn⟩ := hF
 refine bY <| nI (z := 3) J <| gL (dG J) J <| WN.Gv (first := []) (cap := [.ptr 0 0, .ptr (0 + 1) 0, .ptr (0 + 3 + 4) 0]) (ls := []) (Φ := fun r h' n' => ∃ (s' : List Int) (xs : List X), r = .sl 1 (xs.map xc) ∧ vSt ss s' = true ∧ xs.length = ss.length ∧ WV ss d.1 s' (vl xs) ∧ NoImp ss d.1 1 (vl xs) ∧ (∀ j, j < ss.length → (ss.getD j default).1.1 ≠ 1 → s'.getD j default = s.getD j default) ∧ (∀ x, x ∈ xs → Bd 268435456 x.1) ∧ n + 3 ≤ n' ∧ ∀ q o, getH [((0 + 3 + 4), { cells := [.ref (0 + 3 + 3) 1 0 ss.length], sz := 1, elem := (33), st := 0 }), ((0 + 3 + 3), { cells := ((s').map ic).flatten, sz := 1, elem := (3), st := 0 }), ((0 + 1), { cells := xc (d), sz := 4, elem := (102), st := 0 }), (0, { cells := [.sl k (ss.map stc)], sz := 1, elem := (24), st := 0 })] q = some o → getH h' q = some o) J J Tryz.func96 J J (dK J) J ((answer_share (n + 3) om k ss d s hV hd hd0 hd1 hs).mono (by rintro x e h n' ⟨hx, h1, s', xs, hr, h2, h3, h4, h5, h6, h7, h8⟩; exact ⟨hx, _, hr, s', xs, rfl, h2, h3, h4, h5, h6, h7, h1, h8⟩)) ?_
 rintro r' h' n' ⟨s', xs, rfl, hs', hxl, hwv, hn1, hsame, hxb, hn', hH⟩
 refine nN [((0 + 3 + 4), { cells := [.ref (0 + 3 + 3) 1 0 ss.length], sz := 1, elem := (33), st := 0 }), ((0 + 3 + 3), { cells := ((s').map ic).flatten, sz := 1, elem := (3), st := 0 }), ((0 + 1), { cells := xc (d), sz := 4, elem := (102), st := 0 }), (0, { cells := [.sl k (ss.map stc)], sz := 1, elem := (24), st := 0 })] ⟨hH _ _ gG, hH _ _ gG, hH _ _ gG, hH _ _ gG, trivial⟩ ?_
 refine gL (iE J) J <| mW <| nI (z := 6) J <| gL (aM (l := lvMo k ss) J J gG J J) J ?_
 refine gL (aM (l := lvX d) J J gG J J) J ?_
 refine gL (dG J) J <| gL (aM (l := .ref (0 + 3 + 3) 1 0 ss.length) J J gG J J) J ?_
 refine WN.G (ls := [lvMo k ss, lvX d, .sl 1 (xs.map xc), .ref (0 + 3 + 3) 1 0 ss.length, .v (.int .i64 0)]) (Φ := fun r h' m' => ∃ (b : Bool) (s2 : List Int), r = .v (.bool b) ∧ (∀ q o, getH [((0 + 3 + 4), { cells := [.ref (0 + 3 + 3) 1 0 ss.length], sz := 1, elem := (33), st := 0 }), ((0 + 3 + 3), { cells := ((s2).map ic).flatten, sz := 1, elem := (3), st := 0 }), ((0 + 1), { cells := xc (d), sz := 4, elem := (102), st := 0 }), (0, { cells := [.sl k (ss.map stc)], sz := 1, elem := (24), st := 0 })] q = some o → getH h' q = some o) ∧ m' ≥ n' + 6 ∧ (b = false → s2 = s' ∧ NoImp ss d.1 0 (vl xs)) ∧ (b = true → ∃ i j : Nat, i < ss.length ∧ (ss.getD i default).1.1 = 0 ∧ j < (ss.getD i default).2.2.length ∧ btr 0 (yl d.1 (ch ss i j) (vl xs)) (vl xs i) ∧ s2 = s'.set i (j : Int))) J Tryz.func97 J J (dK J) J ((lK (n' + 6) [((0 + 3 + 4), { cells := [.ref (0 + 3 + 3) 1 0 ss.length], sz := 1, elem := (33), st := 0 }), ((0 + 3 + 3), { cells := ((s').map ic).flatten, sz := 1, elem := (3), st := 0 }), ((0 + 1), { cells := xc (d), sz := 4, elem := (102), st := 0 }), (0, { cells := [.sl k (ss.map stc)], sz := 1, elem := (24), st := 0 })] k 1 ss d xs s' 0 (0 + 3 + 3) ⟨gG, gG, gG, gG, trivial⟩ (four_lt om om om om) gG hV hd hxl (gJ hs') 268435456 (by decide) (by decide) hxb).mono (by
  rintro x e h n' ⟨hx, h1, (⟨hr, hni, h2⟩ | ⟨i, j, hr, hi, ho, hj, hb, hq, h2⟩)⟩
  ·exact ⟨hx, _, hr, false, s', rfl, h2, h1, fun _ => ⟨rfl, hni⟩, fun h => by cases h⟩
  ·exact ⟨hx, _, hr, true, _, rfl, four_set hq (fun q o hq => h2 q o hq) om om om, h1, fun h => (by cases h), fun _ => ⟨i, j, hi, ho, hj, hb, rfl⟩⟩)) ?_
 rintro r' h' m' ⟨b, s2, rfl, hH, hm', hbF, hbT⟩
 refine nN [((0 + 3 + 4), { cells := [.ref (0 + 3 + 3) 1 0 ss.length], sz := 1, elem := (33), st := 0 }), ((0 + 3 + 3), { cells := ((s2).map ic).flatten, sz := 1, elem := (3), st := 0 }), ((0 + 1), { cells := xc (d), sz := 4, elem := (102), st := 0 }), (0, { cells := [.sl k (ss.map stc)], sz := 1, elem := (24), st := 0 })] ⟨hH _ _ gG, hH _ _ gG, hH _ _ gG, hH _ _ gG, trivial⟩ ?_
 refine WN.B (fun h19 => ?_) (fun h19 => ?_)
 ·refine gL (gE J) J <| mW <| bR J <| bT <| cC <| aC ?_
  obtain ⟨i, j, hi, ho, hj, hb, rfl⟩ := hbT h19
  unfold btr at hb
  rw [if_neg (by decide)] at hb
  refine ⟨⟨s'.set i (j : Int), μ s'⟩, ⟨J, J, J, J, trivial⟩, ⟨gG, gG, gG, gG, trivial⟩, ⟨vSt_set hs' hj, fun s2 u h1 h2 h3 h4 => ?_, om⟩, hfu s' _ hs' hwv hn1 hsame⟩
  obtain ⟨h5, h6⟩ := imp0 hD hs' h1 hi om hj hwv hn1 hb h4 h2
  exact hμ _ _ _ _ i h1 hs' h2 hwv h5 hi h6
 refine gL (gE J) J <| mW <| bV J <| Rg 2 J <| Um J J <| Ua J J <| Nk [4] J <| aO <| eG <| bP <| eG ?_
 obtain ⟨rfl, hn0⟩ := hbF h19
 exact ⟨.sl 1 (xs.map xc), ⟨s2, xs, rfl, hs', hxl, hwv, val_of (fun x hx => by have := hV1.own x hx; omega) hs' hwv hn0 hn1, hxb⟩, post (n := 0) (.inr J) J J (.sl _ _ fun row hr => bL pD row hr)⟩
end Go.Proofs.YtahljdjhhapngaaGreat
namespace Go.Proofs.YtahljdjhhapngaaGreat
open Go.Ab Go.RowKit
theorem kG {ns : List NM} (h : (ns.any fun a => !vn a) = false) : ns.all vn = true := by
 rw [← any_not, h]; rfl
theorem xyl_v' {x : Go.Ab.ST} {d : X} {vx : List X} {k : Nat} : (xyl (x.2.2.getD k default) d vx).1 = ysF x d.1 (vl vx) k := xyl_v _ _ _
theorem e86 {h : Hp} {q : Nat} {a b : Ob} (h1 : getH h q = some a) (h2 : a = b) : getH h q = some b := by rw [h1, h2]
theorem rP (x : Go.Ab.ST) (d : X) (kv : Nat) (vx : List X) (n0 : Nat) (hcs : 1 ≤ x.2.2.length ∧ x.2.2.length ≤ 8) (hvb : ∀ c, c ∈ x.2.2 → VN c.1 ∧ VB n0 c.2.2) (hd : Bd 2 d.1) (hl : vx.length = n0) (β : Nat) (h1β : 1 ≤ β) (hβ : β ≤ 2147483648) (hv : ∀ x, x ∈ vx → Bd β x.1) : Run Tryz.prog T E0 (.call 62 [.agg (stc x), lvX d, .sl kv (vx.map xc)] (.tup [lvX (xyl (x.2.2.getD (bsK x d.1 (vl vx)) default) d vx), .v (.int .i64 ((bsK x d.1 (vl vx) : Nat) : Int))])) := by
 refine bH Tryz.func62 J J (dK J) <| Rg 4 J <| bA (dT J J) J <| bA (dT J J) J <| bA (dY J) J <| Ua J J <| Wn <| Rg 4 J <| aA (bE J J J J J) J <| aA (aM J J gG J J) J ?_
 refine aA (aK J (wants_run x.1.1) (bJ (by intro c hc; simp only [List.mem_cons, List.not_mem_nil, or_false] at hc; rcases hc with rfl; exact .v _))) J <| Ua J J <| cO ?_
 have h0m := bC (us := x.2.2) (i := 0) om
 obtain ⟨hr0, hb0⟩ := hvb _ h0m
 refine bI (z := 10) J kR <| aF (bE J J J J J) J <| aF (aM J J gG J J) J ?_
 refine aF (bQ (j := 0) J J J J J om J) J <| aF (cZ (l := lvC (x.2.2.getD 0 default)) J J J) J <| aF (aM (l := lvX d) J J gG J J) J ?_
 refine Dm J J <| aF (aK J (mR (x.2.2.getD 0 default) d kv vx n0 hr0 hb0 hd hl β h1β hβ hv) (bJ (by intro c hc; simp only [List.mem_cons, List.not_mem_nil, or_false] at hc; rcases hc with rfl | rfl | rfl; exact iZ; exact iZ; exact (.sl _ _ fun row hr => bL pD row hr)))) J <| nL (dY J) J <| cA (cB (cs' := xc (xyl (x.2.2.getD 0 default) d vx)) J J J g0 J J J J) <| aF (iE J) J <| bD (aR kR) J <| Ck [2,3,4,6,8,9,10] J <| aB <| Rg 4 J <| aA (bE J J J J J) J <| aA (aM J J gG J J) J ?_
 refine aA (aX J J) J <| Um J J <| Wn <| aL <| aY (α := Nat) (fun i => [(2, .sl kv (vx.map xc)), (4, .ptr (0 + 1) 0), (6, .ptr (0 + 2) 0), (8, .fn (.func (if x.1.1 = 1 then 122 else 76)) [] []), (9, .ptr (0 + 4 + 4 + 7) 0), (10, .v (.int .i64 (((bkF x.1.1 (ysF x d.1 (vl vx)) i) : Nat) : Int))), (26, .sl x.2.1 (x.2.2.map chc)), (27, .v (.int .i64 (x.2.2.length : Int))), (28, .v (.int .i64 (i : Int)))]) (fun i => [((0 + 4 + 4 + 7), { cells := xc (xyl (x.2.2.getD (bkF x.1.1 (ysF x d.1 (vl vx)) i) default) d vx), sz := 4, elem := (102), st := 0 }), ((0 + 2), { cells := xc (x0), sz := 4, elem := (102), st := 0 }), ((0 + 1), { cells := xc (d), sz := 4, elem := (102), st := 0 })]) (fun i n => i ≤ x.2.2.length ∧ 20 ≤ n) (fun i => x.2.2.length - i) (0) ⟨J, J, J, J, J, J, J, J, J, trivial⟩ ⟨gG, gG, gG, trivial⟩ ⟨Nat.zero_le _, om⟩ ?_
 rintro i n hF
 change WC _ _ _ _ _ (_ :: _) (_ :: _) n _
 obtain ⟨hi, hn⟩ := hF
 refine Rg 1 J <| aA (bS J J) J <| aW (fun h29 => ?_) (fun h29 => ?_)
 rotate_left
 ·refine Wn <| aT J <| aV <| aQ <| aN J <| Rg 4 J <| aA (aM (l := lvX (xyl (x.2.2.getD (bkF x.1.1 (ysF x d.1 (vl vx)) i) default) d vx)) J J gG J J) J ?_
  refine Um J J <| aZ (cB (cs' := xc (xyl (x.2.2.getD (bkF x.1.1 (ysF x d.1 (vl vx)) i) default) d vx)) J J J gG J J J J) ?_
  refine Ua J J <| Wn <| aO ?_
  have hin : i = x.2.2.length := by omega
  subst hin
  refine post (n := 0) (.inr J) J J (.tup _ ?_)
  intro c hc
  simp only [List.mem_cons, List.not_mem_nil, or_false] at hc
  rcases hc with rfl | rfl
  ·exact iZ
  ·exact .v _
 refine Wn <| aS J <| aD <| aL ?_
 have him := bC (us := x.2.2) (i := i) om
 obtain ⟨hri, hbi⟩ := hvb _ him
 have hyb := xyl_bd hri hbi hd h1β hv
 have hbl : (bkF x.1.1 (ysF x d.1 (vl vx)) i) < x.2.2.length := by
  rcases Nat.eq_zero_or_pos i with h | h
  ·rw [h]; show 0 < _; omega
  ·have := rQ (p := x.1.1) (ys := (ysF x d.1 (vl vx))) i h; omega
 obtain ⟨hrb, hbb⟩ := hvb _ (bC (us := x.2.2) hbl)
 have hyb2 := xyl_bd hrb hbb hd h1β hv
 refine Rg 6 J <| Um J J <| aA (bQ J J J J J om J) J <| aA (cZ (l := lvC (x.2.2.getD i default)) J J J) J <| bA (dY J) J <| Ua J J <| aZ (cB (cs' := chc (x.2.2.getD i default)) J J J g0 J J J J) <| Nk [2,4,6,8,9,10,11,12,26,27,28] J <| Rg 6 J <| aA (aM (l := lvC (x.2.2.getD i default)) J J gG J J) J ?_
 refine aA (aM (l := lvX d) J J gG J J) J ?_
 refine Um J J <| aA (aK J (mR (x.2.2.getD i default) d kv vx n0 hri hbi hd hl β h1β hβ hv) (bJ (by intro c hc; simp only [List.mem_cons, List.not_mem_nil, or_false] at hc; rcases hc with rfl | rfl | rfl; exact iZ; exact iZ; exact (.sl _ _ fun row hr => bL pD row hr)))) J <| bA (dY J) J <| aZ (cB (cs' := xc (xyl (x.2.2.getD i default) d vx)) J J J g0 J J J J) <| Nk [2,4,6,8,9,10,11,13,26,27,28] J <| aB <| Rg 5 J <| Um J J <| aA (aM (l := lvX (xyl (x.2.2.getD i default) d vx)) J J gG J J) J ?_
 refine aA (aM (l := lvX (xyl (x.2.2.getD (bkF x.1.1 (ysF x d.1 (vl vx)) i) default) d vx)) J J gG J J) J ?_
 refine aA (oCallVD J J (cmpf_run x.1.1 (xyl (x.2.2.getD i default) d vx) (xyl (x.2.2.getD (bkF x.1.1 (ysF x d.1 (vl vx)) i) default) d vx) (hyb.mono om) (hyb2.mono om)) (data3 d0 (by intro c hc; simp only [List.mem_cons, List.not_mem_nil, or_false] at hc; rcases hc with rfl | rfl; exact iZ; exact iZ) d0)) J <| Ua J J <| Nk [2,4,6,8,9,10,11,13,14,26,27,28] J <| aL <| aL <| bY <| aB <| aB <| Rg 3 J <| Um J J <| aA (eC J J) J <| aW (fun h43 => ?_) (fun h43 => ?_)
 ·refine Ua J J <| Nk [2,4,6,8,9,10,11,13,14,26,27,28,41] J <| aS J <| aV <| fA J <| aE <| aV <| gV J <| aN J <| aI (z := 2) J <| aA (cI (((i + 1 : Nat) : Int)) (aP J J om) om) J <| Um J J <| Wn <| aC ?_
  have eb : (bkF x.1.1 (ysF x d.1 (vl vx)) (i + 1)) = (bkF x.1.1 (ysF x d.1 (vl vx)) i) := by rw [show i = 0 by omega, bkF_one]; rfl
  refine ⟨i + 1, ⟨rfl, rfl, rfl, rfl, rfl, congrArg (fun z : Nat => some (LV.v (.int .i64 (z : Int)))) eb.symm, rfl, rfl, rfl, trivial⟩, ⟨e86 gG (by rw [eb]), gG, gG, trivial⟩, ⟨om, om⟩, by show x.2.2.length - (i + 1) < x.2.2.length - i; omega⟩
 refine Ua J J <| Nk [2,4,6,8,9,10,11,13,14,26,27,28,41] J <| aT J <| aD <| aB <| Rg 3 J <| Um J J <| aA (oLeq J J) J <| aW (fun h46 => ?_) (fun h46 => ?_)
 ·refine Ua J J <| Nk [2,4,6,8,9,10,11,13,26,27,28,44] J <| aS J <| aV <| gB J <| aN J <| aV <| gV J <| aN J <| aI (z := 2) J <| aA (cI (((i + 1 : Nat) : Int)) (aP J J om) om) J <| Um J J <| Wn <| aC ?_
  have eb : (bkF x.1.1 (ysF x d.1 (vl vx)) (i + 1)) = (bkF x.1.1 (ysF x d.1 (vl vx)) i) := bkF_no fun hb => by have := oQ.2 hb; rw [← xyl_v', ← xyl_v'] at this; omega
  refine ⟨i + 1, ⟨rfl, rfl, rfl, rfl, rfl, congrArg (fun z : Nat => some (LV.v (.int .i64 (z : Int)))) eb.symm, rfl, rfl, rfl, trivial⟩, ⟨e86 gG (by rw [eb]), gG, gG, trivial⟩, ⟨om, om⟩, by show x.2.2.length - (i + 1) < x.2.2.length - i; omega⟩
 refine Ua J J <| Nk [2,4,6,8,9,10,11,13,26,27,28,44] J <| aT J <| aD <| qT <| gB J <| gV J <| aN J <| aI (z := 4) J <| aA (aM (l := lvX (xyl (x.2.2.getD i default) d vx)) J J gG J J) J ?_
 refine Um J J <| aZ (cB (cs' := xc (xyl (x.2.2.getD i default) d vx)) J J J gG J J J J) ?_
 refine Ua J J <| Wn <| aE <| aI (z := 2) J <| aA (cI (((i + 1 : Nat) : Int)) (aP J J om) om) J <| Um J J <| Wn <| aC ?_
 have eb : (bkF x.1.1 (ysF x d.1 (vl vx)) (i + 1)) = i := bkF_yes (by have h7 : 0 < sgnF x.1.1 (xyl (x.2.2.getD i default) d vx).1 (xyl (x.2.2.getD (bkF x.1.1 (ysF x d.1 (vl vx)) i) default) d vx).1 := om; have h8 := oQ.1 h7; rwa [xyl_v', xyl_v'] at h8)
 refine ⟨i + 1, ⟨rfl, rfl, rfl, rfl, rfl, congrArg (fun z : Nat => some (LV.v (.int .i64 (z : Int)))) eb.symm, rfl, rfl, rfl, trivial⟩, ⟨e86 gG (by rw [eb]), gG, gG, trivial⟩, ⟨om, om⟩, by show x.2.2.length - (i + 1) < x.2.2.length - i; omega⟩
theorem askv_run (a : NM) (h1 : I64 a.1) (h2 : I64 a.2) : Run Tryz.prog T E0 (.call 93 [lvM a] (.v (.bool (!vn a)))) := by
 refine bH Tryz.func93 J J (dK J) <| Rg 2 J <| bA (dT J J) J <| Ua J J <| Wn <| Rg 4 J <| aA (aM (l := lvM a) J J gG J J) J ?_
 refine aA (aK J (iT a h1 h2) dD) J <| aA (gE J) J <| Ua J J <| Wn <| aO <| post (n := 0) (.inr J) J ?_ dD
 rfl
theorem chkv_run (a : NM) (h1 : I64 a.1) (h2 : I64 a.2) : Run Tryz.prog T E0 (.call 73 [lvM a] (.v (.bool (!vn a)))) := by
 refine bH Tryz.func73 J J (dK J) <| Rg 2 J <| bA (dT J J) J <| Ua J J <| Wn <| Rg 4 J <| aA (aM (l := lvM a) J J gG J J) J ?_
 refine aA (aK J (iT a h1 h2) dD) J <| aA (gE J) J <| Ua J J <| Wn <| aO <| post (n := 0) (.inr J) J ?_ dD
 rfl
theorem iP (k kn : Nat) (ss : List Go.Ab.ST) (f : NM) (ns : List NM) (hI : ∀ s, s ∈ ss → IS s) (hf1 : I64 f.1) (hf2 : I64 f.2) (hns : IV ns) (ln : ns.length < 1099511627776) : Run Tryz.prog T E0 (.call 58 [lvMo k ss, lvM f, .sl kn (ns.map mc)] (.v (.int .i64 (eD ss f ns)))) := by
 refine bH Tryz.func58 J J (dK J) <| Rg 3 J <| bA (dT J J) J <| bA (dT J J) J <| Ua J J <| Wn <| aL <| Rg 13 J <| aA (aM (l := lvMo k ss) J J gG J J) J ?_
 refine aA (aK J (mvmodel_run k ss hI) dD) J <| eZ (fun h9 => ?_) (fun h9 => ?_)
 rotate_left
 ·refine aA (gE J) J <| Um J J <| K1 J J <| K1 J J <| K1 J J <| aA (bO J J) J <| Um J J <| K1 J J <| K1 J J <| aA (bO J J) J <| Ua J J <| Nk [4,7] J <| bV J <| Rg 1 J <| Ua J J <| Wn <| aO <| aU <| post (n := 0) (.inr J) J ?_ dD
  exact congrArg (fun z => LV.v (.int .i64 z)) (show 1 = (eD ss f ns) by unfold eD; rw [if_neg (fun h => by rw [h9] at h; cases h.1)])
 refine aA (gE J) J <| Um J J <| aJ J (aM (l := lvM f) J J gG J J) J ?_
 refine aJ J (aK J (iT f hf1 hf2) dD) J <| eZ (fun h13 => ?_) (fun h13 => ?_)
 rotate_left
 ·refine aJ J (gE J) J <| aA (bM J J) J <| Um J J <| K1 J J <| K1 J J <| aA (bO J J) J <| Ua J J <| Nk [4,7] J <| bV J <| Rg 1 J <| Ua J J <| Wn <| aO <| aU <| post (n := 0) (.inr J) J ?_ dD
  exact congrArg (fun z => LV.v (.int .i64 z)) (show 1 = (eD ss f ns) by unfold eD; rw [if_neg (fun h => absurd h.2.1 (of_decide_eq_false h13))])
 refine aJ J (gE J) J <| aA (bM J J) J <| Um J J <| aJ J (dG J) J <| aJ J (aK J (con1_run kn ns 93 [] (fun a => !vn a) d0 om (fun a ha => askv_run a (hns a ha).1 (hns a ha).2)) (bJ (by intro c hc; simp only [List.mem_cons, List.not_mem_nil, or_false] at hc; rcases hc with rfl | rfl; exact (.sl _ _ fun row hr => bL dmc row hr); exact dfn d0 d0))) J <| eZ (fun h18 => ?_) (fun h18 => ?_)
 ·refine aA (bM J J) J <| Ua J J <| Nk [4,7] J <| bV J <| Rg 1 J <| Ua J J <| Wn <| aO <| aU <| post (n := 0) (.inr J) J ?_ dD
  exact congrArg (fun z => LV.v (.int .i64 z)) (show 1 = (eD ss f ns) by unfold eD; rw [if_neg (fun h => by have h7 := any_not vn ns; rw [h18, h.2.2] at h7; cases h7)])
 refine aA (bM J J) J <| Ua J J <| Nk [4,7] J <| bR J <| Rg 11 J <| aA (bE J J J J J) J <| aA (aM J J gG J J) J ?_
 refine aA (oLeq J J) J <| aW (fun h23 => ?_) (fun h23 => ?_)
 ·refine Um J J <| K1 J J <| K1 J J <| K1 J J <| K1 J J <| K1 J J <| aA (bO J J) J <| Ua J J <| Wn <| bV J <| Rg 1 J <| Ua J J <| Wn <| aO <| aU <| post (n := 0) (.inr J) J ?_ dD
  exact congrArg (fun z => LV.v (.int .i64 z)) (show 6 = (eD ss f ns) by unfold eD; rw [if_pos ⟨h9, of_decide_eq_true h13, kG h18⟩, if_neg om])
 refine Um J J <| aJ J (bE J J J J J) J <| aJ J (aM J J gG J J) J ?_
 refine aJ J (bE J J J J J) J <| aJ J (aM J J gG J J) J ?_
 refine aJ J (iA J J) J <| aW (fun h29 => ?_) (fun h29 => ?_)
 ·refine aA (bM J J) J <| Ua J J <| Wn <| bV J <| Rg 1 J <| Ua J J <| Wn <| aO <| aU <| post (n := 0) (.inr J) J ?_ dD
  exact congrArg (fun z => LV.v (.int .i64 z)) (show 6 = (eD ss f ns) by unfold eD; rw [if_pos ⟨h9, of_decide_eq_true h13, kG h18⟩, if_neg om])
 refine aA (bM J J) J <| Ua J J <| Wn <| bR J <| bT <| aE <| Rg 1 J <| Ua J J <| Wn <| aO <| post (n := 0) (.inr J) J ?_ dD
 exact congrArg (fun z => LV.v (.int .i64 z)) (show 0 = (eD ss f ns) by unfold eD; rw [if_pos ⟨h9, of_decide_eq_true h13, kG h18⟩, if_pos om])
end Go.Proofs.YtahljdjhhapngaaGreat
namespace Go.Proofs.YtahljdjhhapngaaGreat
open Go.Ab Go.RowKit
theorem dchk_run (k kn : Nat) (ss : List Go.Ab.ST) (f : NM) (ns : List NM) (hI : ∀ s, s ∈ ss → IS s) (hf1 : I64 f.1) (hf2 : I64 f.2) (hns : IV ns) (ln : ns.length < 1000000) : Run Tryz.prog T E0 (.call 42 [lvMo k ss, lvM f, .sl kn (ns.map mc)] (chkO ss f ns)) := by
 refine bH Tryz.func42 J J (dK J) <| Rg 4 J <| bA (dT J J) J <| bA (dT J J) J <| Ua J J <| Ua J J <| Wn <| aB <| Rg 4 J <| aA (aM (l := lvMo k ss) J J gG J J) J ?_
 refine aA (aM (l := lvM f) J J gG J J) J ?_
 refine aA (aK J (iP k 0 ss f [] hI hf1 hf2 (by intro a ha; cases ha) (by decide)) (bJ (by intro c hc; simp only [List.mem_cons, List.not_mem_nil, or_false] at hc; rcases hc with rfl | rfl | rfl; exact iZ; exact iZ; exact (.sl 0 [] (by simp))))) J <| Ua J J <| Wn <| aB <| Rg 2 J <| Um J J <| aA (dS J J) J <| aW (fun h19 => ?_) (fun h19 => ?_)
 ·refine Wn <| aS J <| aB <| Rg 3 J <| Um J J <| Ua J J <| Ua J J <| Wn <| bB <| post (n := 0) (.inr J) J ?_ jS
  show _ = chkO ss f ns
  unfold chkO; rw [if_neg h19]; rfl
 refine Wn <| aT J <| aD <| aB <| Rg 10 J <| Um J J <| aA (aX J J) J <| aA (bE J J J J J) J <| aA (aM J J gG J J) J ?_
 refine aA (aX J J) J <| aA (dS J J) J <| aW (fun h26 => ?_) (fun h26 => ?_)
 ·refine Um J J <| K1 J J <| K1 J J <| aA (bO J J) J <| Nk [2,3,4,30] J <| aS J <| aB <| Rg 2 J <| Ua J J <| Ua J J <| Wn <| bB <| post (n := 0) (.inr J) J ?_ jS
  show _ = chkO ss f ns
  unfold chkO; rw [if_pos (Classical.not_not.1 h19), decide_eq_false (fun e => h26 (congrArg Int.ofNat e))]; rfl
 refine Um J J <| aJ J (dG J) J <| aJ J (aK J (con1_run kn ns 73 [] (fun a => !vn a) d0 om (fun a ha => chkv_run a (hns a ha).1 (hns a ha).2)) (bJ (by intro c hc; simp only [List.mem_cons, List.not_mem_nil, or_false] at hc; rcases hc with rfl | rfl; exact (.sl _ _ fun row hr => bL dmc row hr); exact dfn d0 d0))) J <| eZ (fun h29 => ?_) (fun h29 => ?_)
 ·refine aA (bM J J) J <| Nk [2,3,4,30] J <| aS J <| aB <| Rg 2 J <| Ua J J <| Ua J J <| Wn <| bB <| post (n := 0) (.inr J) J ?_ jS
  show _ = chkO ss f ns
  unfold chkO; rw [if_pos (Classical.not_not.1 h19), ← any_not, h29]; cases decide (ns.length = ss.length) <;> rfl
 refine aA (bM J J) J <| Nk [2,3,4,30] J <| aT J <| aD ?_
 obtain ⟨hV, hvf, hall, hf0, hf3⟩ := lF (ns := ns) (eD_full (Classical.not_not.1 h19) (kG h29))
 have hva := vn_all hall
 have hV1 := iG hV
 have hn40 := hV1.wt.len
 have hD := gA hV (kY hvf hf0 hf3).1 (kY hvf hf0 hf3).2
 have hxb := nx_bd hva
 have hvl := vl_nx ns
 have hxl : (ns.map nx).length = ss.length := by rw [List.length_map]; exact (Int.ofNat.inj (Classical.not_not.1 h26))
 refine bI (z := 7) J kR <| Dm J J <| aF (aK J (pQ kn ns om hns (fun a ha => (hva a ha).all3.2.2)) dD) J <| aF (aM (l := lvM f) J J gG J J) J ?_
 refine aF (bK (b := lvX (nx f)) (aK J (eK f hf1 hf2 hvf.all3.2.2) dD) J) J <| nL (dY J) J <| aF (iE J) J <| cA (cB (cs' := xc (nx f)) J J J g0 J J J J) <| bD (aR kR) J <| aB <| Rg 4 J <| aA (bE J J J J J) J <| aA (aM J J gG J J) J ?_
 refine aA (aX J J) J <| Um J J <| Wn <| aL <| aY (α := Nat) (fun i => [(9, .sl (kd (ns.map nx).length) ((ns.map nx).map xc)), (10, .ptr (0 + 4 + 4 + 2 + 10 + 4) 0), (36, .sl k (ss.map stc)), (37, .v (.int .i64 (ss.length : Int))), (38, .v (.int .i64 (i : Int)))]) (fun i => [((0 + 4 + 4 + 2 + 10 + 4), { cells := xc (nx f), sz := 4, elem := (102), st := 0 })]) (fun i n => i ≤ ss.length ∧ (∀ a, a < i → (fun a : Nat => decide (bsV (ss.getD a default) (nq f) (vl (ns.map nx)) = (vl (ns.map nx)) a)) a = true) ∧ 24 < n) (fun i => ss.length - i) (0) ⟨J, J, J, J, J, trivial⟩ ⟨gG, trivial⟩ ⟨Nat.zero_le _, fun a ha => absurd ha om, om⟩ ?_
 rintro i n hF
 change WC _ _ _ _ _ (_ :: _) (_ :: _) n _
 obtain ⟨hi, hA, hn⟩ := hF
 refine Rg 1 J <| aA (bS J J) J <| aW (fun h39 => ?_) (fun h39 => ?_)
 rotate_left
 ·refine Wn <| aT J <| aV <| aQ <| aN J <| Rg 2 J <| Ua J J <| Ua J J <| Wn <| aO <| post (n := 0) (.inr J) J ?_ jS
  show _ = chkO ss f ns
  unfold chkO isV; rw [if_pos (Classical.not_not.1 h19), ← hvl, nE hA om, hall, decide_eq_true (show ns.length = ss.length by omega)]; rfl
 refine Wn <| aS J <| aD <| aL ?_
 have hm := bC (us := ss) (i := i) om
 have hcl := hV1.cs _ hm
 refine Rg 6 J <| Um J J <| aA (bQ J J J J J om J) J <| aA (cZ (l := .agg (stc (ss.getD i default))) J J J) J <| bA (dY J) J <| Ua J J <| aZ (cB (cs' := stc (ss.getD i default)) J J J g0 J J J J) <| Wn <| Rg 10 J <| aA (aM (l := .agg (stc (ss.getD i default))) J J gG J J) J ?_
 refine aA (aM (l := lvX (nx f)) J J gG J J) J ?_
 refine Um J J <| aA (aK J (rP (ss.getD i default) (nx f) (kd (ns.map nx).length) (ns.map nx) ss.length hcl (fun c hc => jI hV hm hc) hvf.bd hxl 2 (by decide) (by decide) hxb) (bJ (by intro c hc; simp only [List.mem_cons, List.not_mem_nil, or_false] at hc; rcases hc with rfl | rfl | rfl; exact (.agg _ fun c hc => dstc1 _ c hc); exact iZ; exact (.sl _ _ fun row hr => bL pD row hr)))) J <| Um J J <| aA (dF J J) J <| aA (dF J J) J <| bA (dY J) J <| aZ (cB (cs' := xc (xyl ((ss.getD i default).2.2.getD (bsK (ss.getD i default) (nx f).1 (vl (ns.map nx))) default) (nx f) (ns.map nx))) J J J g0 J J J J) <| Ua J J <| Nk [9,10,11,13,36,37,38] J ?_
 have hbk := lB (d := (nx f).1) (v := (vl (ns.map nx))) (x := (ss.getD i default)) om
 obtain ⟨hrb, hvbb⟩ := jI hV hm (bC (us := (ss.getD i default).2.2) hbk)
 have hyb := xyl_bd (d := nx f) hrb hvbb hvf.bd (by decide) hxb
 have hgb := kN (by decide) hxb i
 have hbv : (xyl ((ss.getD i default).2.2.getD (bsK (ss.getD i default) (nx f).1 (vl (ns.map nx))) default) (nx f) (ns.map nx)).1 = bsV (ss.getD i default) (nq f) (vl (ns.map nx)) := xyl_v _ _ _
 refine bI (z := 7) J kR <| aF (aM (l := lvX (xyl ((ss.getD i default).2.2.getD (bsK (ss.getD i default) (nx f).1 (vl (ns.map nx))) default) (nx f) (ns.map nx))) J J gG J J) J ?_
 refine Dm J J <| Dm J J <| aF (bQ (j := i) J J J J om om J) J <| aF (cZ (l := lvX ((ns.map nx).getD i default)) J J J) J <| aF (aK J (jY (xyl ((ss.getD i default).2.2.getD (bsK (ss.getD i default) (nx f).1 (vl (ns.map nx))) default) (nx f) (ns.map nx)) ((ns.map nx).getD i default) (hyb.mono om) (hgb.mono om)) dD) J <| aF (dS J J) J <| oX (fun h56 => ?_) (fun h56 => ?_)
 rotate_left
 ·refine bD (aR kR) J <| bR J <| bT <| aE <| aI (z := 2) J <| aA (cI (((i + 1 : Nat) : Int)) (aP J J om) om) J <| Um J J <| Wn <| aC <| ⟨i + 1, ⟨J, J, J, J, J, trivial⟩, ⟨gG, trivial⟩, ⟨om, fun a ha => ?_, om⟩, by show ss.length - (i + 1) < ss.length - i; omega⟩
  by_cases e : a = i
  ·rw [e]; exact decide_eq_true (by have h57 := Classical.not_not.1 h56; rw [sign_num0, hbv, jL] at h57; exact h57)
  ·exact hA a om
 refine bD (aR kR) J <| bV J <| Rg 2 J <| Ua J J <| Ua J J <| Nk [6,7] J <| aO <| aU <| bP <| aU <| post (n := 0) (.inr J) J ?_ jS
 show _ = chkO ss f ns
 unfold chkO isV; rw [if_pos (Classical.not_not.1 h19), ← hvl, fN (i := i) om (decide_eq_false (fun e => h56 (by rw [sign_num0, hbv, e, jL]))), Bool.and_false]; rfl
theorem yrow_len {ss : List Go.Ab.ST} {d : Rat} {v : Nat → Rat} {i : Nat} {ds : List X1} (hV : VM1 ss) (hi : i ≤ ss.length) (h : vX ds = tab i (fun a : Nat => tab (ss.getD a default).2.2.length (ysF (ss.getD a default) d v))) : ∀ r, r ∈ ds → r.2.length ≤ 8 := by
 intro r hr
 have h1 : r.2.map (·.1) ∈ vX ds := List.mem_map.2 ⟨r, hr, rfl⟩
 rw [h] at h1
 obtain ⟨a, ha, e⟩ := List.mem_map.1 h1
 have h2 := congrArg List.length e
 rw [fS, List.length_map] at h2
 have := hV.cs _ (bC (us := ss) (i := a) (by have := List.mem_range.1 ha; omega))
 omega
theorem dyields_run (k kn : Nat) (ss : List Go.Ab.ST) (f : NM) (ns : List NM) (hI : ∀ s, s ∈ ss → IS s) (hf1 : I64 f.1) (hf2 : I64 f.2) (hns : IV ns) (ln : ns.length < 1000000) : Run Tryz.prog T E0 (.call 46 [lvMo k ss, lvM f, .sl kn (ns.map mc)] (ydsO ss f ns)) := by
 refine bH Tryz.func46 J J (dK J) <| Rg 4 J <| bA (dT J J) J <| bA (dT J J) J <| Ua J J <| Ua J J <| Wn <| aB <| Rg 5 J <| aA (aM (l := lvMo k ss) J J gG J J) J ?_
 refine aA (aM (l := lvM f) J J gG J J) J ?_
 refine Um J J <| aA (aK J (iP k kn ss f ns hI hf1 hf2 hns om) (bJ (by intro c hc; simp only [List.mem_cons, List.not_mem_nil, or_false] at hc; rcases hc with rfl | rfl | rfl; exact iZ; exact iZ; exact (.sl _ _ fun row hr => bL dmc row hr)))) J <| Ua J J <| Wn <| aB <| Rg 2 J <| Um J J <| aA (dS J J) J <| aW (fun h22 => ?_) (fun h22 => ?_)
 ·refine Wn <| aS J <| aB <| Rg 3 J <| Um J J <| Ua J J <| Ua J J <| Nk [6,7] J <| bB <| post (n := 0) (.inr J) J ?_ qA
  show _ = ydsO ss f ns
  unfold ydsO; rw [if_neg h22]; rfl
 refine Wn <| aT J <| aD <| aB <| Rg 6 J <| Um J J <| aA (aX J J) J <| aA (bE J J J J J) J <| aA (aM J J gG J J) J ?_
 refine aA (aX J J) J <| aA (dS J J) J <| aW (fun h29 => ?_) (fun h29 => ?_)
 ·refine Nk [2,3,4,29] J <| aS J <| aB <| Rg 2 J <| Ua J J <| Ua J J <| Wn <| bB <| post (n := 0) (.inr J) J ?_ qA
  show _ = ydsO ss f ns
  unfold ydsO; rw [if_pos (Classical.not_not.1 h22), if_neg (fun e => h29 (congrArg Int.ofNat e))]; rfl
 refine Nk [2,3,4,29] J <| aT J <| aD ?_
 obtain ⟨hV, hvf, hall, hf0, hf3⟩ := lF (Classical.not_not.1 h22)
 have hva := vn_all hall
 have hV1 := iG hV
 have hn40 := hV1.wt.len
 have hD := gA hV (kY hvf hf0 hf3).1 (kY hvf hf0 hf3).2
 have hxb := nx_bd hva
 have hvl := vl_nx ns
 have hxl : (ns.map nx).length = ss.length := by rw [List.length_map]; exact (Int.ofNat.inj (Classical.not_not.1 h29))
 refine bI (z := 7) J kR <| Dm J J <| aF (aK J (pQ kn ns om hns (fun a ha => (hva a ha).all3.2.2)) dD) J <| aF (aM (l := lvM f) J J gG J J) J ?_
 refine aF (bK (b := lvX (nx f)) (aK J (eK f hf1 hf2 hvf.all3.2.2) dD) J) J <| nL (dY J) J <| aF (iE J) J <| cA (cB (cs' := xc (nx f)) J J J g0 J J J J) <| bD (aR kR) J <| Rg 1 J <| Ua J J <| Wn <| aB <| Rg 4 J <| aA (bE J J J J J) J <| aA (aM J J gG J J) J ?_
 refine aA (aX J J) J <| Um J J <| Nk [9,10,11,35,36,37] J <| aL <| aY (α := Nat × Nat × (List X1)) (fun ⟨i, q, ds⟩ => [(9, .sl (kd (ns.map nx).length) ((ns.map nx).map xc)), (10, .ptr (0 + 4 + 5 + 2 + 6 + 4) 0), (11, outV q 1 (ds.map fX)), (35, .sl k (ss.map stc)), (36, .v (.int .i64 (ss.length : Int))), (37, .v (.int .i64 (i : Int)))]) (fun ⟨i, q, ds⟩ => outH q 1 104 (ds.map fX) [((0 + 4 + 5 + 2 + 6 + 4), { cells := xc (nx f), sz := 4, elem := (102), st := 0 })]) (fun ⟨i, q, ds⟩ n => i ≤ ss.length ∧ vX ds = tab i (fun a : Nat => tab (ss.getD a default).2.2.length (ysF (ss.getD a default) (nq f) (vl (ns.map nx)))) ∧ ds.length = i ∧ q < n ∧ q ≠ (0 + 4 + 5 + 2 + 6 + 4) ∧ (0 + 4 + 5 + 2 + 6 + 4) < n) (fun ⟨i, q, ds⟩ => ss.length - i) (0, 0, []) ⟨J, J, J, J, J, J, trivial⟩ ⟨gG, trivial⟩ ⟨Nat.zero_le _, rfl, rfl, om, om, om⟩ ?_
 rintro ⟨i, q, ds⟩ n hF
 change WC _ _ _ _ _ (_ :: _) (outH _ _ _ _ _) n _
 obtain ⟨hi, hds, hdl, hq, hqy, hn⟩ := hF
 refine Rg 1 J <| aA (bS J J) J <| aW (fun h38 => ?_) (fun h38 => ?_)
 rotate_left
 ·refine Wn <| aT J <| aV <| aQ <| aN J <| Rg 6 J <| Um J J <| bA (bK (b := lvOM (ydM ss f ns)) (oCallU J (by rw [kT]; exact mouts_run _ ds om (fun r hr => by have := yrow_len hV1 (show i ≤ ss.length by omega) hds r hr; omega)) (fun hu => dA hu) (by decide) (cM (n := 1) (fun _ => rfl)) (bL dfX) (bJ (by simp))) (congrArg lvOM (by rw [outX_eq, hds, hvl, show i = ss.length by omega]; rfl))) J <| aA (dF J J) J <| aA (dF J J) J <| Ua J J <| Ua J J <| Wn <| aO <| post (n := 0) (.inr J) J ?_ qA
  show _ = ydsO ss f ns
  unfold ydsO; rw [if_pos (Classical.not_not.1 h22), if_pos (show ns.length = ss.length by rw [List.length_map] at hxl; exact hxl)]; rfl
 refine Wn <| aS J <| aD <| aL ?_
 have hm := bC (us := ss) (i := i) om
 have hcl := hV1.cs _ hm
 refine Rg 4 J <| aA (bQ J J J J J om J) J <| aA (cZ (l := .agg (stc (ss.getD i default))) J J J) J <| bA (dY J) J <| aZ (cB (cs' := stc (ss.getD i default)) J J J g0 J J J J) <| Wn <| Rg 1 J <| Ua J J <| Wn <| aB <| Rg 4 J <| aA (bE J J J J J) J <| aA (aM J J (by repeat (first | exact g0 | refine g1 om ?_ | refine aG om ?_)) J J) J ?_
 refine aA (aX J J) J <| Um J J <| Nk [9,10,11,14,35,36,37,42,43,44] J <| aL <| aY (α := Nat × Nat × (List X)) (fun ⟨j, q2, row⟩ => [(9, .sl (kd (ns.map nx).length) ((ns.map nx).map xc)), (10, .ptr (0 + 4 + 5 + 2 + 6 + 4) 0), (11, outV q 1 (ds.map fX)), (14, outV q2 4 (row.map xc)), (35, .sl k (ss.map stc)), (36, .v (.int .i64 (ss.length : Int))), (37, .v (.int .i64 (i : Int))), (42, .sl (ss.getD i default).2.1 ((ss.getD i default).2.2.map chc)), (43, .v (.int .i64 ((ss.getD i default).2.2.length : Int))), (44, .v (.int .i64 (j : Int)))]) (fun ⟨j, q2, row⟩ => outH q2 4 102 (row.map xc) (outH q 1 104 (ds.map fX) [((0 + 4 + 5 + 2 + 6 + 4), { cells := xc (nx f), sz := 4, elem := (102), st := 0 })])) (fun ⟨j, q2, row⟩ n => j ≤ (ss.getD i default).2.2.length ∧ row.map (·.1) = tab j (ysF (ss.getD i default) (nq f) (vl (ns.map nx))) ∧ row.length = j ∧ q2 < n ∧ q2 ≠ (0 + 4 + 5 + 2 + 6 + 4) ∧ q2 ≠ q ∧ q < n ∧ (0 + 4 + 5 + 2 + 6 + 4) < n) (fun ⟨j, q2, row⟩ => (ss.getD i default).2.2.length - j) (0, (n + 1), []) ⟨J, J, J, J, J, J, J, J, J, J, trivial⟩ (cD (q := q) (us := ds.map fX) (fun hne => by rw [dL hne]; repeat (first | exact g0 | refine g1 om ?_ | refine aG om ?_)) ⟨(by repeat (first | exact g0 | refine g1 om ?_ | refine aG om ?_)), trivial⟩) ⟨Nat.zero_le _, rfl, rfl, om, om, om, om, om⟩ ?_
 rintro ⟨j, q2, row⟩ n hF
 change WC _ _ _ _ _ (_ :: _) (outH _ _ _ _ _) n _
 obtain ⟨hj, hrw, hrl, hq2, hq2y, hq2q, hqn, hn2⟩ := hF
 refine WC.regF (z := 1) J <| aA (bS J J) J <| aW (fun h45 => ?_) (fun h45 => ?_)
 rotate_left
 ·refine Wn <| Fz.env (t := 14) (us := row.map xc) [(9, _), (10, _), (11, _), (35, _), (36, _), (37, _), (42, _), (43, _), (44, _), (45, _)] ⟨J, J, J, J, J, J, J, J, J, J, trivial⟩ J (fun _ r o hr => by rcases outH_dom hr with h | h <;> omega) (by decide) (cM (n := 4) (fun _ => rfl)) (bL pD) <| aT J <| aV <| aQ <| aN J <| aI (z := 5) J <| Um J J <| Um J J <| aA (cU (cs := [_]) (rows := [[_]]) J J (by decide) J J J) J <| lA _ (subsM.get (cD (q := q) (sz := 1) (el := 104) (us := ds.map fX) (h := [((0 + 4 + 5 + 2 + 6 + 4), { cells := xc (nx f), sz := 4, elem := (102), st := 0 })]) (fun hne => by rw [dL hne]; repeat (first | exact g0 | refine g1 om ?_ | refine aG om ?_)) ⟨(by repeat (first | exact g0 | refine g1 om ?_ | refine aG om ?_)), trivial⟩)) ?_
  refine cY (te := ti104) (f := fX) (q := q) (us := ds) (u := (kd (row.map xc).length, row)) J J J J J (fun _ => rfl) (by decide) (by show (2 * (ds.length + 1) + 256) * 24 ≤ _; omega) om (g1 om J) (g1 om J) J <| Ua J J <| Wn <| aE <| Ck [9,10,11,35,36,37] J <| aI (z := 2) J <| aA (cI (((i + 1 : Nat) : Int)) (aP J J om) om) J <| Um J J <| Wn <| aC ?_
  have hjn : j = (ss.getD i default).2.2.length := by omega
  refine ⟨⟨i + 1, _, ds ++ [(kd (row.map xc).length, row)]⟩, ⟨J, J, J, J, J, J, trivial⟩, subsM_out1 om, ⟨om, ?_, by simp; omega, om, om, om⟩, by show ss.length - (i + 1) < ss.length - i; omega⟩
  rw [vX_app, hds, tab_succ]
  congr 1
  show [row.map (·.1)] = _
  rw [hrw, hjn]
 refine Wn <| Fz.same [(9, _), (10, _), (11, _), (14, _), (35, _), (36, _), (37, _), (42, _), (43, _), (44, _), (45, _)] _ ⟨J, J, J, J, J, J, J, J, J, J, J, trivial⟩ (fun _ _ h => h) <| aS J <| aD <| aL ?_
 have hmc := bC (us := (ss.getD i default).2.2) (i := j) om
 obtain ⟨hrw9, hvb⟩ := jI hV hm hmc
 refine Rg 4 J <| aA (bQ J J J J J om J) J <| aA (cZ (l := lvC ((ss.getD i default).2.2.getD j default)) J J J) J <| bA (dY J) J <| aZ (cB (cs' := chc ((ss.getD i default).2.2.getD j default)) J J J g0 J J J J) <| Wn <| aI (z := 8) J <| Um J J <| aA (aM (l := lvC ((ss.getD i default).2.2.getD j default)) J J (by repeat (first | exact g0 | refine g1 om ?_ | refine aG om ?_)) J J) J ?_
 refine aA (aM (l := lvX (nx f)) J J (by repeat (first | exact g0 | refine g1 om ?_ | refine aG om ?_)) J J) J ?_
 refine Um J J <| aA (aK J (mR ((ss.getD i default).2.2.getD j default) (nx f) (kd (ns.map nx).length) (ns.map nx) ss.length hrw9 hvb hvf.bd hxl 2 (by decide) (by decide) hxb) (bJ (by intro c hc; simp only [List.mem_cons, List.not_mem_nil, or_false] at hc; rcases hc with rfl | rfl | rfl; exact iZ; exact iZ; exact (.sl _ _ fun row hr => bL pD row hr)))) J <| aA (cU (cs := [_, _, _, _]) (rows := [[_, _, _, _]]) J J (by decide) J J J) J <| lA _ (subsM.get (cD (q := q2) (sz := 4) (el := 102) (us := row.map xc) (h := outH q 1 104 (ds.map fX) [((0 + 4 + 5 + 2 + 6 + 4), { cells := xc (nx f), sz := 4, elem := (102), st := 0 })]) (fun hne => by rw [dL hne]; repeat (first | exact g0 | refine g1 om ?_ | refine aG om ?_)) (cD (q := q) (sz := 1) (el := 104) (us := ds.map fX) (h := [((0 + 4 + 5 + 2 + 6 + 4), { cells := xc (nx f), sz := 4, elem := (102), st := 0 })]) (fun hne => by rw [dL hne]; repeat (first | exact g0 | refine g1 om ?_ | refine aG om ?_)) ⟨(by repeat (first | exact g0 | refine g1 om ?_ | refine aG om ?_)), trivial⟩))) ?_
 refine cY (te := ti102) (f := xc) (q := q2) (us := row) (u := xyl ((ss.getD i default).2.2.getD j default) (nx f) (ns.map nx)) J J J J J (fun _ => rfl) (by decide) (by show (2 * (row.length + 1) + 256) * 64 ≤ _; omega) om (aG om (g1 om J)) (aG om (g1 om J)) J <| Ua J J <| Wn <| aE <| Ck [9,10,11,14,35,36,37,42,43,44] J <| aI (z := 2) J <| aA (cI (((j + 1 : Nat) : Int)) (aP J J om) om) J <| Um J J <| Wn <| aC <| ⟨⟨j + 1, _, row ++ [xyl ((ss.getD i default).2.2.getD j default) (nx f) (ns.map nx)]⟩, ⟨J, J, J, J, J, J, J, J, J, J, trivial⟩, subsM_oo om om om, ⟨om, ?_, by simp; omega, om, om, om, om, om⟩, by show (ss.getD i default).2.2.length - (j + 1) < (ss.getD i default).2.2.length - j; omega⟩
 rw [List.map_append, hrw, tab_succ]
 congr 1
 show [(xyl ((ss.getD i default).2.2.getD j default) (nx f) (ns.map nx)).1] = _
 rw [xyl_v]; rfl
theorem dgap_run (k kn : Nat) (ss : List Go.Ab.ST) (f : NM) (ns : List NM) (hI : ∀ s, s ∈ ss → IS s) (hf1 : I64 f.1) (hf2 : I64 f.2) (hns : IV ns) (ln : ns.length < 1000000) : Run Tryz.prog T E0 (.call 47 [lvMo k ss, lvM f, .sl kn (ns.map mc)] (gapO ss f ns)) := by
 refine bH Tryz.func47 J J (dK J) <| Rg 4 J <| bA (dT J J) J <| bA (dT J J) J <| bA (dY J) J <| Ua J J <| Wn <| aB <| Rg 5 J <| aA (aM (l := lvMo k ss) J J gG J J) J ?_
 refine aA (aM (l := lvM f) J J gG J J) J ?_
 refine Um J J <| aA (aK J (iP k kn ss f ns hI hf1 hf2 hns om) (bJ (by intro c hc; simp only [List.mem_cons, List.not_mem_nil, or_false] at hc; rcases hc with rfl | rfl | rfl; exact iZ; exact iZ; exact (.sl _ _ fun row hr => bL dmc row hr)))) J <| Ua J J <| Wn <| aB <| Rg 2 J <| Um J J <| aA (dS J J) J <| aW (fun h24 => ?_) (fun h24 => ?_)
 ·refine Wn <| aS J <| aB <| Rg 4 J <| aA (gD (cs := [_, _]) J J J J J) J <| Um J J <| aZ (cB (cs' := [_, _]) J J J J J J J J) <| Ua J J <| Nk [6,7] J <| bB <| post (n := 0) (.inr J) J ?_ lZ
  show _ = gapO ss f ns
  unfold gapO; rw [if_neg h24]; rfl
 refine Wn <| aT J <| aD <| aB <| Rg 6 J <| Um J J <| aA (aX J J) J <| aA (bE J J J J J) J <| aA (aM J J gG J J) J ?_
 refine aA (aX J J) J <| aA (dS J J) J <| aW (fun h32 => ?_) (fun h32 => ?_)
 ·refine Nk [2,3,4,6,32] J <| aS J <| aB <| Rg 3 J <| aA (gD (cs := [_, _]) J J J J J) J <| aZ (cB (cs' := [_, _]) J J J J J J J J) <| Ua J J <| Wn <| bB <| post (n := 0) (.inr J) J ?_ lZ
  show _ = gapO ss f ns
  unfold gapO; rw [if_pos (Classical.not_not.1 h24), if_neg (fun e => h32 (congrArg Int.ofNat e))]; rfl
 refine Nk [2,3,4,6,32] J <| aT J <| aD ?_
 obtain ⟨hV, hvf, hall, hf0, hf3⟩ := lF (Classical.not_not.1 h24)
 have hva := vn_all hall
 have hV1 := iG hV
 have hn40 := hV1.wt.len
 have hD := gA hV (kY hvf hf0 hf3).1 (kY hvf hf0 hf3).2
 have hxb := nx_bd hva
 have hvl := vl_nx ns
 have hxl : (ns.map nx).length = ss.length := by rw [List.length_map]; exact (Int.ofNat.inj (Classical.not_not.1 h32))
 refine bI (z := 7) J kR <| Dm J J <| aF (aK J (pQ kn ns om hns (fun a ha => (hva a ha).all3.2.2)) dD) J <| aF (aM (l := lvM f) J J gG J J) J ?_
 refine aF (bK (b := lvX (nx f)) (aK J (eK f hf1 hf2 hvf.all3.2.2) dD) J) J <| nL (dY J) J <| aF (iE J) J <| cA (cB (cs' := xc (nx f)) J J J g0 J J J J) <| bD (aR kR) J <| aB <| Rg 9 J <| aA (aM (l := lvMo k ss) J J gG J J) J ?_
 refine aA (aM (l := lvM f) J J gG J J) J ?_
 refine Um J J <| aA (bK (b := lvOM (ydM ss f ns)) (aK J (dyields_run k kn ss f ns hI hf1 hf2 hns ln) (bJ (by intro c hc; simp only [List.mem_cons, List.not_mem_nil, or_false] at hc; rcases hc with rfl | rfl | rfl; exact iZ; exact iZ; exact (.sl _ _ fun row hr => bL dmc row hr)))) (by unfold ydsO; rw [if_pos (Classical.not_not.1 h24), if_pos (show ns.length = ss.length by rw [List.length_map] at hxl; exact hxl)])) J <| Um J J <| aA (dF J J) J <| aA (dF J J) J <| Ua J J <| Ua J J <| Nk [3,6,9,10,12] J <| aB <| Rg 2 J <| Um J J <| aA (dS J J) J <| aW (fun h46 => ?_) (fun h46 => ?_)
 ·refine Wn <| aS J <| aB <| Rg 4 J <| aA (gD (cs := [_, _]) J J J J J) J <| Um J J <| aZ (cB (cs' := [_, _]) J J J J J J J J) <| Ua J J <| Wn <| bB <| post (n := 0) (.inr J) J ?_ lZ
  show _ = gapO ss f ns
  have hs : ¬ (ydM ss f ns).isSome = true := fun hs => h46 (if_pos hs)
  rw [if_neg hs]
  unfold gapO; rw [if_pos (Classical.not_not.1 h24), if_pos (show ns.length = ss.length by rw [List.length_map] at hxl; exact hxl), if_neg hs]; rfl
 refine Wn <| aT J <| aD <| Rg 1 J <| bA (dY J) J <| Wn <| aB <| Rg 4 J <| aA (bE J J J J J) J <| aA (aM J J gG J J) J ?_
 refine aA (aX J J) J <| Um J J <| Wn <| aL <| aY (α := Nat × X) (fun ⟨i, gx⟩ => [(6, .ptr (0 + 2) 0), (9, .sl (kd (ns.map nx).length) ((ns.map nx).map xc)), (10, .ptr (0 + 4 + 5 + 2 + 6 + 4) 0), (13, .ptr (0 + 4 + 5 + 2 + 6 + 7 + 9 + 2) 0), (50, .sl k (ss.map stc)), (51, .v (.int .i64 (ss.length : Int))), (52, .v (.int .i64 (i : Int)))]) (fun ⟨i, gx⟩ => [((0 + 4 + 5 + 2 + 6 + 7 + 9 + 2), { cells := xc (gx), sz := 4, elem := (102), st := 0 }), ((0 + 4 + 5 + 2 + 6 + 4), { cells := xc (nx f), sz := 4, elem := (102), st := 0 }), ((0 + 2), { cells := mc (0, 0), sz := 2, elem := (26), st := 0 })]) (fun ⟨i, gx⟩ n => i ≤ ss.length ∧ gx.1 = (gapF ss (nq f) (vl (ns.map nx)) i) ∧ Bd 100 gx.1 ∧ 36 < n) (fun ⟨i, gx⟩ => ss.length - i) (0, x0) ⟨J, J, J, J, J, J, J, trivial⟩ ⟨gG, gG, gG, trivial⟩ ⟨Nat.zero_le _, rfl, Bd_0.mono (by decide), om⟩ ?_
 rintro ⟨i, gx⟩ n hF
 change WC _ _ _ _ _ (_ :: _) (_ :: _) n _
 obtain ⟨hi, hg, hgb2, hn⟩ := hF
 refine Rg 1 J <| aA (bS J J) J <| aW (fun h53 => ?_) (fun h53 => ?_)
 rotate_left
 ·refine Wn <| aT J <| aV <| aQ <| aN J ?_
  have hin : i = ss.length := by omega
  have hden : (xadd (xint 1) (xneg (nx f))).1 ≠ 0 := den1_ne hD.d1
  have hgo : (xdiv gx (xadd (xint 1) (xneg (nx f)))).1 = (gapF ss (nq f) (fn_ (ns.map nq)) ss.length / (1 - nq f)) := by show gx.1 / (1 + -(nq f)) = _; rw [hg, hin, hvl, ← Rat.sub_eq_add_neg]
  have hdenb : Bd 6 (xadd (xint 1) (xneg (nx f))).1 := (Bd_1.add hvf.bd.neg).mono (by decide)
  refine bI (z := 10) J kR <| aF (aM (l := lvX gx) J J gG J J) J ?_
  refine aF (aK J (gS 1 I64_1) dD) J <| aF (aM (l := lvX (nx f)) J J gG J J) J ?_
  refine aF (aK J (rsub_run (xint 1) (nx f) (Bd_1.mono (by decide)) (hvf.bd.mono (by decide))) dD) J <| aF (aK J (rdiv_run gx (xadd (xint 1) (xneg (nx f))) hden (hgb2.mono (by decide)) (hdenb.mono (by decide))) dD) J <| aF (bK (b := .tup [lvM ((outN (gapF ss (nq f) (fn_ (ns.map nq)) ss.length / (1 - nq f))).getD (0, 0)), .v (.int .i64 (if (outN (gapF ss (nq f) (fn_ (ns.map nq)) ss.length / (1 - nq f))).isSome = true then 0 else 3))]) (aK J (nout_run (xdiv gx (xadd (xint 1) (xneg (nx f))))) dD) (by rw [lN, hgo])) J <| aF (dF J J) J <| aF (dF J J) J <| cA (cB (cs' := mc ((outN (gapF ss (nq f) (fn_ (ns.map nq)) ss.length / (1 - nq f))).getD (0, 0))) J J J gG J J J J) ?_
  refine aF (iE J) J <| bD (aR kR) J <| Ck [6,7] J <| aO <| post (n := 0) (.inr J) J ?_ lZ
  show _ = gapO ss f ns
  have hs : (ydM ss f ns).isSome = true := Classical.byContradiction fun hs => h46 (by rw [if_neg hs]; decide)
  unfold gapO; rw [if_pos (Classical.not_not.1 h24), if_pos (show ns.length = ss.length by rw [List.length_map] at hxl; exact hxl), if_pos hs, lN]; rfl
 refine Wn <| aS J <| aD <| aL ?_
 have hm := bC (us := ss) (i := i) om
 have hcl := hV1.cs _ hm
 refine Rg 6 J <| Um J J <| aA (bQ J J J J J om J) J <| aA (cZ (l := .agg (stc (ss.getD i default))) J J J) J <| bA (dY J) J <| Ua J J <| aZ (cB (cs' := stc (ss.getD i default)) J J J g0 J J J J) <| Wn <| Rg 10 J <| aA (aM (l := .agg (stc (ss.getD i default))) J J gG J J) J ?_
 refine aA (aM (l := lvX (nx f)) J J gG J J) J ?_
 refine Um J J <| aA (aK J (rP (ss.getD i default) (nx f) (kd (ns.map nx).length) (ns.map nx) ss.length hcl (fun c hc => jI hV hm hc) hvf.bd hxl 2 (by decide) (by decide) hxb) (bJ (by intro c hc; simp only [List.mem_cons, List.not_mem_nil, or_false] at hc; rcases hc with rfl | rfl | rfl; exact (.agg _ fun c hc => dstc1 _ c hc); exact iZ; exact (.sl _ _ fun row hr => bL pD row hr)))) J <| Um J J <| aA (dF J J) J <| aA (dF J J) J <| bA (dY J) J <| aZ (cB (cs' := xc (xyl ((ss.getD i default).2.2.getD (bsK (ss.getD i default) (nx f).1 (vl (ns.map nx))) default) (nx f) (ns.map nx))) J J J g0 J J J J) <| Ua J J <| Nk [6,9,10,13,14,16,50,51,52] J ?_
 have hbk := lB (d := (nx f).1) (v := (vl (ns.map nx))) (x := (ss.getD i default)) om
 obtain ⟨hrb, hvbb⟩ := jI hV hm (bC (us := (ss.getD i default).2.2) hbk)
 have hyb := xyl_bd (d := nx f) hrb hvbb hvf.bd (by decide) hxb
 have hgb := kN (by decide) hxb i
 have hbv : (xyl ((ss.getD i default).2.2.getD (bsK (ss.getD i default) (nx f).1 (vl (ns.map nx))) default) (nx f) (ns.map nx)).1 = bsV (ss.getD i default) (nq f) (vl (ns.map nx)) := xyl_v _ _ _
 refine bI (z := 8) J kR <| aF (aM (l := lvX (xyl ((ss.getD i default).2.2.getD (bsK (ss.getD i default) (nx f).1 (vl (ns.map nx))) default) (nx f) (ns.map nx))) J J gG J J) J ?_
 refine Dm J J <| Dm J J <| aF (bQ (j := i) J J J J om om J) J <| aF (cZ (l := lvX ((ns.map nx).getD i default)) J J J) J <| aF (aK J (rsub_run (xyl ((ss.getD i default).2.2.getD (bsK (ss.getD i default) (nx f).1 (vl (ns.map nx))) default) (nx f) (ns.map nx)) ((ns.map nx).getD i default) (hyb.mono om) (hgb.mono om)) dD) J <| nL (dY J) J <| cA (cB (cs' := xc (xadd (xyl ((ss.getD i default).2.2.getD (bsK (ss.getD i default) (nx f).1 (vl (ns.map nx))) default) (nx f) (ns.map nx)) (xneg ((ns.map nx).getD i default)))) J J J g0 J J J J) <| bD (gO (rn n) (by simp only [List.reverse_cons, List.reverse_nil, List.nil_append, List.cons_append, List.map_cons, List.map_nil, ren, keys, Nat.add_assoc, rn_add]; kernel_rfl)) J <| Ck [6,9,10,13,18,50,51,52] J <| aB ?_
 have hdv : (xadd (xyl ((ss.getD i default).2.2.getD (bsK (ss.getD i default) (nx f).1 (vl (ns.map nx))) default) (nx f) (ns.map nx)) (xneg ((ns.map nx).getD i default))).1 = (bsV (ss.getD i default) (nq f) (vl (ns.map nx)) - (vl (ns.map nx)) i) := by show (xyl ((ss.getD i default).2.2.getD (bsK (ss.getD i default) (nx f).1 (vl (ns.map nx))) default) (nx f) (ns.map nx)).1 + -((ns.map nx).getD i default).1 = _; rw [hbv, jL]; grind
 have hdb : Bd 100 (xadd (xyl ((ss.getD i default).2.2.getD (bsK (ss.getD i default) (nx f).1 (vl (ns.map nx))) default) (nx f) (ns.map nx)) (xneg ((ns.map nx).getD i default))).1 := (hyb.add (hgb.neg)).mono (by decide)
 refine Rg 3 J <| aA (aM (l := lvX (xadd (xyl ((ss.getD i default).2.2.getD (bsK (ss.getD i default) (nx f).1 (vl (ns.map nx))) default) (nx f) (ns.map nx)) (xneg ((ns.map nx).getD i default)))) J J gG J J) J ?_
 refine aA (aK J (gR (xadd (xyl ((ss.getD i default).2.2.getD (bsK (ss.getD i default) (nx f).1 (vl (ns.map nx))) default) (nx f) (ns.map nx)) (xneg ((ns.map nx).getD i default)))) dD) J <| aA (bS J J) J <| aW (fun h72 => ?_) (fun h72 => ?_)
 rotate_left
 ·refine Wn <| aT J <| aD ?_
  obtain ⟨z, hz, hzb, ez⟩ : ∃ z : X, z.1 = absR (bsV (ss.getD i default) (nq f) (vl (ns.map nx)) - (vl (ns.map nx)) i) ∧ Bd 100 z.1 ∧ z = if (xadd (xyl ((ss.getD i default).2.2.getD (bsK (ss.getD i default) (nx f).1 (vl (ns.map nx))) default) (nx f) (ns.map nx)) (xneg ((ns.map nx).getD i default))).1.num.sign < 0 then xneg (xadd (xyl ((ss.getD i default).2.2.getD (bsK (ss.getD i default) (nx f).1 (vl (ns.map nx))) default) (nx f) (ns.map nx)) (xneg ((ns.map nx).getD i default))) else (xadd (xyl ((ss.getD i default).2.2.getD (bsK (ss.getD i default) (nx f).1 (vl (ns.map nx))) default) (nx f) (ns.map nx)) (xneg ((ns.map nx).getD i default))) := by
   refine ⟨_, ?_, ?_, rfl⟩
   ·by_cases hs : (xadd (xyl ((ss.getD i default).2.2.getD (bsK (ss.getD i default) (nx f).1 (vl (ns.map nx))) default) (nx f) (ns.map nx)) (xneg ((ns.map nx).getD i default))).1.num.sign < 0
    ·rw [if_pos hs]; show -(xadd (xyl ((ss.getD i default).2.2.getD (bsK (ss.getD i default) (nx f).1 (vl (ns.map nx))) default) (nx f) (ns.map nx)) (xneg ((ns.map nx).getD i default))).1 = _; rw [hdv, absR_neg (by rw [← hdv]; exact eR.1 hs)]
    ·rw [if_neg hs, hdv, absR_pos (fun h => hs (eR.2 (by rw [hdv]; exact h)))]
   ·by_cases hs : (xadd (xyl ((ss.getD i default).2.2.getD (bsK (ss.getD i default) (nx f).1 (vl (ns.map nx))) default) (nx f) (ns.map nx)) (xneg ((ns.map nx).getD i default))).1.num.sign < 0
    ·rw [if_pos hs]; exact hdb.neg
    ·rw [if_neg hs]; exact hdb
  refine eI [((n + 1 + 6 + 10 + 6), { cells := xc (z), sz := 4, elem := (102), st := 0 }), ((0 + 4 + 5 + 2 + 6 + 7 + 9 + 2), { cells := xc (gx), sz := 4, elem := (102), st := 0 }), ((0 + 4 + 5 + 2 + 6 + 4), { cells := xc (nx f), sz := 4, elem := (102), st := 0 }), ((0 + 2), { cells := mc (0, 0), sz := 2, elem := (26), st := 0 })] ⟨(by first | (rw [ez, if_pos h72]; exact g0) | (rw [ez, if_neg h72]; exact g0)), gG, gG, gG, trivial⟩ ?_
  refine Rg 4 J <| aA (aM (l := lvX z) J J gG J J) J ?_
  refine aA (aM (l := lvX gx) J J gG J J) J ?_
  refine aA (aK J (jY z gx (hzb.mono (by decide)) (hgb2.mono (by decide))) dD) J <| aA (eE J J) J <| aW (fun h78 => ?_) (fun h78 => ?_)
  rotate_left
  ·refine Nk [6,9,10,13,18,50,51,52,78] J <| bR J <| bT <| aE <| aI (z := 2) J <| aA (cI (((i + 1 : Nat) : Int)) (aP J J om) om) J <| Um J J <| Wn <| aC <| ⟨⟨i + 1, gx⟩, ⟨J, J, J, J, J, J, J, trivial⟩, ⟨gG, gG, gG, trivial⟩, ⟨om, by rw [gapF_no (fun h => by have h7 := eB.2 (show 0 < z.1 - gx.1 by rw [hz, hg]; grind); omega)]; exact hg, hgb2, om⟩, by show ss.length - (i + 1) < ss.length - i; omega⟩
  refine Nk [6,9,10,13,18,50,51,52,78] J <| bV J <| aI (z := 2) J <| aA (aM (l := lvX z) J J gG J J) J ?_
  refine aZ (cB (cs' := xc z) J J J gG J J J J) ?_
  refine Wn <| aE <| aI (z := 2) J <| aA (cI (((i + 1 : Nat) : Int)) (aP J J om) om) J <| Um J J <| Wn <| aC <| ⟨⟨i + 1, z⟩, ⟨J, J, J, J, J, J, J, trivial⟩, ⟨gG, gG, gG, trivial⟩, ⟨om, by rw [gapF_yes (by have h7 := eB.1 (show 0 < (z.1 - gx.1).num.sign by omega); rw [hz, hg] at h7; grind)]; exact hz, hzb, om⟩, by show ss.length - (i + 1) < ss.length - i; omega⟩
 refine Wn <| aS J <| Rg 3 J <| aA (aM (l := lvX (xadd (xyl ((ss.getD i default).2.2.getD (bsK (ss.getD i default) (nx f).1 (vl (ns.map nx))) default) (nx f) (ns.map nx)) (xneg ((ns.map nx).getD i default)))) J J gG J J) J ?_
 refine aA (aK J (iX (xadd (xyl ((ss.getD i default).2.2.getD (bsK (ss.getD i default) (nx f).1 (vl (ns.map nx))) default) (nx f) (ns.map nx)) (xneg ((ns.map nx).getD i default)))) dD) J <| aZ (cB (cs' := xc (xneg (xadd (xyl ((ss.getD i default).2.2.getD (bsK (ss.getD i default) (nx f).1 (vl (ns.map nx))) default) (nx f) (ns.map nx)) (xneg ((ns.map nx).getD i default))))) J J J gG J J J J) ?_
 refine cO ?_
 obtain ⟨z, hz, hzb, ez⟩ : ∃ z : X, z.1 = absR (bsV (ss.getD i default) (nq f) (vl (ns.map nx)) - (vl (ns.map nx)) i) ∧ Bd 100 z.1 ∧ z = if (xadd (xyl ((ss.getD i default).2.2.getD (bsK (ss.getD i default) (nx f).1 (vl (ns.map nx))) default) (nx f) (ns.map nx)) (xneg ((ns.map nx).getD i default))).1.num.sign < 0 then xneg (xadd (xyl ((ss.getD i default).2.2.getD (bsK (ss.getD i default) (nx f).1 (vl (ns.map nx))) default) (nx f) (ns.map nx)) (xneg ((ns.map nx).getD i default))) else (xadd (xyl ((ss.getD i default).2.2.getD (bsK (ss.getD i default) (nx f).1 (vl (ns.map nx))) default) (nx f) (ns.map nx)) (xneg ((ns.map nx).getD i default))) := by
  refine ⟨_, ?_, ?_, rfl⟩
  ·by_cases hs : (xadd (xyl ((ss.getD i default).2.2.getD (bsK (ss.getD i default) (nx f).1 (vl (ns.map nx))) default) (nx f) (ns.map nx)) (xneg ((ns.map nx).getD i default))).1.num.sign < 0
   ·rw [if_pos hs]; show -(xadd (xyl ((ss.getD i default).2.2.getD (bsK (ss.getD i default) (nx f).1 (vl (ns.map nx))) default) (nx f) (ns.map nx)) (xneg ((ns.map nx).getD i default))).1 = _; rw [hdv, absR_neg (by rw [← hdv]; exact eR.1 hs)]
   ·rw [if_neg hs, hdv, absR_pos (fun h => hs (eR.2 (by rw [hdv]; exact h)))]
  ·by_cases hs : (xadd (xyl ((ss.getD i default).2.2.getD (bsK (ss.getD i default) (nx f).1 (vl (ns.map nx))) default) (nx f) (ns.map nx)) (xneg ((ns.map nx).getD i default))).1.num.sign < 0
   ·rw [if_pos hs]; exact hdb.neg
   ·rw [if_neg hs]; exact hdb
 refine eI [((n + 1 + 6 + 10 + 6), { cells := xc (z), sz := 4, elem := (102), st := 0 }), ((0 + 4 + 5 + 2 + 6 + 7 + 9 + 2), { cells := xc (gx), sz := 4, elem := (102), st := 0 }), ((0 + 4 + 5 + 2 + 6 + 4), { cells := xc (nx f), sz := 4, elem := (102), st := 0 }), ((0 + 2), { cells := mc (0, 0), sz := 2, elem := (26), st := 0 })] ⟨(by first | (rw [ez, if_pos h72]; exact g0) | (rw [ez, if_neg h72]; exact g0)), gG, gG, gG, trivial⟩ ?_
 refine Rg 4 J <| aA (aM (l := lvX z) J J gG J J) J ?_
 refine aA (aM (l := lvX gx) J J gG J J) J ?_
 refine aA (aK J (jY z gx (hzb.mono (by decide)) (hgb2.mono (by decide))) dD) J <| aA (eE J J) J <| aW (fun h78 => ?_) (fun h78 => ?_)
 rotate_left
 ·refine Nk [6,9,10,13,18,50,51,52,78] J <| bR J <| bT <| aE <| aI (z := 2) J <| aA (cI (((i + 1 : Nat) : Int)) (aP J J om) om) J <| Um J J <| Wn <| aC <| ⟨⟨i + 1, gx⟩, ⟨J, J, J, J, J, J, J, trivial⟩, ⟨gG, gG, gG, trivial⟩, ⟨om, by rw [gapF_no (fun h => by have h7 := eB.2 (show 0 < z.1 - gx.1 by rw [hz, hg]; grind); omega)]; exact hg, hgb2, om⟩, by show ss.length - (i + 1) < ss.length - i; omega⟩
 refine Nk [6,9,10,13,18,50,51,52,78] J <| bV J <| aI (z := 2) J <| aA (aM (l := lvX z) J J gG J J) J ?_
 refine aZ (cB (cs' := xc z) J J J gG J J J J) ?_
 refine Wn <| aE <| aI (z := 2) J <| aA (cI (((i + 1 : Nat) : Int)) (aP J J om) om) J <| Um J J <| Wn <| aC <| ⟨⟨i + 1, z⟩, ⟨J, J, J, J, J, J, J, trivial⟩, ⟨gG, gG, gG, trivial⟩, ⟨om, by rw [gapF_yes (by have h7 := eB.1 (show 0 < (z.1 - gx.1).num.sign by omega); rw [hz, hg] at h7; grind)]; exact hz, hzb, om⟩, by show ss.length - (i + 1) < ss.length - i; omega⟩
end Go.Proofs.YtahljdjhhapngaaGreat
namespace Go.Proofs.YtahljdjhhapngaaGreat
open Go.Ab Go.RowKit
theorem nA (k : Nat) (ss : List Go.Ab.ST) (f : NM) (hI : ∀ s, s ∈ ss → IS s) (hf1 : I64 f.1) (hf2 : I64 f.2) : Run Tryz.prog T E0 (.call 18 [lvMo k ss, lvM f] (dbO ss f)) := by
 refine bH Tryz.func18 J J (dK J) <| Rg 5 J <| bA (dT J J) J <| bA (dT J J) J <| Ua J J <| Ua J J <| Ua J J <| Wn <| aB <| Rg 4 J <| aA (aM (l := lvMo k ss) J J gG J J) J ?_
 refine aA (aM (l := lvM f) J J gG J J) J ?_
 refine aA (aK J (iP k 0 ss f [] hI hf1 hf2 (by intro a ha; cases ha) (by decide)) (bJ (by intro c hc; simp only [List.mem_cons, List.not_mem_nil, or_false] at hc; rcases hc with rfl | rfl | rfl; exact iZ; exact iZ; exact (.sl 0 [] (by simp))))) J <| Ua J J <| Wn <| aB <| Rg 2 J <| Um J J <| aA (dS J J) J <| aW (fun h19 => ?_) (fun h19 => ?_)
 ·refine Wn <| aS J <| aB <| Rg 4 J <| Um J J <| Ua J J <| Ua J J <| Ua J J <| Wn <| bB <| post (n := 0) (.inr J) J ?_ dbO_data
  show _ = dbO ss f
  unfold dbO; rw [if_neg h19]; rfl
 refine Wn <| aT J <| aD ?_
 have h0 := Classical.not_not.1 h19
 obtain ⟨hV, hvf, hall, hf0, hf3⟩ := lF h0
 have hV1 := iG hV
 have hn40 := hV1.wt.len
 have hd01 := kY hvf hf0 hf3
 have hD := gA hV hd01.1 hd01.2
 obtain ⟨_, hvr, st, xs, rfl, hst, hxl, hwv, hval, hxb⟩ := values_run k ss (nx f) hV hvf.bd hd01.1 hd01.2
 have hve : vals ss (nq f) = xs.map (·.1) := rM hD (by rw [List.length_map]; exact hxl) hval
 have hvv : vl xs = fn_ (vals ss (nq f)) := by rw [hve]; rfl
 refine Rg 4 J <| aA (aM (l := lvM f) J J gG J J) J ?_
 refine aA (bK (b := lvX (nx f)) (aK J (eK f hf1 hf2 hvf.all3.2.2) dD) J) J <| bA (dY J) J <| aZ (cB (cs' := xc (nx f)) J J J g0 J J J J) <| Nk [2,8] J <| Rg 4 J <| aA (aM (l := lvMo k ss) J J gG J J) J ?_
 refine aA (aM (l := lvX (nx f)) J J gG J J) J ?_
 refine aA (aK J (hvr) dD) J <| Ua J J <| cO ?_
 obtain ⟨oo, hoo⟩ : ∃ oo, (xs.mapM fun x => outN x.1) = oo := ⟨_, rfl⟩
 have hmo : (vals ss (nq f)).mapM outN = oo := by rw [hve, mC]; exact hoo
 refine Rg 7 J <| Um J J <| aA (bK (b := .tup [.sl (kd (oo.getD []).length) ((oo.getD []).map mc), .v (.int .i64 (if oo.isSome = true then 0 else 3))]) (aK J (pO 1 xs om) (bJ (by intro c hc; rw [List.mem_singleton] at hc; subst hc; exact (.sl _ _ fun row hr => bL pD row hr)))) (by rw [← hoo]; rfl)) J <| Um J J <| aA (dF J J) J <| aA (dF J J) J <| Ua J J <| Ua J J <| Wn <| aB <| Rg 2 J <| Um J J <| aA (dS J J) J <| aW (fun h32 => ?_) (fun h32 => ?_)
 ·refine Nk [2,8,9,10,11,32] J <| aS J <| aB <| Rg 4 J <| Um J J <| Ua J J <| Ua J J <| Ua J J <| Wn <| bB <| post (n := 0) (.inr J) J ?_ dbO_data
  show _ = dbO ss f
  cases oo with
  | some o => exact absurd rfl h32
  | none => unfold dbO; rw [if_pos h0, kH hmo]; rfl
 refine Nk [2,8,9,10,11,32] J <| aT J <| aD ?_
 obtain ⟨o, rfl⟩ : ∃ o, oo = some o := by
  cases oo with
  | none => exact absurd (by decide) h32
  | some o => exact ⟨o, rfl⟩
 refine Rg 4 J <| Um J J <| aA (cI ((ss.length : Int)) (aX J J) om) J <| bA (oMk (a := ss.length) (b := ss.length) J J J J om om (by decide) om (by show 8 * ss.length ≤ _; omega) om) J <| Ua J J <| Wn <| aB <| Rg 4 J <| aA (bE J J J J J) J <| aA (aM J J gG J J) J ?_
 refine aA (aX J J) J <| Um J J <| Wn <| aL <| aY (α := Nat) (fun i => [(8, .ptr (0 + 5 + 4 + 2 + 2) 0), (9, .sl 1 (xs.map xc)), (10, .sl (kd o.length) (o.map mc)), (12, .ref (0 + 5 + 4 + 2 + 4 + 4 + 7 + 2 + 2) 1 0 ss.length), (38, .sl k (ss.map stc)), (39, .v (.int .i64 (ss.length : Int))), (40, .v (.int .i64 (i : Int)))]) (fun i => [((0 + 5 + 4 + 2 + 4 + 4 + 7 + 2 + 2), { cells := ((tab ss.length (mixf (fun _ => (0 : Int)) (fun s : Nat => ((bsK (ss.getD s default) (nq f) (fn_ (vals ss (nq f))) : Nat) : Int)) i)).map ic).flatten, sz := 1, elem := (3), st := 0 }), ((0 + 5 + 4 + 2 + 2), { cells := xc (nx f), sz := 4, elem := (102), st := 0 })]) (fun i n => i ≤ ss.length ∧ 32 < n) (fun i => ss.length - i) (0) ⟨J, J, J, J, J, J, J, trivial⟩ ⟨e86 gG (by exact tab_repiF fun s => by rw [mixf_zero]), gG, trivial⟩ ⟨Nat.zero_le _, om⟩ ?_
 rintro i n hF
 change WC _ _ _ _ _ (_ :: _) (_ :: _) n _
 obtain ⟨hi, hn⟩ := hF
 refine Rg 1 J <| aA (bS J J) J <| aW (fun h41 => ?_) (fun h41 => ?_)
 rotate_left
 ·refine Wn <| aT J <| aV <| aQ <| aN J <| Rg 5 J <| Um J J <| Um J J <| Ua J J <| Ua J J <| Ua J J <| Wn <| aO ?_
  have hin : i = ss.length := by omega
  have ee : tab ss.length (mixf (fun _ => (0 : Int)) (fun s : Nat => ((bsK (ss.getD s default) (nq f) (fn_ (vals ss (nq f))) : Nat) : Int)) i) = tab ss.length (fun s : Nat => ((bsK (ss.getD s default) (nq f) (fn_ (vals ss (nq f))) : Nat) : Int)) := tab_eq fun s hs => by unfold mixf; rw [if_pos om]
  rw [show dbO ss f = .tup [.sl (kd o.length) (o.map mc), .sl 1 ((tab ss.length (mixf (fun _ => (0 : Int)) (fun s : Nat => ((bsK (ss.getD s default) (nq f) (fn_ (vals ss (nq f))) : Nat) : Int)) i)).map ic), .v (.int .i64 0)] by unfold dbO; rw [if_pos h0, gM hmo, ee]]
  exact lR (n := 0) [((0 + 5 + 4 + 2 + 4 + 4 + 7 + 2 + 2), { cells := ((tab ss.length (mixf (fun _ => (0 : Int)) (fun s : Nat => ((bsK (ss.getD s default) (nq f) (fn_ (vals ss (nq f))) : Nat) : Int)) i)).map ic).flatten, sz := 1, elem := (3), st := 1 })] (.inr J) J (.data (.sl _ _ (bL dmc)) (.own ((tab ss.length (mixf (fun _ => (0 : Int)) (fun s : Nat => ((bsK (ss.getD s default) (nq f) (fn_ (vals ss (nq f))) : Nat) : Int)) i)).map ic) (by rw [List.length_map, fS]) gG (by show (0 : Nat) ≠ 2; decide) J (by decide) (by simp [keys]) J rows_ic (bL dic1) (.data (.v _) .nil))) (by intro p hp; rw [List.mem_singleton] at hp; subst hp; exact ⟨_, gG, by show (0 : Nat) ≠ 2; decide, rfl⟩)
 refine Wn <| aS J <| aD <| aL ?_
 have hm := bC (us := ss) (i := i) om
 have hcl := hV1.cs _ hm
 refine Rg 6 J <| Um J J <| aA (bQ J J J J J om J) J <| aA (cZ (l := .agg (stc (ss.getD i default))) J J J) J <| bA (dY J) J <| Ua J J <| aZ (cB (cs' := stc (ss.getD i default)) J J J g0 J J J J) <| Wn <| aI (z := 11) J <| Um J J <| Um J J <| aA (aM (l := .agg (stc (ss.getD i default))) J J gG J J) J ?_
 refine aA (aM (l := lvX (nx f)) J J gG J J) J ?_
 refine Um J J <| aA (aK J (rP (ss.getD i default) (nx f) 1 xs ss.length hcl (fun c hc => jI hV hm hc) hvf.bd hxl 268435456 (by decide) (by decide) hxb) (bJ (by intro c hc; simp only [List.mem_cons, List.not_mem_nil, or_false] at hc; rcases hc with rfl | rfl | rfl; exact (.agg _ fun c hc => dstc1 _ c hc); exact iZ; exact (.sl _ _ fun row hr => bL pD row hr)))) J <| Um J J <| aA (dF J J) J <| aA (bK (b := .v (.int .i64 ((fun s : Nat => ((bsK (ss.getD s default) (nq f) (fn_ (vals ss (nq f))) : Nat) : Int)) i))) (dF J J) (congrArg (fun z => LV.v (.int .i64 ((bsK (ss.getD i default) (nq f) z : Nat) : Int))) hvv)) J <| aA (cH (j := i) J J J J om om J) J <| aZ (oStTi J J J gG om J) ?_
 refine Wn <| aE <| Ck [8,9,10,12,38,39,40] J <| aI (z := 2) J <| aA (cI (((i + 1 : Nat) : Int)) (aP J J om) om) J <| Um J J <| Wn <| aC <| ⟨i + 1, ⟨J, J, J, J, J, J, J, trivial⟩, ⟨e86 gG (congrArg (fun z => Ob.mk ((tab ss.length z).map ic).flatten 1 3 0) mixf_set.symm), gG, trivial⟩, ⟨om, om⟩, by show ss.length - (i + 1) < ss.length - i; omega⟩
theorem qfewn_run (m k : Nat) (ss : List Go.Ab.ST) : Run Tryz.prog T E0 (.call 40 [.v (.int .i64 (m : Int)), lvMo k ss] (.v (.bool (fewN m ss)))) := by
 refine bH Tryz.func40 J J (dK J) <| Rg 2 J <| bA (dT J J) J <| Ua J J <| Wn <| aB <| Rg 17 J <| aA (bE J J J J J) J <| aA (aM J J gG J J) J ?_
 refine aA (aX J J) J <| Um J J <| aA (eE J J) J <| aW (fun h13 => ?_) (fun h13 => ?_)
 rotate_left
 ·refine Um J J <| K1 J J <| K1 J J <| K1 J J <| K1 J J <| aA (bM J J) J <| Um J J <| aJ J (bE J J J J J) J <| aJ J (aM J J gG J J) J ?_
  refine aJ J (aX J J) J <| aJ J (eE J J) J <| aW (fun h24 => ?_) (fun h24 => ?_)
  ·refine aA (bM J J) J <| Nk [3,25] J <| aS J <| aB <| Rg 1 J <| Ua J J <| Wn <| bB <| post (n := 0) (.inr J) J ?_ dD
   exact congrArg (fun z => LV.v (.bool z)) (show false = fewN m ss by unfold fewN fewM; rw [decide_eq_false (show ¬ ss.length ≤ 45 by omega), Bool.false_and, Bool.and_false])
  refine aA (bM J J) J <| Nk [3,25] J <| aT J <| aD <| aB ?_
  have h6 : (!(decide (m < ss.length) && decide (ss.length ≤ 40))) = true := by first | (rw [decide_eq_false (show ¬ m < ss.length by omega)]; rfl) | (rw [decide_eq_false (show ¬ ss.length ≤ 40 by omega), Bool.and_false]; rfl)
  refine Rg 4 J <| aA (bE J J J J J) J <| aA (aM J J gG J J) J ?_
  refine aA (aX J J) J <| Um J J <| Wn <| aL <| aY (α := Nat) (fun i => [(27, .sl k (ss.map stc)), (28, .v (.int .i64 (ss.length : Int))), (29, .v (.int .i64 (i : Int)))]) (fun i => []) (fun i n => i ≤ ss.length ∧ (ss.take i).all fewS = true) (fun i => ss.length - i) (0) ⟨J, J, J, trivial⟩ trivial ⟨Nat.zero_le _, by simp⟩ ?_
  rintro i n hF
  change WC _ _ _ _ _ (_ :: _) ([]) n _
  obtain ⟨hi, ha⟩ := hF
  refine Rg 1 J <| aA (bS J J) J <| aW (fun h30 => ?_) (fun h30 => ?_)
  rotate_left
  ·refine Wn <| aT J <| aV <| aQ <| aN J <| Rg 1 J <| Ua J J <| Wn <| aO <| post (n := 0) (.inr J) J ?_ dD
   exact congrArg (fun z => LV.v (.bool z)) (show true = fewN m ss by unfold fewN fewM; rw [h6, decide_eq_true om, lW ha om]; rfl)
  refine Wn <| aS J <| aD <| aL <| Rg 4 J <| aA (bQ J J J J J om J) J <| aA (cZ (l := .agg (stc (ss.getD i default))) J J J) J <| bA (dY J) J <| aZ (cB (cs' := stc (ss.getD i default)) J J J g0 J J J J) <| Wn <| aB <| Rg 4 J <| aA (bE J J J J J) J <| aA (aM J J gG J J) J ?_
  refine aA (aX J J) J <| aA (eE J J) J <| aW (fun h36 => ?_) (fun h36 => ?_)
  ·refine Wn <| aS J <| aB <| Rg 1 J <| Ua J J <| Wn <| bB <| aU <| bP <| aU <| post (n := 0) (.inr J) J ?_ dD
   exact congrArg (fun z => LV.v (.bool z)) (show false = fewN m ss by unfold fewN; rw [qY (i := i) om (fewS_no1 om), Bool.and_false])
  refine Wn <| aT J <| aD <| Rg 4 J <| aA (bE J J J J J) J <| aA (aM J J gG J J) J ?_
  refine aA (aX J J) J <| Um J J <| Nk [27,28,29,38,39,40] J <| bY <| aY (α := Nat) (fun j => [(27, .sl k (ss.map stc)), (28, .v (.int .i64 (ss.length : Int))), (29, .v (.int .i64 (i : Int))), (38, .sl (ss.getD i default).2.1 ((ss.getD i default).2.2.map chc)), (39, .v (.int .i64 ((ss.getD i default).2.2.length : Int))), (40, .v (.int .i64 (j : Int)))]) (fun j => []) (fun j n => j ≤ (ss.getD i default).2.2.length ∧ ((ss.getD i default).2.2.take j).all fewC = true) (fun j => (ss.getD i default).2.2.length - j) (0) ⟨J, J, J, J, J, J, trivial⟩ trivial ⟨Nat.zero_le _, by simp⟩ ?_
  rintro j n hF
  change WC _ _ _ _ _ (_ :: _) ([]) n _
  obtain ⟨hj, hb⟩ := hF
  refine Rg 1 J <| aA (bS J J) J <| aW (fun h41 => ?_) (fun h41 => ?_)
  rotate_left
  ·refine Wn <| aT J <| aV <| aQ <| fA J <| aE <| aI (z := 2) J <| aA (cI (((i + 1 : Nat) : Int)) (aP J J om) om) J <| Um J J <| Wn <| aC <| ⟨i + 1, ⟨J, J, J, trivial⟩, trivial, ⟨om, kB ha om (by unfold fewS; rw [decide_eq_true om, lW hb om]; rfl)⟩, by show ss.length - (i + 1) < ss.length - i; omega⟩
  refine Wn <| aS J <| aD <| aL <| Rg 4 J <| aA (bQ J J J J J om J) J <| aA (cZ (l := lvC ((ss.getD i default).2.2.getD j default)) J J J) J <| bA (dY J) J <| aZ (cB (cs' := chc ((ss.getD i default).2.2.getD j default)) J J J g0 J J J J) <| Wn <| Rg 4 J <| aA (bE J J J J J) J <| aA (aM J J gG J J) J ?_
  refine aA (aX J J) J <| aA (eE J J) J <| aW (fun h47 => ?_) (fun h47 => ?_)
  rotate_left
  ·refine Wn <| bR J <| bT <| aE <| aI (z := 2) J <| aA (cI (((j + 1 : Nat) : Int)) (aP J J om) om) J <| Um J J <| Wn <| aC <| ⟨j + 1, ⟨J, J, J, J, J, J, trivial⟩, trivial, ⟨om, kB hb om (decide_eq_true om)⟩, by show (ss.getD i default).2.2.length - (j + 1) < (ss.getD i default).2.2.length - j; omega⟩
  refine Wn <| bV J <| Rg 1 J <| Ua J J <| Nk [4] J <| aO <| aU <| bP <| eG <| aU <| bP <| aU <| post (n := 0) (.inr J) J ?_ dD
  exact congrArg (fun z => LV.v (.bool z)) (show false = fewN m ss by unfold fewN; rw [qY (i := i) om (fewS_no2 (j := j) om om), Bool.and_false])
 refine Um J J <| aJ J (bE J J J J J) J <| aJ J (aM J J gG J J) J ?_
 refine aJ J (aX J J) J <| aJ J (oLeq J J) J <| aW (fun h18 => ?_) (fun h18 => ?_)
 ·refine aA (bO J J) J <| Um J J <| K1 J J <| K1 J J <| K1 J J <| K1 J J <| aA (bO J J) J <| Nk [3,25] J <| aS J <| aB <| Rg 1 J <| Ua J J <| Wn <| bB <| post (n := 0) (.inr J) J ?_ dD
  exact congrArg (fun z => LV.v (.bool z)) (show false = fewN m ss by unfold fewN; rw [decide_eq_true (show m < ss.length by omega), decide_eq_true (show ss.length ≤ 40 by omega)]; rfl)
 refine aA (bO J J) J <| Um J J <| aJ J (bE J J J J J) J <| aJ J (aM J J gG J J) J ?_
 refine aJ J (aX J J) J <| aJ J (eE J J) J <| aW (fun h24 => ?_) (fun h24 => ?_)
 ·refine aA (bM J J) J <| Nk [3,25] J <| aS J <| aB <| Rg 1 J <| Ua J J <| Wn <| bB <| post (n := 0) (.inr J) J ?_ dD
  exact congrArg (fun z => LV.v (.bool z)) (show false = fewN m ss by unfold fewN fewM; rw [decide_eq_false (show ¬ ss.length ≤ 45 by omega), Bool.false_and, Bool.and_false])
 refine aA (bM J J) J <| Nk [3,25] J <| aT J <| aD <| aB ?_
 have h6 : (!(decide (m < ss.length) && decide (ss.length ≤ 40))) = true := by first | (rw [decide_eq_false (show ¬ m < ss.length by omega)]; rfl) | (rw [decide_eq_false (show ¬ ss.length ≤ 40 by omega), Bool.and_false]; rfl)
 refine Rg 4 J <| aA (bE J J J J J) J <| aA (aM J J gG J J) J ?_
 refine aA (aX J J) J <| Um J J <| Wn <| aL <| aY (α := Nat) (fun i => [(27, .sl k (ss.map stc)), (28, .v (.int .i64 (ss.length : Int))), (29, .v (.int .i64 (i : Int)))]) (fun i => []) (fun i n => i ≤ ss.length ∧ (ss.take i).all fewS = true) (fun i => ss.length - i) (0) ⟨J, J, J, trivial⟩ trivial ⟨Nat.zero_le _, by simp⟩ ?_
 rintro i n hF
 change WC _ _ _ _ _ (_ :: _) ([]) n _
 obtain ⟨hi, ha⟩ := hF
 refine Rg 1 J <| aA (bS J J) J <| aW (fun h30 => ?_) (fun h30 => ?_)
 rotate_left
 ·refine Wn <| aT J <| aV <| aQ <| aN J <| Rg 1 J <| Ua J J <| Wn <| aO <| post (n := 0) (.inr J) J ?_ dD
  exact congrArg (fun z => LV.v (.bool z)) (show true = fewN m ss by unfold fewN fewM; rw [h6, decide_eq_true om, lW ha om]; rfl)
 refine Wn <| aS J <| aD <| aL <| Rg 4 J <| aA (bQ J J J J J om J) J <| aA (cZ (l := .agg (stc (ss.getD i default))) J J J) J <| bA (dY J) J <| aZ (cB (cs' := stc (ss.getD i default)) J J J g0 J J J J) <| Wn <| aB <| Rg 4 J <| aA (bE J J J J J) J <| aA (aM J J gG J J) J ?_
 refine aA (aX J J) J <| aA (eE J J) J <| aW (fun h36 => ?_) (fun h36 => ?_)
 ·refine Wn <| aS J <| aB <| Rg 1 J <| Ua J J <| Wn <| bB <| aU <| bP <| aU <| post (n := 0) (.inr J) J ?_ dD
  exact congrArg (fun z => LV.v (.bool z)) (show false = fewN m ss by unfold fewN; rw [qY (i := i) om (fewS_no1 om), Bool.and_false])
 refine Wn <| aT J <| aD <| Rg 4 J <| aA (bE J J J J J) J <| aA (aM J J gG J J) J ?_
 refine aA (aX J J) J <| Um J J <| Nk [27,28,29,38,39,40] J <| bY <| aY (α := Nat) (fun j => [(27, .sl k (ss.map stc)), (28, .v (.int .i64 (ss.length : Int))), (29, .v (.int .i64 (i : Int))), (38, .sl (ss.getD i default).2.1 ((ss.getD i default).2.2.map chc)), (39, .v (.int .i64 ((ss.getD i default).2.2.length : Int))), (40, .v (.int .i64 (j : Int)))]) (fun j => []) (fun j n => j ≤ (ss.getD i default).2.2.length ∧ ((ss.getD i default).2.2.take j).all fewC = true) (fun j => (ss.getD i default).2.2.length - j) (0) ⟨J, J, J, J, J, J, trivial⟩ trivial ⟨Nat.zero_le _, by simp⟩ ?_
 rintro j n hF
 change WC _ _ _ _ _ (_ :: _) ([]) n _
 obtain ⟨hj, hb⟩ := hF
 refine Rg 1 J <| aA (bS J J) J <| aW (fun h41 => ?_) (fun h41 => ?_)
 rotate_left
 ·refine Wn <| aT J <| aV <| aQ <| fA J <| aE <| aI (z := 2) J <| aA (cI (((i + 1 : Nat) : Int)) (aP J J om) om) J <| Um J J <| Wn <| aC <| ⟨i + 1, ⟨J, J, J, trivial⟩, trivial, ⟨om, kB ha om (by unfold fewS; rw [decide_eq_true om, lW hb om]; rfl)⟩, by show ss.length - (i + 1) < ss.length - i; omega⟩
 refine Wn <| aS J <| aD <| aL <| Rg 4 J <| aA (bQ J J J J J om J) J <| aA (cZ (l := lvC ((ss.getD i default).2.2.getD j default)) J J J) J <| bA (dY J) J <| aZ (cB (cs' := chc ((ss.getD i default).2.2.getD j default)) J J J g0 J J J J) <| Wn <| Rg 4 J <| aA (bE J J J J J) J <| aA (aM J J gG J J) J ?_
 refine aA (aX J J) J <| aA (eE J J) J <| aW (fun h47 => ?_) (fun h47 => ?_)
 rotate_left
 ·refine Wn <| bR J <| bT <| aE <| aI (z := 2) J <| aA (cI (((j + 1 : Nat) : Int)) (aP J J om) om) J <| Um J J <| Wn <| aC <| ⟨j + 1, ⟨J, J, J, J, J, J, trivial⟩, trivial, ⟨om, kB hb om (decide_eq_true om)⟩, by show (ss.getD i default).2.2.length - (j + 1) < (ss.getD i default).2.2.length - j; omega⟩
 refine Wn <| bV J <| Rg 1 J <| Ua J J <| Nk [4] J <| aO <| aU <| bP <| eG <| aU <| bP <| aU <| post (n := 0) (.inr J) J ?_ dD
 exact congrArg (fun z => LV.v (.bool z)) (show false = fewN m ss by unfold fewN; rw [qY (i := i) om (fewS_no2 (j := j) om om), Bool.and_false])
theorem dfew_run (k kl kn : Nat) (ss : List Go.Ab.ST) (l : List Int) (ns : List NM) : Run Tryz.prog T E0 (.call 10 [lvMo k ss, .sl kl (l.map ic), .sl kn (ns.map mc)] (.v (.bool (few6 ss && decide (l.length ≤ 60) && decide (ns.length ≤ 60))))) := by
 refine bH Tryz.func10 J J (dK J) <| Rg 2 J <| bA (dT J J) J <| Ua J J <| Wn <| Rg 13 J <| aA (aM (l := lvMo k ss) J J gG J J) J ?_
 refine aA (bK (b := .v (.bool (few6 ss))) (aK J (qfewn_run 6 k ss) dD) J) J <| eZ (fun h8 => ?_) (fun h8 => ?_)
 rotate_left
 ·refine Um J J <| K1 J J <| K1 J J <| K1 J J <| aA (bM J J) J <| Um J J <| K1 J J <| K1 J J <| K1 J J <| aA (bM J J) J <| Ua J J <| Nk [6] J <| aO <| post (n := 0) (.inr J) J ?_ dD
  exact congrArg (fun z => LV.v (.bool z)) (show false = (few6 ss && decide (l.length ≤ 60) && decide (ns.length ≤ 60)) by rw [h8]; rfl)
 refine Um J J <| aJ J (dG J) J <| aJ J (aX J J) J <| aJ J (oLeq J J) J <| aW (fun h12 => ?_) (fun h12 => ?_)
 ·refine aA (bO J J) J <| Um J J <| aJ J (dG J) J <| aJ J (aX J J) J <| aJ J (oLeq J J) J <| aA (bO J J) J <| Ua J J <| Nk [6] J <| aO <| post (n := 0) (.inr J) J ?_ dD
  exact congrArg (fun z => LV.v (.bool z)) (by first | (rw [h8, decide_eq_true (show l.length ≤ 60 by omega), decide_eq_true (show ns.length ≤ 60 by omega)]; rfl) | (rw [h8, decide_eq_true (show l.length ≤ 60 by omega), decide_eq_false (show ¬ ns.length ≤ 60 by omega)]; rfl) | (rw [h8, decide_eq_true (show l.length ≤ 60 by omega)]; simp; omega))
 refine aA (bO J J) J <| Um J J <| K1 J J <| K1 J J <| K1 J J <| aA (bM J J) J <| Ua J J <| Nk [6] J <| aO <| post (n := 0) (.inr J) J ?_ dD
 exact congrArg (fun z => LV.v (.bool z)) (show false = (few6 ss && decide (l.length ≤ 60) && decide (ns.length ≤ 60)) by rw [decide_eq_false (show ¬ l.length ≤ 60 by omega), Bool.and_false]; rfl)
theorem gZ (a b : Int) : Run Tryz.prog T E0 (.call 50 [.v (.int .i64 a), .v (.int .i64 b)] (lvM (a, b))) := by
 refine bH Tryz.func50 J J (dK J) <| Rg 1 J <| bA (dY J) J <| Wn <| Rg 4 J <| Um J J <| Um J J <| aA (gD (cs := [_, _]) J J J J J) J <| aZ (cB (cs' := [_, _]) J J J J J J J J) <| Wn <| aO <| post (n := 0) (.inr J) J ?_ dD
 rfl
theorem leq_run (k k' : Nat) (l l' : List Int) (ll : l.length < 1099511627776) : Run Tryz.prog T E0 (.call 20 [.sl k (l.map ic), .sl k' (l'.map ic)] (.v (.bool (decide (l = l'))))) := by
 refine bH Tryz.func20 J J (dK J) <| Rg 1 J <| Ua J J <| Wn <| aB <| Rg 5 J <| Um J J <| aA (aX J J) J <| Um J J <| aA (aX J J) J <| aA (dS J J) J <| aW (fun h10 => ?_) (fun h10 => ?_)
 ·refine Wn <| aS J <| aB <| Rg 1 J <| Ua J J <| Wn <| bB <| post (n := 0) (.inr J) J ?_ dD
  exact congrArg (fun z => LV.v (.bool z)) (show false = decide (l = l') from (decide_eq_false fun h => h10 (by rw [h])).symm)
 refine Wn <| aT J <| aD <| aB <| Rg 3 J <| Um J J <| aA (aX J J) J <| Um J J <| Wn <| aL <| aY (α := Nat) (fun i => [(0, .sl k (l.map ic)), (1, .sl k' (l'.map ic)), (12, .v (.int .i64 (l.length : Int))), (13, .v (.int .i64 (i : Int)))]) (fun i => []) (fun i n => i ≤ l.length ∧ l.take i = l'.take i) (fun i => l.length - i) (0) ⟨J, J, J, J, trivial⟩ trivial ⟨Nat.zero_le _, by simp⟩ ?_
 rintro i n hF
 change WC _ _ _ _ _ (_ :: _) ([]) n _
 obtain ⟨hi, ha⟩ := hF
 refine Rg 1 J <| aA (bS J J) J <| aW (fun h14 => ?_) (fun h14 => ?_)
 rotate_left
 ·refine Wn <| aT J <| aV <| aQ <| aN J <| Rg 1 J <| Ua J J <| Wn <| aO <| post (n := 0) (.inr J) J ?_ dD
  exact congrArg (fun z => LV.v (.bool z)) (show true = decide (l = l') from (decide_eq_true (by rw [List.take_of_length_le om, List.take_of_length_le om] at ha; exact ha)).symm)
 refine Wn <| aS J <| aD <| aL <| Rg 2 J <| Um J J <| Ua J J <| Wn <| bI (z := 9) J kR <| Dm J J <| Dm J J <| aF (bQ (j := i) J J J J om om J) J <| aF (cZ J J J) J <| Dm J J <| Dm J J <| aF (bQ (j := i) J J J J om om J) J <| aF (cZ J J J) J <| aF (dS J J) J <| oX (fun h24 => ?_) (fun h24 => ?_)
 rotate_left
 ·refine bD (aR kR) J <| Ck [0,1,12,13,24] J <| bR J <| bT <| aE <| aI (z := 2) J <| aA (cI (((i + 1 : Nat) : Int)) (aP J J om) om) J <| Um J J <| Wn <| aC <| ⟨i + 1, ⟨J, J, J, J, trivial⟩, trivial, ⟨om, eqL_take ha om om om⟩, by show l.length - (i + 1) < l.length - i; omega⟩
 refine bD (aR kR) J <| Ck [0,1,12,13,24] J <| bV J <| Rg 1 J <| Ua J J <| Wn <| aO <| aU <| bP <| aU <| post (n := 0) (.inr J) J ?_ dD
 exact congrArg (fun z => LV.v (.bool z)) (show false = decide (l = l') from (decide_eq_false (eqL_no (i := i) om om om)).symm)
theorem jQ  : Run Tryz.prog T E0 (.call 12 [] (.v (.bool true))) := by
 refine bH Tryz.func12 J J (dK J) <| Rg 1 J <| Ua J J <| Wn <| Rg 14 J <| aA (aK J (gZ 1 1) dD) J <| aA (aK J (gZ 1 1) dD) J <| aA (gD (cs := [_, _, _]) J J J J J) J <| aA (cU (cs := [_, _, _]) (rows := [[_, _, _]]) J J (by decide) J J J) J <| aA (gD (cs := [_, _, _]) J J J J J) J <| aA (aK J (gZ 2 1) dD) J <| aA (aK J (gZ 1 1) dD) J <| aA (gD (cs := [_, _, _]) J J J J J) J <| aA (cU (cs := [_, _, _]) (rows := [[_, _, _]]) J J (by decide) J J J) J <| aA (gD (cs := [_, _, _]) J J J J J) J <| aA (cU (cs := [_, _, _, _, _, _]) (rows := [[_, _, _], [_, _, _]]) J J (by decide) J J J) J <| aA (gD (cs := [_, _, _]) J J J J J) J <| bA (dY J) J <| aZ (cB (cs' := [_, _, _]) J J J J J J J J) <| Wn <| bI (z := 12) J kR <| aF (aM (l := .agg (stc ((((0 : Int), (0 : Int)), (2, [((1, 1), (2, [(0, (1, 1))])), ((2, 1), (2, [(0, (1, 1))]))])) : Go.Ab.ST))) J J gG J J) J ?_
 refine aF (cU (cs := [_, _, _]) (rows := [[_, _, _]]) J J (by decide) J J J) J <| aF (gD (cs := [_]) J J J J J) J <| aF (aK J (gZ 1 2) dD) J <| aF (bK (b := .tup [.sl 1 [mc (4, 1)], .sl 1 [ic 1], .v (.int .i64 0)]) (aK J (nA 2 (awk 0) (1, 2) (awk_is 0 I64_0) (by unfold I64; decide) (by unfold I64; decide)) (bJ (by intro c hc; simp only [List.mem_cons, List.not_mem_nil, or_false] at hc; rcases hc with rfl | rfl; exact (awk_data 0); exact iZ))) awk_b0) J <| Dm J J <| aF (dF J J) J <| aF (dF J J) J <| aF (dF J J) J <| aF (iE J) J <| aF (iE J) J <| aF (iE J) J <| bD (aR kR) J <| Ck [1,2,3,4] J <| Rg 2 J <| aA (bE J J J J J) J <| aZ (cB (cs' := [_, _, _]) J J J J J J J J) <| Wn <| bI (z := 12) J kR <| aF (aM (l := .agg (stc ((((1 : Int), (0 : Int)), (2, [((1, 1), (2, [(0, (1, 1))])), ((2, 1), (2, [(0, (1, 1))]))])) : Go.Ab.ST))) J J gG J J) J ?_
 refine aF (cU (cs := [_, _, _]) (rows := [[_, _, _]]) J J (by decide) J J J) J <| aF (gD (cs := [_]) J J J J J) J <| aF (aK J (gZ 1 2) dD) J <| aF (bK (b := .tup [.sl 1 [mc (2, 1)], .sl 1 [ic 0], .v (.int .i64 0)]) (aK J (nA 2 (awk 1) (1, 2) (awk_is 1 I64_1) (by unfold I64; decide) (by unfold I64; decide)) (bJ (by intro c hc; simp only [List.mem_cons, List.not_mem_nil, or_false] at hc; rcases hc with rfl | rfl; exact (awk_data 1); exact iZ))) awk_b1) J <| Dm J J <| aF (dF J J) J <| aF (dF J J) J <| aF (dF J J) J <| aF (iE J) J <| aF (iE J) J <| aF (iE J) J <| bD (aR kR) J <| Ck [2,3,4,5,6,7] J <| Rg 29 J <| Um J J <| aA (eC J J) J <| aW (fun h40 => ?_) (fun h40 => ?_)
 rotate_left
 ·exact absurd J h40
 refine Um J J <| aJ J (dG J) J <| aJ J (aK J (gZ 4 1) dD) J <| aJ J (cU (cs := [_, _]) (rows := [[_, _]]) J J (by decide) J J J) J <| aJ J (aK J (pR 1 2 [(4, 1)] (by decide)) (bJ (by intro c hc; simp only [List.mem_cons, List.not_mem_nil, or_false] at hc; rcases hc with rfl | rfl; exact (mF 1 (4, 1)); exact (mF 2 (4, 1))))) J <| aA (bO J J) J <| Um J J <| aJ J (dG J) J <| aJ J (cU (cs := [_]) (rows := [[_]]) J J (by decide) J J J) J <| aJ J (bK (b := .v (.bool true)) (aK J (leq_run 1 2 [1] [1] (by decide)) (bJ (by intro c hc; simp only [List.mem_cons, List.not_mem_nil, or_false] at hc; rcases hc with rfl | rfl; exact (mB 1 1); exact (mB 2 1)))) J) J <| aA (bO J J) J <| Um J J <| aJ J (dG J) J <| aJ J (eC J J) J <| aW (fun h54 => ?_) (fun h54 => ?_)
 rotate_left
 ·exact absurd J h54
 refine aA (bO J J) J <| Um J J <| aJ J (dG J) J <| aJ J (aK J (gZ 2 1) dD) J <| aJ J (cU (cs := [_, _]) (rows := [[_, _]]) J J (by decide) J J J) J <| aJ J (aK J (pR 1 2 [(2, 1)] (by decide)) (bJ (by intro c hc; simp only [List.mem_cons, List.not_mem_nil, or_false] at hc; rcases hc with rfl | rfl; exact (mF 1 (2, 1)); exact (mF 2 (2, 1))))) J <| aA (bO J J) J <| Um J J <| aJ J (dG J) J <| aJ J (cU (cs := [_]) (rows := [[_]]) J J (by decide) J J J) J <| aJ J (bK (b := .v (.bool true)) (aK J (leq_run 1 2 [0] [0] (by decide)) (bJ (by intro c hc; simp only [List.mem_cons, List.not_mem_nil, or_false] at hc; rcases hc with rfl | rfl; exact (mB 1 0); exact (mB 2 0)))) J) J <| aA (bO J J) J <| Ua J J <| Nk [0] J <| aO <| post (n := 0) (.inr J) J ?_ dD
 rfl
end Go.Proofs.YtahljdjhhapngaaGreat
namespace Go.Proofs.YtahljdjhhapngaaGreat
open Go.Ab Go.RowKit
theorem qstrat_run (k ks : Nat) (ss : List Go.Ab.ST) (st : List Int) (hll : st.length < 1099511627776) : Run Tryz.prog T E0 (.call 35 [lvMo k ss, .sl ks (st.map ic)] (.v (.bool (vSt ss st)))) := by
 refine bH Tryz.func35 J J (dK J) <| Rg 2 J <| bA (dT J J) J <| Ua J J <| Wn <| aB <| Rg 6 J <| Um J J <| aA (aX J J) J <| aA (bE J J J J J) J <| aA (aM J J gG J J) J ?_
 refine aA (aX J J) J <| aA (dS J J) J <| aW (fun h12 => ?_) (fun h12 => ?_)
 ·refine Wn <| aS J <| aB <| Rg 1 J <| Ua J J <| Wn <| bB <| post (n := 0) (.inr J) J ?_ dD
  exact congrArg (fun z => LV.v (.bool z)) (show false = vSt ss st by unfold vSt; rw [decide_eq_false om]; rfl)
 refine Wn <| aT J <| aD <| aB <| Rg 3 J <| Um J J <| aA (aX J J) J <| Um J J <| Wn <| aL <| aY (α := Nat) (fun i => [(2, .ptr 0 0), (13, .sl ks (st.map ic)), (14, .v (.int .i64 (st.length : Int))), (15, .v (.int .i64 (i : Int)))]) (fun i => [(0, { cells := [.sl k (ss.map stc)], sz := 1, elem := (24), st := 0 })]) (fun i n => i ≤ st.length ∧ (∀ j, j < i → (decide (0 ≤ st.getD j default) && decide (st.getD j default < ((ss.getD j default).2.2.length : Int))) = true) ∧ 0 < n) (fun i => st.length - i) (0) ⟨J, J, J, J, trivial⟩ ⟨(by repeat (first | exact g0 | refine g1 (by decide) ?_)), trivial⟩ ⟨Nat.zero_le _, fun j hj => absurd hj om, om⟩ ?_
 rintro i n hF
 change WC _ _ _ _ _ (_ :: _) (_ :: _) n _
 obtain ⟨hi, hok, hn⟩ := hF
 refine Rg 1 J <| aA (bS J J) J <| aW (fun h16 => ?_) (fun h16 => ?_)
 rotate_left
 ·refine Wn <| aT J <| aV <| aQ <| aN J <| Rg 1 J <| Ua J J <| Wn <| aO <| post (n := 0) (.inr J) J ?_ dD
  exact congrArg (fun z => LV.v (.bool z)) (show true = vSt ss st by unfold vSt; rw [decide_eq_true om, nE hok om]; rfl)
 refine Wn <| aS J <| aD <| aL <| Rg 5 J <| Um J J <| aA (bQ J J J J J om J) J <| aA (cZ J J J) J <| Ua J J <| Ua J J <| Wn <| Rg 13 J <| Um J J <| aA (bS J J) J <| aW (fun h21 => ?_) (fun h21 => ?_)
 ·refine Um J J <| K1 J J <| K1 J J <| K1 J J <| K1 J J <| K1 J J <| K1 J J <| K1 J J <| K1 J J <| K1 J J <| aA (bO J J) J <| Nk [2,13,14,15,23,24,25,26,27,28,29,30,31,32] J <| bV J <| Rg 1 J <| Ua J J <| Nk [4] J <| aO <| aU <| bP <| aU <| post (n := 0) (.inr J) J ?_ dD
  exact congrArg (fun z => LV.v (.bool z)) (show false = vSt ss st by unfold vSt; rw [fN (i := i) om (by rw [decide_eq_false om]; rfl), Bool.and_false])
 refine Um J J <| aJ J (dG J) J <| aJ J (bE J J J J J) J <| aJ J (aM J J gG J J) J ?_
 refine aJ J (dG J) J <| aJ J (bQ (j := i) J J J J om om J) J <| aJ J (oFa J J J J J) J <| aJ J (cZ J J J) J <| aJ J (aX J J) J <| aJ J (iA J J) J <| aW (fun h31 => ?_) (fun h31 => ?_)
 ·refine aA (bM J J) J <| Nk [2,13,14,15,23,24,25,26,27,28,29,30,31,32] J <| bV J <| Rg 1 J <| Ua J J <| Nk [4] J <| aO <| aU <| bP <| aU <| post (n := 0) (.inr J) J ?_ dD
  exact congrArg (fun z => LV.v (.bool z)) (show false = vSt ss st by unfold vSt; rw [fN (i := i) om (by rw [decide_eq_false (show ¬ (st.getD i default) < _ by omega), Bool.and_false]), Bool.and_false])
 refine aA (bM J J) J <| Nk [2,13,14,15,23,24,25,26,27,28,29,30,31,32] J <| bR J <| bT <| aE <| aI (z := 2) J <| aA (cI (((i + 1 : Nat) : Int)) (aP J J om) om) J <| Um J J <| Wn <| aC <| ⟨i + 1, ⟨J, J, J, J, trivial⟩, ⟨gG, trivial⟩, ⟨om, fun j hj => ?_, om⟩, by show st.length - (i + 1) < st.length - i; omega⟩
 by_cases e : j = i
 ·rw [e, decide_eq_true om, decide_eq_true om]; rfl
 ·exact hok j om
theorem mstrat_run (k ks : Nat) (ss : List Go.Ab.ST) (st : List Int) (hll : st.length < 1099511627776) : Run Tryz.prog T E0 (.call 70 [lvMo k ss, .sl ks (st.map ic)] (.v (.bool (vSt ss st)))) := by
 refine bH Tryz.func70 J J (dK J) <| Rg 2 J <| bA (dT J J) J <| Ua J J <| Wn <| aB <| Rg 6 J <| Um J J <| aA (aX J J) J <| aA (bE J J J J J) J <| aA (aM J J gG J J) J ?_
 refine aA (aX J J) J <| aA (dS J J) J <| aW (fun h12 => ?_) (fun h12 => ?_)
 ·refine Wn <| aS J <| aB <| Rg 1 J <| Ua J J <| Wn <| bB <| post (n := 0) (.inr J) J ?_ dD
  exact congrArg (fun z => LV.v (.bool z)) (show false = vSt ss st by unfold vSt; rw [decide_eq_false om]; rfl)
 refine Wn <| aT J <| aD <| aB <| Rg 3 J <| Um J J <| aA (aX J J) J <| Um J J <| Wn <| aL <| aY (α := Nat) (fun i => [(2, .ptr 0 0), (13, .sl ks (st.map ic)), (14, .v (.int .i64 (st.length : Int))), (15, .v (.int .i64 (i : Int)))]) (fun i => [(0, { cells := [.sl k (ss.map stc)], sz := 1, elem := (24), st := 0 })]) (fun i n => i ≤ st.length ∧ (∀ j, j < i → (decide (0 ≤ st.getD j default) && decide (st.getD j default < ((ss.getD j default).2.2.length : Int))) = true) ∧ 0 < n) (fun i => st.length - i) (0) ⟨J, J, J, J, trivial⟩ ⟨(by repeat (first | exact g0 | refine g1 (by decide) ?_)), trivial⟩ ⟨Nat.zero_le _, fun j hj => absurd hj om, om⟩ ?_
 rintro i n hF
 change WC _ _ _ _ _ (_ :: _) (_ :: _) n _
 obtain ⟨hi, hok, hn⟩ := hF
 refine Rg 1 J <| aA (bS J J) J <| aW (fun h16 => ?_) (fun h16 => ?_)
 rotate_left
 ·refine Wn <| aT J <| aV <| aQ <| aN J <| Rg 1 J <| Ua J J <| Wn <| aO <| post (n := 0) (.inr J) J ?_ dD
  exact congrArg (fun z => LV.v (.bool z)) (show true = vSt ss st by unfold vSt; rw [decide_eq_true om, nE hok om]; rfl)
 refine Wn <| aS J <| aD <| aL <| Rg 5 J <| Um J J <| aA (bQ J J J J J om J) J <| aA (cZ J J J) J <| Ua J J <| Ua J J <| Wn <| Rg 13 J <| Um J J <| aA (bS J J) J <| aW (fun h21 => ?_) (fun h21 => ?_)
 ·refine Um J J <| K1 J J <| K1 J J <| K1 J J <| K1 J J <| K1 J J <| K1 J J <| K1 J J <| K1 J J <| K1 J J <| aA (bO J J) J <| Nk [2,13,14,15,23,24,25,26,27,28,29,30,31,32] J <| bV J <| Rg 1 J <| Ua J J <| Nk [4] J <| aO <| aU <| bP <| aU <| post (n := 0) (.inr J) J ?_ dD
  exact congrArg (fun z => LV.v (.bool z)) (show false = vSt ss st by unfold vSt; rw [fN (i := i) om (by rw [decide_eq_false om]; rfl), Bool.and_false])
 refine Um J J <| aJ J (dG J) J <| aJ J (bE J J J J J) J <| aJ J (aM J J gG J J) J ?_
 refine aJ J (dG J) J <| aJ J (bQ (j := i) J J J J om om J) J <| aJ J (oFa J J J J J) J <| aJ J (cZ J J J) J <| aJ J (aX J J) J <| aJ J (iA J J) J <| aW (fun h31 => ?_) (fun h31 => ?_)
 ·refine aA (bM J J) J <| Nk [2,13,14,15,23,24,25,26,27,28,29,30,31,32] J <| bV J <| Rg 1 J <| Ua J J <| Nk [4] J <| aO <| aU <| bP <| aU <| post (n := 0) (.inr J) J ?_ dD
  exact congrArg (fun z => LV.v (.bool z)) (show false = vSt ss st by unfold vSt; rw [fN (i := i) om (by rw [decide_eq_false (show ¬ (st.getD i default) < _ by omega), Bool.and_false]), Bool.and_false])
 refine aA (bM J J) J <| Nk [2,13,14,15,23,24,25,26,27,28,29,30,31,32] J <| bR J <| bT <| aE <| aI (z := 2) J <| aA (cI (((i + 1 : Nat) : Int)) (aP J J om) om) J <| Um J J <| Wn <| aC <| ⟨i + 1, ⟨J, J, J, J, trivial⟩, ⟨gG, trivial⟩, ⟨om, fun j hj => ?_, om⟩, by show st.length - (i + 1) < st.length - i; omega⟩
 by_cases e : j = i
 ·rw [e, decide_eq_true om, decide_eq_true om]; rfl
 ·exact hok j om
theorem dof_run (k ks : Nat) (ss : List Go.Ab.ST) (f : NM) (st : List Int) (hI : ∀ s, s ∈ ss → IS s) (hf1 : I64 f.1) (hf2 : I64 f.2) (hll : st.length < 1099511627776) : Run Tryz.prog T E0 (.call 38 [lvMo k ss, lvM f, .sl ks (st.map ic)] (ofO ss f st)) := by
 refine bH Tryz.func38 J J (dK J) <| Rg 4 J <| bA (dT J J) J <| bA (dT J J) J <| Ua J J <| Ua J J <| Wn <| Rg 4 J <| aA (aM (l := lvMo k ss) J J gG J J) J ?_
 refine aA (aM (l := lvM f) J J gG J J) J ?_
 refine aA (aK J (iP k 0 ss f [] hI hf1 hf2 (by intro a ha; cases ha) (by decide)) (bJ (by intro c hc; simp only [List.mem_cons, List.not_mem_nil, or_false] at hc; rcases hc with rfl | rfl | rfl; exact iZ; exact iZ; exact (.sl 0 [] (by simp))))) J <| Ua J J <| Wn <| aB <| Rg 8 J <| Um J J <| aA (eC J J) J <| aW (fun h13 => ?_) (fun h13 => ?_)
 ·refine Um J J <| K1 J J <| K1 J J <| K1 J J <| K1 J J <| aA (bO J J) J <| Nk [2,3,4,8,19] J <| aS J <| aB <| Rg 2 J <| Ua J J <| Ua J J <| Wn <| bB <| post (n := 0) (.inr J) J ?_ oI
  show _ = ofO ss f st
  unfold ofO; rw [if_pos (.inl om)]; rfl
 refine Um J J <| aJ J (aM (l := lvMo k ss) J J gG J J) J ?_
 refine aJ J (dG J) J <| aJ J (aK J (mstrat_run k ks ss st hll) (bJ (by intro c hc; simp only [List.mem_cons, List.not_mem_nil, or_false] at hc; rcases hc with rfl | rfl; exact iZ; exact (.sl _ _ (bL dic1))))) J <| eZ (fun h17 => ?_) (fun h17 => ?_)
 rotate_left
 ·refine aJ J (gE J) J <| aA (bM J J) J <| Nk [2,3,4,8,19] J <| aS J <| aB <| Rg 2 J <| Ua J J <| Ua J J <| Wn <| bB <| post (n := 0) (.inr J) J ?_ oI
  show _ = ofO ss f st
  unfold ofO; rw [if_pos (.inr h17)]; rfl
 refine aJ J (gE J) J <| aA (bM J J) J <| Nk [2,3,4,8,19] J <| aT J <| aD <| aB <| Rg 2 J <| Um J J <| aA (dS J J) J <| aW (fun h21 => ?_) (fun h21 => ?_)
 ·refine Wn <| aS J <| aB <| Rg 3 J <| Um J J <| Ua J J <| Ua J J <| Wn <| bB <| post (n := 0) (.inr J) J ?_ oI
  show _ = ofO ss f st
  unfold ofO; rw [if_neg (by rintro (h | h); exact h13 h; rw [h17] at h; cases h), if_neg h21]; rfl
 refine Wn <| aT J <| aD ?_
 have h0 := Classical.not_not.1 h21
 obtain ⟨hV, hvf, hall, hf0, hf3⟩ := lF h0
 have hV1 := iG hV
 have hn40 := hV1.wt.len
 have hd01 := kY hvf hf0 hf3
 have hD := gA hV hd01.1 hd01.2
 obtain ⟨_, hwr, xs, rfl, hxl, hwv, hxb⟩ := pZ k ks ss (nx f) st hV hvf.bd hd01.1 hd01.2 h17
 have hwe : wor ss (nq f) st = xs.map (·.1) := wor_eq hD h17 (by rw [List.length_map]; exact hxl) hwv
 obtain ⟨oo, hoo⟩ : ∃ oo, (xs.mapM fun x => outN x.1) = oo := ⟨_, rfl⟩
 have hmo : (wor ss (nq f) st).mapM outN = oo := by rw [hwe, mC]; exact hoo
 refine bI (z := 10) J kR <| aF (aM (l := lvMo k ss) J J gG J J) J ?_
 refine aF (aM (l := lvM f) J J gG J J) J ?_
 refine aF (bK (b := lvX (nx f)) (aK J (eK f hf1 hf2 hvf.all3.2.2) dD) J) J <| Dm J J <| aF (aK J (hwr) (bJ (by intro c hc; simp only [List.mem_cons, List.not_mem_nil, or_false] at hc; rcases hc with rfl | rfl | rfl; exact iZ; exact iZ; exact (.sl _ _ (bL dic1))))) J <| aF (bK (b := .tup [.sl (kd (oo.getD []).length) ((oo.getD []).map mc), .v (.int .i64 (if oo.isSome = true then 0 else 3))]) (aK J (pO 1 xs om) (bJ (by intro c hc; rw [List.mem_singleton] at hc; subst hc; exact (.sl _ _ fun row hr => bL pD row hr)))) (by rw [← hoo]; rfl)) J <| aF (dF J J) J <| aF (dF J J) J <| aF (iE J) J <| aF (iE J) J <| bD (aR kR) J <| Ck [6,7] J <| aO <| post (n := 0) (.inr J) J ?_ oI
 show _ = ofO ss f st
 unfold ofO; rw [if_neg (show ¬ (eD ss f [] = 1 ∨ vSt ss st = false) from fun h => by rw [h17] at h; simp [h13] at h), if_pos h0, hmo]; rfl
end Go.Proofs.YtahljdjhhapngaaGreat
namespace Go.Proofs.YtahljdjhhapngaaGreat
open Go.Ab Go.RowKit
theorem worth_ok (ss : List Go.Ab.ST) (d : Rat) (st : List Int) (hV : VMo ss = true) (hd : Bd 2 d) (hd0 : 0 < d) (hd1 : d < 1) (hst : vSt ss st = true) : (wor ss d st).length = ss.length ∧ WV ss d st (fn_ (wor ss d st)) ∧ ∀ x, x ∈ wor ss d st → Bd 268435456 x := by
 obtain ⟨_, _, xs, _, hl, hw, hb⟩ := pZ 1 1 ss (d, false) st hV hd hd0 hd1 hst
 have hl2 : (xs.map (·.1)).length = ss.length := by rw [List.length_map]; exact hl
 rw [wor_eq (gA hV hd0 hd1) hst hl2 hw]
 exact ⟨hl2, hw, fun x hx => by obtain ⟨y, hy, rfl⟩ := List.mem_map.1 hx; exact hb y hy⟩
theorem vals_ok (ss : List Go.Ab.ST) (d : Rat) (hV : VMo ss = true) (hd : Bd 2 d) (hd0 : 0 < d) (hd1 : d < 1) : (vals ss d).length = ss.length ∧ Val ss d (fn_ (vals ss d)) ∧ (∀ x, x ∈ vals ss d → Bd 268435456 x) ∧ ∃ st, vSt ss st = true ∧ wor ss d st = vals ss d := by
 obtain ⟨_, _, st, xs, _, hst, hl, hw, hv, hb⟩ := values_run 1 ss (d, false) hV hd hd0 hd1
 have hl2 : (xs.map (·.1)).length = ss.length := by rw [List.length_map]; exact hl
 have hD := gA hV hd0 hd1
 rw [rM hD hl2 hv]
 exact ⟨hl2, hv, fun x hx => by obtain ⟨y, hy, rfl⟩ := List.mem_map.1 hx; exact hb y hy, st, hst, wor_eq hD hst hl2 hw⟩
end Go.Proofs.YtahljdjhhapngaaGreat
namespace Go.Proofs.YtahljdjhhapngaaGreat
open Go.Ab Go.RowKit
theorem law_laws (k ks kn : Nat) (ss : List Go.Ab.ST) (f : NM) (st : List Int) (ns : List NM) (hI : ∀ s, s ∈ ss → IS s) (hf1 : I64 f.1) (hf2 : I64 f.2) (hns : IV ns) : Run Tryz.prog T E0 (.call 9 [lvMo k ss, lvM f, .sl ks (st.map ic), .sl kn (ns.map mc)] (.v (.bool true))) := by
 obtain ⟨R, S, E, hB, hRl, hSl⟩ := dbO_pair ss f (vals_len _ _) (fun hV => (iG hV).pos)
 refine bH Tryz.func9 J J (dK J) ?_
 have J34 : ∀ (hn60 : ns.length ≤ 60) (R : List NM) (hol : R.length = ss.length) (hov : R.map nq = (vals ss (nq f))) (hvn : ∀ a, a ∈ R → VN a) (h0 : eD ss f [] = 0) (n : Nat) , WC Tryz.prog T E0 Tryz.f9.ntmps (codeR (codeR (codeR (codeR (codeR (codeR (codeR (codeR (codeR (codeOf Tryz.f9)))))))))) [(3, .sl kn (ns.map mc)), (4, .ptr 0 0), (5, .ptr (0 + 1) 0), (9, .sl (kd R.length) (R.map mc))] [((0 + 1), { cells := mc f, sz := 2, elem := (26), st := 0 }), (0, { cells := [.sl k (ss.map stc)], sz := 1, elem := (24), st := 0 })] n (Post T Tryz.f9.results.toList (.v (.bool true))) := by
  intro hn60 R hol hov hvn h0 n
  obtain ⟨hV, hvf, hall, hf0, hf3⟩ := lF h0
  have hV1 := iG hV
  have hn40 := hV1.wt.len
  have hd01 := kY hvf hf0 hf3
  have hD := gA hV hd01.1 hd01.2
  obtain ⟨hvl, hvv, hvb, _⟩ := vals_ok ss (nq f) hV hvf.bd hd01.1 hd01.2
  obtain ⟨g, e, hge⟩ := gapO_pair ss f ns
  obtain ⟨nJ, hnJ⟩ : ∃ z, z = n := ⟨n, rfl⟩
  subst hnJ
  refine Rg 10 J <| aA (aM (l := lvMo k ss) J J (by repeat (first | exact g0 | refine g1 om ?_ | refine aG om ?_)) J J) J ?_
  refine aA (aM (l := lvM f) J J (by repeat (first | exact g0 | refine g1 om ?_ | refine aG om ?_)) J J) J ?_
  refine Um J J <| aA (bK (b := .tup [lvM g, .v (.int .i64 e)]) (aK J (dgap_run k kn ss f ns hI hf1 hf2 hns om) (bJ (by intro c hc; simp only [List.mem_cons, List.not_mem_nil, or_false] at hc; rcases hc with rfl | rfl | rfl; exact iZ; exact iZ; exact (.sl _ _ fun row hr => bL dmc row hr)))) hge) J <| Um J J <| aA (dF J J) J <| aA (dF J J) J <| bA (dY J) J <| aZ (cB (cs' := mc g) J J J g0 J J J J) <| Ua J J <| Wn <| aB <| Rg 3 J <| Um J J <| aA (aX J J) J <| Um J J <| Nk [3,9,24,25,176,177] J <| aL <| aY (α := Nat) (fun i => [(3, .sl kn (ns.map mc)), (9, .sl (kd R.length) (R.map mc)), (24, .ptr (nJ + 7) 0), (25, .v (.int .i64 e)), (176, .v (.int .i64 (ns.length : Int))), (177, .v (.int .i64 (i : Int)))]) (fun i => [((nJ + 7), { cells := mc g, sz := 2, elem := (26), st := 0 })]) (fun i n => i ≤ ns.length ∧ nJ + 7 < n) (fun i => ns.length - i) (0) ⟨J, J, J, J, J, J, trivial⟩ ⟨(by repeat (first | exact g0 | refine g1 om ?_ | refine aG om ?_)), trivial⟩ ⟨Nat.zero_le _, om⟩ ?_
  rintro i n hF
  change WC _ _ _ _ _ (_ :: _) (_ :: _) n _
  obtain ⟨hi, hn4⟩ := hF
  refine Rg 1 J <| aA (bS J J) J <| aW (fun h178 => ?_) (fun h178 => ?_)
  rotate_left
  ·refine Wn <| aT J <| aV <| aQ <| aN J <| Rg 2 J <| aA (aK J (jQ) dD) J <| Ua J J <| Wn <| aO ?_
   exact post (n := 0) (.inr J) J J (by simp)
  refine Wn <| aS J <| aD <| aL <| Rg 2 J <| Um J J <| Ua J J <| Wn <| aB <| Rg 9 J <| Um J J <| aA (dS J J) J <| aW (fun h181 => ?_) (fun h181 => ?_)
  ·refine Um J J <| K1 J J <| K1 J J <| K1 J J <| K1 J J <| K1 J J <| aA (bO J J) J <| Nk [3,9,24,25,26,176,177,183,184,185,186,187,188] J <| aS J <| aV <| gV J <| aQ <| aN J <| Rg 2 J <| aA (aK J (jQ) dD) J <| Ua J J <| Nk [8] J <| aO <| post (n := 0) (.inr J) J ?_ dD
   rfl
  refine Um J J <| aJ J (dG J) J <| aJ J (aX J J) J <| aJ J (dG J) J <| aJ J (aX J J) J <| aJ J (dS J J) J <| aW (fun h187 => ?_) (fun h187 => ?_)
  ·refine aA (bM J J) J <| Nk [3,9,24,25,26,176,177,183,184,185,186,187,188] J <| aS J <| aV <| gV J <| aQ <| aN J <| Rg 2 J <| aA (aK J (jQ) dD) J <| Ua J J <| Nk [8] J <| aO ?_
   exact post (n := 0) (.inr J) J J (by simp)
  refine aA (bM J J) J <| Nk [3,9,24,25,26,176,177,183,184,185,186,187,188] J <| aT J <| aD ?_
  obtain ⟨hg0, hgl, hgv, hgq⟩ := gap_ok hge (Classical.not_not.1 h181)
  have hnv := vn_all (lF hg0).2.2.1
  have hNi := hnv _ (bC (us := ns) (i := i) om)
  have hRi := hvn _ (bC (us := R) (i := i) om)
  have hnr := gap_near hD (u := fn_ (ns.map nq)) hvv i om
  rw [← hgq, pG om, show fn_ (vals ss (nq f)) i = nq (R.getD i default) by rw [← hov]; exact pG om] at hnr
  have hdb : Bd 10 (nq (ns.getD i default) - nq (R.getD i default)) := by rw [Rat.sub_eq_add_neg]; exact (hNi.bd.add hRi.bd.neg).mono (by decide)
  have hd1' : ¬ 0 < ((nq (ns.getD i default) - nq (R.getD i default)) - nq g).num.sign := fun h => by
   have h1 := eB.1 h
   have h2 := (jC (nq (ns.getD i default) - nq (R.getD i default))).1
   grind
  have hd2' : ¬ 0 < (-(nq (ns.getD i default) - nq (R.getD i default)) - nq g).num.sign := fun h => by
   have h1 := eB.1 h
   have h2 := (jC (nq (ns.getD i default) - nq (R.getD i default))).2
   grind
  refine bI (z := 13) J kR <| Dm J J <| Dm J J <| aF (bQ (j := i) J J J J om om J) J <| aF (cZ (l := lvM (ns.getD i default)) J J J) J <| aF (bK (b := lvQ (nq (ns.getD i default))) (aK J (jG (ns.getD i default) hNi.all3.1 hNi.all3.2.1 hNi) dD) J) J <| Dm J J <| Dm J J <| aF (bQ (j := i) J J J J om om J) J <| aF (cZ (l := lvM (R.getD i default)) J J J) J <| aF (bK (b := lvQ (nq (R.getD i default))) (aK J (jG (R.getD i default) hRi.all3.1 hRi.all3.2.1 hRi) dD) J) J <| aF (aK J (nrless_run (nq (ns.getD i default)) (nq (R.getD i default)) (hNi.bd.mono om) (hRi.bd.mono om)) dD) J <| nL (dY J) J <| cA (cB (cs' := qc (nq (ns.getD i default) - nq (R.getD i default))) J J J g0 J J J J) <| bD (aR kR) J <| Ck [3,9,24,25,27,176,177,183,184,185,186,187] J <| bI (z := 13) J kR <| aF (aM (l := lvQ (nq (ns.getD i default) - nq (R.getD i default))) J J (by repeat (first | exact g0 | refine g1 om ?_ | refine aG om ?_)) J J) J ?_
  refine aF (aM (l := lvM g) J J (by repeat (first | exact g0 | refine g1 om ?_ | refine aG om ?_)) J J) J ?_
  refine aF (bK (b := lvQ (nq g)) (aK J (jG g hgv.all3.1 hgv.all3.2.1 hgv) dD) J) J <| aF (aK J (mE (nq (ns.getD i default) - nq (R.getD i default)) (nq g) (hdb.mono om) (hgv.bd.mono om)) dD) J <| aF (eE J J) J <| oX (fun h204 => ?_) (fun h204 => ?_)
  ·exact absurd h204 om
  refine Dm J J <| eM J (aM (l := lvQ (nq (ns.getD i default) - nq (R.getD i default))) J J (by repeat (first | exact g0 | refine g1 om ?_ | refine aG om ?_)) J J) J ?_
  refine eM J (aK J (nrneg_run (nq (ns.getD i default) - nq (R.getD i default))) dD) J <| eM J (aM (l := lvM g) J J (by repeat (first | exact g0 | refine g1 om ?_ | refine aG om ?_)) J J) J ?_
  refine eM J (bK (b := lvQ (nq g)) (aK J (jG g hgv.all3.1 hgv.all3.2.1 hgv) dD) J) J <| eM J (aK J (mE (-(nq (ns.getD i default) - nq (R.getD i default))) (nq g) (hdb.neg.mono om) (hgv.bd.mono om)) dD) J <| eM J (eE J J) J <| oX (fun h211 => ?_) (fun h211 => ?_)
  ·exact absurd h211 om
  refine aF (bM J J) J <| bD (aR kR) J <| Ck [3,9,24,25,176,177,183,184,185,186,187,206,207,208,209,210,211,212] J <| bR J <| bT <| aE <| Ck [3,9,24,25,176,177,183,184,185,186,187,206,207,208,209,210,211] J <| aI (z := 2) J <| aA (cI (((i + 1 : Nat) : Int)) (aP J J om) om) J <| Um J J <| Wn <| aC <| ⟨i + 1, ⟨J, J, J, J, J, J, trivial⟩, ⟨(by repeat (first | exact g0 | refine g1 om ?_ | refine aG om ?_)), trivial⟩, ⟨om, om⟩, by show ns.length - (i + 1) < ns.length - i; omega⟩
 refine Rg 3 J <| bA (dT J J) J <| bA (dT J J) J <| Ua J J <| Wn <| aB <| Rg 5 J <| aA (aM (l := lvMo k ss) J J (by repeat (first | exact g0 | refine g1 om ?_ | refine aG om ?_)) J J) J ?_
 refine Um J J <| Um J J <| aA (aK J (dfew_run k ks kn ss st ns) (bJ (by intro c hc; simp only [List.mem_cons, List.not_mem_nil, or_false] at hc; rcases hc with rfl | rfl | rfl; exact iZ; exact (.sl _ _ (bL dic1)); exact (.sl _ _ fun row hr => bL dmc row hr)))) J <| eZ (fun h31 => ?_) (fun h31 => ?_)
 rotate_left
 ·refine aA (gE J) J <| Wn <| aS J <| aB <| Rg 2 J <| aA (aK J (jQ) dD) J <| Ua J J <| Wn <| bB ?_
  exact post (n := 0) (.inr J) J J (by simp)
 refine aA (gE J) J <| Wn <| aT J <| aD ?_
 obtain ⟨hfw, hs60⟩ := few_of h31
 have hn60 := few_ns h31
 refine Rg 10 J <| aA (aM (l := lvMo k ss) J J (by repeat (first | exact g0 | refine g1 om ?_ | refine aG om ?_)) J J) J ?_
 refine aA (aM (l := lvM f) J J (by repeat (first | exact g0 | refine g1 om ?_ | refine aG om ?_)) J J) J ?_
 refine aA (bK (b := .tup [.sl (kd R.length) (R.map mc), .sl (kd S.length) (S.map ic), .v (.int .i64 E)]) (aK J (nA k ss f hI hf1 hf2) dD) hB) J <| Um J J <| aA (dF J J) J <| aA (dF J J) J <| aA (dF J J) J <| Ua J J <| Ua J J <| Ua J J <| Nk [2,3,4,5,9,10,11] J <| aB <| Rg 2 J <| Um J J <| aA (dS J J) J <| aW (fun h42 => ?_) (fun h42 => ?_)
 ·refine Wn <| aS J <| aB <| Rg 2 J <| aA (aK J (jQ) dD) J <| Ua J J <| Wn <| bB ?_
  exact post (n := 0) (.inr J) J J (by simp)
 refine Wn <| aT J <| aD <| aB ?_
 obtain ⟨h0, o, hoo⟩ := dbO_zero hB (Classical.not_not.1 h42) (fun hV => (iG hV).pos)
 obtain ⟨hV, hvf, hall, hf0, hf3⟩ := lF h0
 have hV1 := iG hV
 have hn40 := hV1.wt.len
 have hpos := hV1.pos
 have hd01 := kY hvf hf0 hf3
 have hD := gA hV hd01.1 hd01.2
 have h9 := tup3_inj (hB.symm.trans (dbO_3 h0 hoo hV1.pos))
 obtain ⟨hRo, hSb, _⟩ := h9
 rw [← hRo] at hoo
 obtain ⟨hvl, hvv, hvb, _⟩ := vals_ok ss (nq f) hV hvf.bd hd01.1 hd01.2
 obtain ⟨hov, hvn⟩ := outs_all hoo
 have hol : R.length = ss.length := by have := jD hoo; omega
 have hall2 : R.all vn = true := List.all_eq_true.2 fun a ha => decide_eq_true (hvn a ha)
 have hIV : IV R := fun a ha => ⟨(hvn a ha).all3.1, (hvn a ha).all3.2.1⟩
 have hSb : S = bst ss (nq f) (vals ss (nq f)) := hSb
 have hsl : S.length = ss.length := by rw [hSb]; exact fS _ _
 have hisv := (nZ hD).2 hvv
 have hof : ofO ss f S = .tup [.sl (kd R.length) (R.map mc), .v (.int .i64 0)] := by rw [hSb, ofO_4 (bst_ok hD _) h0, wor_bst hD hvl hvv, hoo]; rfl
 have hck : chkO ss f R = .tup [.v (.bool true), .v (.int .i64 0)] := by rw [chkO_pair, chkB_yes h0 hol hall2, hov, hisv, h0]
 refine Rg 13 J <| Um J J <| aA (aX J J) J <| aA (bE J J J J J) J <| aA (aM J J gG J J) J ?_
 refine aA (aX J J) J <| aA (dS J J) J <| aW (fun h49 => ?_) (fun h49 => ?_)
 ·exact absurd (congrArg Int.ofNat hol) h49
 refine Um J J <| aJ J (dG J) J <| aJ J (aX J J) J <| aJ J (dG J) J <| aJ J (aX J J) J <| aJ J (dS J J) J <| aW (fun h55 => ?_) (fun h55 => ?_)
 ·exact absurd (congrArg Int.ofNat (hsl.trans hol.symm)) h55
 refine aA (bM J J) J <| Nk [2,3,4,5,9,10,56] J <| aT J <| aD <| Rg 9 J <| aA (aM (l := lvMo k ss) J J (by repeat (first | exact g0 | refine g1 om ?_ | refine aG om ?_)) J J) J ?_
 refine aA (aM (l := lvM f) J J (by repeat (first | exact g0 | refine g1 om ?_ | refine aG om ?_)) J J) J ?_
 refine Um J J <| aA (bK (b := .tup [.v (.bool true), .v (.int .i64 0)]) (aK J (dchk_run k _ ss f R hI hf1 hf2 hIV om) (bJ (by intro c hc; simp only [List.mem_cons, List.not_mem_nil, or_false] at hc; rcases hc with rfl | rfl | rfl; exact iZ; exact iZ; exact (.sl _ _ fun row hr => bL dmc row hr)))) hck) J <| Um J J <| aA (dF J J) J <| aA (dF J J) J <| Ua J J <| Ua J J <| Nk [2,3,4,5,9,10,12,13] J <| Rg 9 J <| aA (aM (l := lvMo k ss) J J (by repeat (first | exact g0 | refine g1 om ?_ | refine aG om ?_)) J J) J ?_
 refine aA (aM (l := lvM f) J J (by repeat (first | exact g0 | refine g1 om ?_ | refine aG om ?_)) J J) J ?_
 refine Um J J <| aA (bK (b := .tup [.sl (kd R.length) (R.map mc), .v (.int .i64 0)]) (aK J (dof_run k _ ss f S hI hf1 hf2 om) (bJ (by intro c hc; simp only [List.mem_cons, List.not_mem_nil, or_false] at hc; rcases hc with rfl | rfl | rfl; exact iZ; exact iZ; exact (.sl _ _ (bL dic1))))) hof) J <| Um J J <| aA (dF J J) J <| aA (dF J J) J <| Ua J J <| Ua J J <| Nk [2,3,4,5,9,10,12,13,14,15] J <| aB <| Rg 16 J <| Um J J <| aA (bK (b := .v (.bool false)) (dS J J) (by simp)) J <| Um J J <| aJ J (dG J) J <| aJ J (bK (b := .v (.bool false)) (gE J) (by simp)) J <| aA (bM J J) J <| Um J J <| aJ J (dG J) J <| aJ J (bK (b := .v (.bool false)) (dS J J) (by simp)) J <| aA (bM J J) J <| Um J J <| aJ J (dG J) J <| aJ J (dG J) J ?_
 refine aJ J (aK J (pR _ _ R om) (bJ (by intro c hc; simp only [List.mem_cons, List.not_mem_nil, or_false] at hc; rcases hc with rfl | rfl; exact (.sl _ _ fun row hr => bL dmc row hr); exact (.sl _ _ fun row hr => bL dmc row hr)))) J <| aJ J (bK (b := .v (.bool false)) (gE J) (by simp)) J <| aA (bM J J) J <| Nk [2,3,4,5,9,10,86] J <| aT J <| aD <| aB <| Rg 3 J <| aA (aM (l := lvMo k ss) J J (by repeat (first | exact g0 | refine g1 om ?_ | refine aG om ?_)) J J) J ?_
 refine Um J J <| aA (aK J (qstrat_run k ks ss st om) (bJ (by intro c hc; simp only [List.mem_cons, List.not_mem_nil, or_false] at hc; rcases hc with rfl | rfl; exact iZ; exact (.sl _ _ (bL dic1))))) J <| eZ (fun h89 => ?_) (fun h89 => ?_)
 rotate_left
 ·refine Wn <| aT J <| aD <| Ck [3,4,5,9] J <| eI [((0 + 1), { cells := mc f, sz := 2, elem := (26), st := 0 }), (0, { cells := [.sl k (ss.map stc)], sz := 1, elem := (24), st := 0 })] ⟨(by repeat (first | exact g0 | refine g1 om ?_ | refine aG om ?_)), (by repeat (first | exact g0 | refine g1 om ?_ | refine aG om ?_)), trivial⟩ ?_
  exact J34 hn60 R hol hov hvn h0 _
 refine Wn <| aS J <| aB ?_
 have hst := h89
 have hstl := gJ hst
 refine Rg 1 J <| Um J J <| Wn <| aL <| aY (α := Nat) (fun p => [(2, .sl ks (st.map ic)), (3, .sl kn (ns.map mc)), (4, .ptr 0 0), (5, .ptr (0 + 1) 0), (9, .sl (kd R.length) (R.map mc)), (10, .sl (kd S.length) (S.map ic)), (90, .v (.int .i64 (p : Int)))]) (fun p => [((0 + 1), { cells := mc f, sz := 2, elem := (26), st := 0 }), (0, { cells := [.sl k (ss.map stc)], sz := 1, elem := (24), st := 0 })]) (fun p n => p ≤ 2 ∧ 1 < n) (fun p => 2 - p) (0) ⟨J, J, J, J, J, J, J, trivial⟩ ⟨(by repeat (first | exact g0 | refine g1 om ?_ | refine aG om ?_)), (by repeat (first | exact g0 | refine g1 om ?_ | refine aG om ?_)), trivial⟩ ⟨om, om⟩ ?_
 rintro p n hF
 change WC _ _ _ _ _ (_ :: _) (_ :: _) n _
 obtain ⟨hp2, hn⟩ := hF
 obtain ⟨nK, hnK⟩ : ∃ z, z = n := ⟨n, rfl⟩
 subst hnK
 refine Rg 1 J <| aA (bS J J) J <| aW (fun h91 => ?_) (fun h91 => ?_)
 rotate_left
 ·refine Wn <| aT J <| aV <| aQ <| aN J <| Ck [3,4,5,9] J <| eI [((0 + 1), { cells := mc f, sz := 2, elem := (26), st := 0 }), (0, { cells := [.sl k (ss.map stc)], sz := 1, elem := (24), st := 0 })] ⟨(by repeat (first | exact g0 | refine g1 om ?_ | refine aG om ?_)), (by repeat (first | exact g0 | refine g1 om ?_ | refine aG om ?_)), trivial⟩ ?_
  exact J34 hn60 R hol hov hvn h0 _
 refine Wn <| aS J <| aD <| aL <| Rg 2 J <| Um J J <| Ua J J <| Wn <| Rg 4 J <| aA (cU (cs := []) (rows := []) J J (by decide) J J J) J <| Um J J <| bA (oApS (xs := []) (rows := S.map ic) J J J J J (by decide) (by simp) (cM (f := ic) (n := 1) (fun _ => rfl)) (by rw [List.length_map]; omega) (by rw [List.length_map]; show (2 * (0 + S.length) + 256) * 8 ≤ _; omega) (by rw [List.length_map]; show 0 + S.length < _; omega)) J <| Ua J J <| Wn <| aB <| Rg 4 J <| aA (bE J J J J J) J <| aA (aM J J (by repeat (first | exact g0 | refine g1 om ?_ | refine aG om ?_)) J J) J ?_
 refine aA (aX J J) J <| Um J J <| Nk [2,3,4,5,9,10,16,17,90,97,98,99] J <| aL <| aY (α := Nat × (List Int)) (fun ⟨i, us⟩ => [(2, .sl ks (st.map ic)), (3, .sl kn (ns.map mc)), (4, .ptr 0 0), (5, .ptr (0 + 1) 0), (9, .sl (kd R.length) (R.map mc)), (10, .sl (kd S.length) (S.map ic)), (16, .v (.int .i64 (p : Int))), (17, .ref (nK + 1 + 2 + 2) 1 0 (0 + (S.map ic).length)), (90, .v (.int .i64 (p : Int))), (97, .sl k (ss.map stc)), (98, .v (.int .i64 (ss.length : Int))), (99, .v (.int .i64 (i : Int)))]) (fun ⟨i, us⟩ => ((nK + 1 + 2 + 2), { cells := ((us).map ic).flatten, sz := 1, elem := (3), st := 0 }) :: [((0 + 1), { cells := mc f, sz := 2, elem := (26), st := 0 }), (0, { cells := [.sl k (ss.map stc)], sz := 1, elem := (24), st := 0 })]) (fun ⟨i, us⟩ n => i ≤ ss.length ∧ us.length = ss.length ∧ (∀ a, a < ss.length → us.getD a default = if a < i ∧ (ss.getD a default).1.1 = (p : Int) then st.getD a default else S.getD a default) ∧ nK + 7 < n) (fun ⟨i, us⟩ => ss.length - i) (0, S) ⟨J, J, J, J, J, J, J, J, J, J, J, J, trivial⟩ ⟨(by repeat (first | exact g0 | refine g1 om ?_ | refine aG om ?_)), (by repeat (first | exact g0 | refine g1 om ?_ | refine aG om ?_)), (by repeat (first | exact g0 | refine g1 om ?_ | refine aG om ?_)), trivial⟩ ⟨Nat.zero_le _, hsl, fun a ha => (if_neg (fun k => absurd k.1 om)).symm, om⟩ ?_
 rintro ⟨i, us⟩ n hF
 change WC _ _ _ _ _ [(2, .sl ks (st.map ic)), (3, .sl kn (ns.map mc)), (4, .ptr 0 0), (5, .ptr (0 + 1) 0), (9, .sl (kd R.length) (R.map mc)), (10, .sl (kd S.length) (S.map ic)), (16, .v (.int .i64 (p : Int))), (17, .ref (nK + 1 + 2 + 2) 1 0 (0 + (S.map ic).length)), (90, .v (.int .i64 (p : Int))), (97, .sl k (ss.map stc)), (98, .v (.int .i64 (ss.length : Int))), (99, .v (.int .i64 (i : Int)))] (((nK + 1 + 2 + 2), { cells := ((us).map ic).flatten, sz := 1, elem := (3), st := 0 }) :: [((0 + 1), { cells := mc f, sz := 2, elem := (26), st := 0 }), (0, { cells := [.sl k (ss.map stc)], sz := 1, elem := (24), st := 0 })]) n _
 obtain ⟨hi, hul, hus, hn2⟩ := hF
 have hsm : (S.map ic).length = ss.length := by rw [List.length_map]; exact hsl
 refine WC.regF (z := 1) J <| aA (bS J J) J <| aW (fun h100 => ?_) (fun h100 => ?_)
 ·refine Wn <| Fz.same [(2, _), (3, _), (4, _), (5, _), (9, _), (10, _), (16, _), (17, _), (90, _), (97, _), (98, _), (99, _), (100, _)] _ ⟨J, J, J, J, J, J, J, J, J, J, J, J, J, trivial⟩ (fun _ _ h => h) <| aS J <| aD <| aL <| Rg 6 J <| Um J J <| aA (bQ J J J J J om J) J <| aA (cZ (l := .agg (stc (ss.getD i default))) J J J) J <| bA (dY J) J <| Ua J J <| aZ (cB (cs' := stc (ss.getD i default)) J J J g0 J J J J) <| Nk [2,3,4,5,9,10,16,17,18,19,90,97,98,99] J <| Rg 4 J <| aA (bE J J J J J) J <| aA (aM J J (by repeat (first | exact g0 | refine g1 om ?_ | refine aG om ?_)) J J) J ?_
  refine Um J J <| aA (eC J J) J <| aW (fun h107 => ?_) (fun h107 => ?_)
  rotate_left
  ·refine Nk [2,3,4,5,9,10,16,17,18,90,97,98,99,107] J <| bR J <| bT <| aE <| aI (z := 2) J <| aA (cI (((i + 1 : Nat) : Int)) (aP J J om) om) J <| Um J J <| Wn <| aC <| ⟨⟨i + 1, us⟩, ⟨J, J, J, J, J, J, J, J, J, J, J, J, trivial⟩, ⟨(by repeat (first | exact g0 | refine g1 om ?_ | refine aG om ?_)), (by repeat (first | exact g0 | refine g1 om ?_ | refine aG om ?_)), (by repeat (first | exact g0 | refine g1 om ?_ | refine aG om ?_)), trivial⟩, ⟨om, hul, mix_out hus h107, om⟩, by show ss.length - (i + 1) < ss.length - i; omega⟩
  refine Nk [2,3,4,5,9,10,16,17,18,90,97,98,99,107] J <| bV J <| aI (z := 8) J <| Um J J <| Um J J <| Um J J <| Um J J <| aA (bQ (j := i) J J J J om om J) J <| aA (cZ J J J) J <| aA (cH (j := i) J J J J om om J) J <| aZ (eF (f := ic) (us := us) (st.getD i default) J J J (by repeat (first | exact g0 | refine g1 om ?_ | refine aG om ?_)) (fun _ => rfl) J J om J) ?_
  refine Wn <| aE <| Ck [2,3,4,5,9,10,16,17,90,97,98,99] J <| aI (z := 2) J <| aA (cI (((i + 1 : Nat) : Int)) (aP J J om) om) J <| Um J J <| Wn <| aC <| ⟨⟨i + 1, us.set i (st.getD i default)⟩, ⟨J, J, J, J, J, J, J, J, J, J, J, J, trivial⟩, ⟨(by repeat (first | exact g0 | refine g1 om ?_ | refine aG om ?_)), (by repeat (first | exact g0 | refine g1 om ?_ | refine aG om ?_)), (by repeat (first | exact g0 | refine g1 om ?_ | refine aG om ?_)), trivial⟩, ⟨om, by rw [List.length_set]; exact hul, mix_in hul hus h107, om⟩, by show ss.length - (i + 1) < ss.length - i; omega⟩
 refine cO ?_
 have hov7 : outV (nK + 1 + 2 + 2) 1 (us.map ic) = .ref (nK + 1 + 2 + 2) 1 0 (0 + (S.map ic).length) := by
  rw [oK (fun h => by have := congrArg List.length h; rw [List.length_map, List.length_nil] at this; omega), List.length_map, List.length_map, hul, hsl, Nat.zero_add]
 refine Fz.weakH (outH (nK + 1 + 2 + 2) 1 (3) (us.map ic) [((0 + 1), { cells := mc f, sz := 2, elem := (26), st := 0 }), (0, { cells := [.sl k (ss.map stc)], sz := 1, elem := (24), st := 0 })]) (subsM.get (cD (fun _ => (by repeat (first | exact g0 | refine g1 om ?_ | refine aG om ?_))) ⟨(by repeat (first | exact g0 | refine g1 om ?_ | refine aG om ?_)), (by repeat (first | exact g0 | refine g1 om ?_ | refine aG om ?_)), trivial⟩)) ?_
 refine Fz.env (t := 17) (us := us.map ic) [(2, _), (3, _), (4, _), (5, _), (9, _), (10, _), (16, _), (90, _), (97, _), (98, _), (99, _), (100, _)] ⟨J, J, J, J, J, J, J, J, J, J, J, J, trivial⟩ (by rw [hov7]; rfl) (fun _ r o hr e => by subst e; have h0 : getH [((0 + 1), { cells := mc f, sz := 2, elem := (26), st := 0 }), (0, { cells := [.sl k (ss.map stc)], sz := 1, elem := (24), st := 0 })] (nK + 1 + 2 + 2) = none := gN om (gN om J); rw [h0] at hr; cases hr) (by decide) (cM (f := ic) (n := 1) fun _ => rfl) (bL dic1) <| aT J <| aV <| aQ <| aN J ?_
 have hue : us = mixS ss (p : Int) S st := mixS_eq hul (fun a ha => by rw [hus a ha]; by_cases e : (ss.getD a default).1.1 = (p : Int); rw [if_pos ⟨om, e⟩, if_pos e]; rw [if_neg (fun k => e k.2), if_neg e])
 have huv : vSt ss us = true := by rw [hue]; exact mixS_ok (by rw [hSb]; exact bst_ok hD _) hst
 obtain ⟨hwl, hww, _⟩ := worth_ok ss (nq f) us hV hvf.bd hd01.1 hd01.2 huv
 obtain ⟨oo, hoo2⟩ : ∃ oo, (wor ss (nq f) us).mapM outN = oo := ⟨_, rfl⟩
 have hof2 : ofO ss f us = lvOV oo := by rw [ofO_4 huv h0, hoo2]
 refine Rg 9 J <| aA (aM (l := lvMo k ss) J J (by repeat (first | exact g0 | refine g1 om ?_ | refine aG om ?_)) J J) J ?_
 refine aA (aM (l := lvM f) J J (by repeat (first | exact g0 | refine g1 om ?_ | refine aG om ?_)) J J) J ?_
 refine Um J J <| aA (bK (b := .tup [.sl (kd (oo.getD []).length) ((oo.getD []).map mc), .v (.int .i64 (if oo.isSome = true then (0 : Int) else 3))]) (aK J (dof_run k _ ss f us hI hf1 hf2 om) (bJ (by intro c hc; simp only [List.mem_cons, List.not_mem_nil, or_false] at hc; rcases hc with rfl | rfl | rfl; exact iZ; exact iZ; exact (.sl _ _ (bL dic1))))) hof2) J <| Um J J <| aA (dF J J) J <| aA (dF J J) J <| Ua J J <| Ua J J <| Nk [2,3,4,5,9,10,16,20,21,90] J <| aB <| Rg 9 J <| Um J J <| aA (eC J J) J <| aW (fun h124 => ?_) (fun h124 => ?_)
 rotate_left
 ·refine Um J J <| K1 J J <| K1 J J <| K1 J J <| K1 J J <| K1 J J <| aA (bM J J) J <| Nk [2,3,4,5,9,10,16,20,21,90,126,127,128,129,130,131] J <| aT J <| aD <| Rg 3 J <| Um J J <| aA (aX J J) J <| Um J J <| Nk [2,3,4,5,9,10,16,20,21,90,126,127,128,129,130,133,134] J <| bY <| aY (α := Nat) (fun u => [(2, .sl ks (st.map ic)), (3, .sl kn (ns.map mc)), (4, .ptr 0 0), (5, .ptr (0 + 1) 0), (9, .sl (kd R.length) (R.map mc)), (10, .sl (kd S.length) (S.map ic)), (16, .v (.int .i64 (p : Int))), (20, .sl (kd (oo.getD []).length) ((oo.getD []).map mc)), (21, .v (.int .i64 (if oo.isSome = true then (0 : Int) else 3))), (90, .v (.int .i64 (p : Int))), (133, .v (.int .i64 ((oo.getD []).length : Int))), (134, .v (.int .i64 (u : Int)))]) (fun u => [((0 + 1), { cells := mc f, sz := 2, elem := (26), st := 0 }), (0, { cells := [.sl k (ss.map stc)], sz := 1, elem := (24), st := 0 })]) (fun u n => u ≤ (oo.getD []).length ∧ nK < n) (fun u => (oo.getD []).length - u) (0) ⟨J, J, J, J, J, J, J, J, J, J, J, J, trivial⟩ ⟨(by repeat (first | exact g0 | refine g1 om ?_ | refine aG om ?_)), (by repeat (first | exact g0 | refine g1 om ?_ | refine aG om ?_)), trivial⟩ ⟨Nat.zero_le _, om⟩ ?_
  rintro u n hF
  change WC _ _ _ _ _ (_ :: _) (_ :: _) n _
  obtain ⟨hu, hn3⟩ := hF
  refine Rg 1 J <| aA (bS J J) J <| aW (fun h135 => ?_) (fun h135 => ?_)
  rotate_left
  ·refine Wn <| aT J <| aV <| aQ <| fA J <| aE <| aI (z := 2) J <| aA (cI (((p + 1 : Nat) : Int)) (aP J J om) om) J <| Um J J <| Wn <| aC <| ⟨p + 1, ⟨J, J, J, J, J, J, J, trivial⟩, ⟨(by repeat (first | exact g0 | refine g1 om ?_ | refine aG om ?_)), (by repeat (first | exact g0 | refine g1 om ?_ | refine aG om ?_)), trivial⟩, ⟨om, om⟩, by show 2 - (p + 1) < 2 - p; omega⟩
  refine Wn <| aS J <| aD <| aL ?_
  have he0 : (if oo.isSome = true then (0 : Int) else 3) = 0 := oo_ne (u := u) om
  obtain ⟨hl2, hln, hlv⟩ := oo_len hoo2 he0
  have hLu := hlv _ (bC (us := (oo.getD [])) (i := u) om)
  have hRu := hvn _ (bC (us := R) (i := u) om)
  have hln1 : nq ((oo.getD []).getD u default) = fn_ (wor ss (nq f) us) u := by rw [← hln]; exact (pG om).symm
  have hln2 : nq (R.getD u default) = fn_ (vals ss (nq f)) u := by rw [← hov]; exact (pG om).symm
  have hc0 : p = 0 → ¬ 0 < (nq ((oo.getD []).getD u default) - nq (R.getD u default)).num.sign := fun hp h => by
   have h1 := eB.1 h
   have h2 := mix0 hD hvv hst (u := fn_ (wor ss (nq f) us)) (by rw [hue, hSb, hp] at hww; rw [hue, hSb, hp]; exact hww) u om
   rw [hln1, hln2] at h1
   grind
  have hc1 : p = 1 → ¬ (nq ((oo.getD []).getD u default) - nq (R.getD u default)).num.sign < 0 := fun hp h => by
   have h1 := eR.1 h
   have h2 := mix1 hD hvv hst (u := fn_ (wor ss (nq f) us)) (by rw [hue, hSb, hp] at hww; rw [hue, hSb, hp]; exact hww) u om
   rw [hln1, hln2] at h1
   grind
  refine Rg 2 J <| Um J J <| Ua J J <| Nk [2,3,4,5,9,10,16,20,21,22,90,133,134] J <| bI (z := 12) J kR <| Dm J J <| Dm J J <| aF (bQ (j := u) J J J J om om J) J <| aF (cZ (l := lvM ((oo.getD []).getD u default)) J J J) J <| aF (bK (b := lvQ (nq ((oo.getD []).getD u default))) (aK J (jG ((oo.getD []).getD u default) hLu.all3.1 hLu.all3.2.1 hLu) dD) J) J <| Dm J J <| Dm J J <| aF (bQ (j := u) J J J J om om J) J <| aF (cZ (l := lvM (R.getD u default)) J J J) J <| aF (bK (b := lvQ (nq (R.getD u default))) (aK J (jG (R.getD u default) hRu.all3.1 hRu.all3.2.1 hRu) dD) J) J <| aF (aK J (mE (nq ((oo.getD []).getD u default)) (nq (R.getD u default)) (hLu.bd.mono om) (hRu.bd.mono om)) dD) J <| aF (iE J) J <| bD (aR kR) J <| Ck [2,3,4,5,9,10,16,20,21,23,90,133,134] J <| Rg 18 J <| Um J J <| aA (eC J J) J <| aW (fun h149 => ?_) (fun h149 => ?_)
  rotate_left
  ·refine Um J J <| K1 J J <| K1 J J <| K1 J J <| K1 J J <| K1 J J <| K1 J J <| K1 J J <| K1 J J <| K1 J J <| K1 J J <| K1 J J <| K1 J J <| K1 J J <| K1 J J <| aA (bM J J) J <| Nk [2,3,4,5,9,10,16,20,21,90,133,134,151,152,153,154,155,156,157,158,159,160,161,162,163,164,165] J <| bR J <| bT <| aE <| Ck [2,3,4,5,9,10,16,20,21,90,133,134,151,152,153,154,155,156,157,158,159,160,161,162,163,164] J <| aI (z := 2) J <| aA (cI (((u + 1 : Nat) : Int)) (aP J J om) om) J ?_
   refine Um J J <| Wn <| aC <| ⟨u + 1, ⟨J, J, J, J, J, J, J, J, J, J, J, J, trivial⟩, ⟨(by repeat (first | exact g0 | refine g1 om ?_ | refine aG om ?_)), (by repeat (first | exact g0 | refine g1 om ?_ | refine aG om ?_)), trivial⟩, ⟨om, om⟩, by show (oo.getD []).length - (u + 1) < (oo.getD []).length - u; omega⟩
  refine Um J J <| aJ J (dG J) J <| aJ J (eC J J) J <| aW (fun h152 => ?_) (fun h152 => ?_)
  rotate_left
  ·refine aJ J (dG J) J <| K1 J J <| K1 J J <| aJ J (bM J J) J <| aJ J (dG J) J <| aJ J (dG J) J <| aJ J (eC J J) J <| aW (fun h159 => ?_) (fun h159 => ?_)
   rotate_left
   ·refine aJ J (dG J) J <| K1 J J <| K1 J J <| aJ J (bM J J) J <| aJ J (bM J J) J <| aA (bO J J) J <| Nk [2,3,4,5,9,10,16,20,21,90,133,134,151,152,153,154,155,156,157,158,159,160,161,162,163,164,165] J <| bR J <| bT <| aE <| Ck [2,3,4,5,9,10,16,20,21,90,133,134,151,152,153,154,155,156,157,158,159,160,161,162,163,164] J <| aI (z := 2) J <| aA (cI (((u + 1 : Nat) : Int)) (aP J J om) om) J <| Um J J <| Wn <| aC <| ⟨u + 1, ⟨J, J, J, J, J, J, J, J, J, J, J, J, trivial⟩, ⟨(by repeat (first | exact g0 | refine g1 om ?_ | refine aG om ?_)), (by repeat (first | exact g0 | refine g1 om ?_ | refine aG om ?_)), trivial⟩, ⟨om, om⟩, by show (oo.getD []).length - (u + 1) < (oo.getD []).length - u; omega⟩
   refine aJ J (dG J) J <| aJ J (dG J) J <| aJ J (bS J J) J <| aW (fun h162 => ?_) (fun h162 => ?_)
   ·exact absurd h162 (hc1 om)
   refine aJ J (bO J J) J <| aJ J (bM J J) J <| aA (bO J J) J <| Nk [2,3,4,5,9,10,16,20,21,90,133,134,151,152,153,154,155,156,157,158,159,160,161,162,163,164,165] J <| bR J <| bT <| aE <| Ck [2,3,4,5,9,10,16,20,21,90,133,134,151,152,153,154,155,156,157,158,159,160,161,162,163,164] J <| aI (z := 2) J <| aA (cI (((u + 1 : Nat) : Int)) (aP J J om) om) J <| Um J J <| Wn <| aC <| ⟨u + 1, ⟨J, J, J, J, J, J, J, J, J, J, J, J, trivial⟩, ⟨(by repeat (first | exact g0 | refine g1 om ?_ | refine aG om ?_)), (by repeat (first | exact g0 | refine g1 om ?_ | refine aG om ?_)), trivial⟩, ⟨om, om⟩, by show (oo.getD []).length - (u + 1) < (oo.getD []).length - u; omega⟩
  refine aJ J (dG J) J <| aJ J (dG J) J <| aJ J (eE J J) J <| aW (fun h155 => ?_) (fun h155 => ?_)
  ·exact absurd h155 (hc0 om)
  refine aJ J (bO J J) J <| aJ J (dG J) J <| aJ J (dG J) J <| aJ J (eC J J) J <| aW (fun h159 => ?_) (fun h159 => ?_)
  rotate_left
  ·refine aJ J (dG J) J <| K1 J J <| K1 J J <| aJ J (bM J J) J <| aJ J (bM J J) J <| aA (bO J J) J <| Nk [2,3,4,5,9,10,16,20,21,90,133,134,151,152,153,154,155,156,157,158,159,160,161,162,163,164,165] J <| bR J <| bT <| aE <| Ck [2,3,4,5,9,10,16,20,21,90,133,134,151,152,153,154,155,156,157,158,159,160,161,162,163,164] J <| aI (z := 2) J <| aA (cI (((u + 1 : Nat) : Int)) (aP J J om) om) J <| Um J J <| Wn <| aC <| ⟨u + 1, ⟨J, J, J, J, J, J, J, J, J, J, J, J, trivial⟩, ⟨(by repeat (first | exact g0 | refine g1 om ?_ | refine aG om ?_)), (by repeat (first | exact g0 | refine g1 om ?_ | refine aG om ?_)), trivial⟩, ⟨om, om⟩, by show (oo.getD []).length - (u + 1) < (oo.getD []).length - u; omega⟩
  refine aJ J (dG J) J <| aJ J (dG J) J <| aJ J (bS J J) J <| aW (fun h162 => ?_) (fun h162 => ?_)
  ·exact absurd h162 (hc1 om)
  refine aJ J (bO J J) J <| aJ J (bM J J) J <| aA (bO J J) J <| Nk [2,3,4,5,9,10,16,20,21,90,133,134,151,152,153,154,155,156,157,158,159,160,161,162,163,164,165] J <| bR J <| bT <| aE <| Ck [2,3,4,5,9,10,16,20,21,90,133,134,151,152,153,154,155,156,157,158,159,160,161,162,163,164] J <| aI (z := 2) J <| aA (cI (((u + 1 : Nat) : Int)) (aP J J om) om) J <| Um J J <| Wn <| aC <| ⟨u + 1, ⟨J, J, J, J, J, J, J, J, J, J, J, J, trivial⟩, ⟨(by repeat (first | exact g0 | refine g1 om ?_ | refine aG om ?_)), (by repeat (first | exact g0 | refine g1 om ?_ | refine aG om ?_)), trivial⟩, ⟨om, om⟩, by show (oo.getD []).length - (u + 1) < (oo.getD []).length - u; omega⟩
 refine Um J J <| aJ J (dG J) J <| aJ J (aX J J) J <| aJ J (dG J) J <| aJ J (aX J J) J <| aJ J (dS J J) J <| aW (fun h130 => ?_) (fun h130 => ?_)
 ·exact absurd ((oo_len hoo2 h124).1.trans (hwl.trans hol.symm)) (fun e => h130 (congrArg Int.ofNat e))
 refine aA (bO J J) J <| Nk [2,3,4,5,9,10,16,20,21,90,126,127,128,129,130,131] J <| aT J <| aD <| Rg 3 J <| Um J J <| aA (aX J J) J <| Um J J <| Nk [2,3,4,5,9,10,16,20,21,90,126,127,128,129,130,133,134] J <| bY <| aY (α := Nat) (fun u => [(2, .sl ks (st.map ic)), (3, .sl kn (ns.map mc)), (4, .ptr 0 0), (5, .ptr (0 + 1) 0), (9, .sl (kd R.length) (R.map mc)), (10, .sl (kd S.length) (S.map ic)), (16, .v (.int .i64 (p : Int))), (20, .sl (kd (oo.getD []).length) ((oo.getD []).map mc)), (21, .v (.int .i64 (if oo.isSome = true then (0 : Int) else 3))), (90, .v (.int .i64 (p : Int))), (133, .v (.int .i64 ((oo.getD []).length : Int))), (134, .v (.int .i64 (u : Int)))]) (fun u => [((0 + 1), { cells := mc f, sz := 2, elem := (26), st := 0 }), (0, { cells := [.sl k (ss.map stc)], sz := 1, elem := (24), st := 0 })]) (fun u n => u ≤ (oo.getD []).length ∧ nK < n) (fun u => (oo.getD []).length - u) (0) ⟨J, J, J, J, J, J, J, J, J, J, J, J, trivial⟩ ⟨(by repeat (first | exact g0 | refine g1 om ?_ | refine aG om ?_)), (by repeat (first | exact g0 | refine g1 om ?_ | refine aG om ?_)), trivial⟩ ⟨Nat.zero_le _, om⟩ ?_
 rintro u n hF
 change WC _ _ _ _ _ (_ :: _) (_ :: _) n _
 obtain ⟨hu, hn3⟩ := hF
 refine Rg 1 J <| aA (bS J J) J <| aW (fun h135 => ?_) (fun h135 => ?_)
 rotate_left
 ·refine Wn <| aT J <| aV <| aQ <| fA J <| aE <| aI (z := 2) J <| aA (cI (((p + 1 : Nat) : Int)) (aP J J om) om) J <| Um J J <| Wn <| aC <| ⟨p + 1, ⟨J, J, J, J, J, J, J, trivial⟩, ⟨(by repeat (first | exact g0 | refine g1 om ?_ | refine aG om ?_)), (by repeat (first | exact g0 | refine g1 om ?_ | refine aG om ?_)), trivial⟩, ⟨om, om⟩, by show 2 - (p + 1) < 2 - p; omega⟩
 refine Wn <| aS J <| aD <| aL ?_
 have he0 : (if oo.isSome = true then (0 : Int) else 3) = 0 := oo_ne (u := u) om
 obtain ⟨hl2, hln, hlv⟩ := oo_len hoo2 he0
 have hLu := hlv _ (bC (us := (oo.getD [])) (i := u) om)
 have hRu := hvn _ (bC (us := R) (i := u) om)
 have hln1 : nq ((oo.getD []).getD u default) = fn_ (wor ss (nq f) us) u := by rw [← hln]; exact (pG om).symm
 have hln2 : nq (R.getD u default) = fn_ (vals ss (nq f)) u := by rw [← hov]; exact (pG om).symm
 have hc0 : p = 0 → ¬ 0 < (nq ((oo.getD []).getD u default) - nq (R.getD u default)).num.sign := fun hp h => by
  have h1 := eB.1 h
  have h2 := mix0 hD hvv hst (u := fn_ (wor ss (nq f) us)) (by rw [hue, hSb, hp] at hww; rw [hue, hSb, hp]; exact hww) u om
  rw [hln1, hln2] at h1
  grind
 have hc1 : p = 1 → ¬ (nq ((oo.getD []).getD u default) - nq (R.getD u default)).num.sign < 0 := fun hp h => by
  have h1 := eR.1 h
  have h2 := mix1 hD hvv hst (u := fn_ (wor ss (nq f) us)) (by rw [hue, hSb, hp] at hww; rw [hue, hSb, hp]; exact hww) u om
  rw [hln1, hln2] at h1
  grind
 refine Rg 2 J <| Um J J <| Ua J J <| Nk [2,3,4,5,9,10,16,20,21,22,90,133,134] J <| bI (z := 12) J kR <| Dm J J <| Dm J J <| aF (bQ (j := u) J J J J om om J) J <| aF (cZ (l := lvM ((oo.getD []).getD u default)) J J J) J <| aF (bK (b := lvQ (nq ((oo.getD []).getD u default))) (aK J (jG ((oo.getD []).getD u default) hLu.all3.1 hLu.all3.2.1 hLu) dD) J) J <| Dm J J <| Dm J J <| aF (bQ (j := u) J J J J om om J) J <| aF (cZ (l := lvM (R.getD u default)) J J J) J <| aF (bK (b := lvQ (nq (R.getD u default))) (aK J (jG (R.getD u default) hRu.all3.1 hRu.all3.2.1 hRu) dD) J) J <| aF (aK J (mE (nq ((oo.getD []).getD u default)) (nq (R.getD u default)) (hLu.bd.mono om) (hRu.bd.mono om)) dD) J <| aF (iE J) J <| bD (aR kR) J <| Ck [2,3,4,5,9,10,16,20,21,23,90,133,134] J <| Rg 18 J <| Um J J <| aA (eC J J) J <| aW (fun h149 => ?_) (fun h149 => ?_)
 rotate_left
 ·refine Um J J <| K1 J J <| K1 J J <| K1 J J <| K1 J J <| K1 J J <| K1 J J <| K1 J J <| K1 J J <| K1 J J <| K1 J J <| K1 J J <| K1 J J <| K1 J J <| K1 J J <| aA (bM J J) J <| Nk [2,3,4,5,9,10,16,20,21,90,133,134,151,152,153,154,155,156,157,158,159,160,161,162,163,164,165] J <| bR J <| bT <| aE <| Ck [2,3,4,5,9,10,16,20,21,90,133,134,151,152,153,154,155,156,157,158,159,160,161,162,163,164] J <| aI (z := 2) J <| aA (cI (((u + 1 : Nat) : Int)) (aP J J om) om) J ?_
  refine Um J J <| Wn <| aC <| ⟨u + 1, ⟨J, J, J, J, J, J, J, J, J, J, J, J, trivial⟩, ⟨(by repeat (first | exact g0 | refine g1 om ?_ | refine aG om ?_)), (by repeat (first | exact g0 | refine g1 om ?_ | refine aG om ?_)), trivial⟩, ⟨om, om⟩, by show (oo.getD []).length - (u + 1) < (oo.getD []).length - u; omega⟩
 refine Um J J <| aJ J (dG J) J <| aJ J (eC J J) J <| aW (fun h152 => ?_) (fun h152 => ?_)
 rotate_left
 ·refine aJ J (dG J) J <| K1 J J <| K1 J J <| aJ J (bM J J) J <| aJ J (dG J) J <| aJ J (dG J) J <| aJ J (eC J J) J <| aW (fun h159 => ?_) (fun h159 => ?_)
  rotate_left
  ·refine aJ J (dG J) J <| K1 J J <| K1 J J <| aJ J (bM J J) J <| aJ J (bM J J) J <| aA (bO J J) J <| Nk [2,3,4,5,9,10,16,20,21,90,133,134,151,152,153,154,155,156,157,158,159,160,161,162,163,164,165] J <| bR J <| bT <| aE <| Ck [2,3,4,5,9,10,16,20,21,90,133,134,151,152,153,154,155,156,157,158,159,160,161,162,163,164] J <| aI (z := 2) J <| aA (cI (((u + 1 : Nat) : Int)) (aP J J om) om) J <| Um J J <| Wn <| aC <| ⟨u + 1, ⟨J, J, J, J, J, J, J, J, J, J, J, J, trivial⟩, ⟨(by repeat (first | exact g0 | refine g1 om ?_ | refine aG om ?_)), (by repeat (first | exact g0 | refine g1 om ?_ | refine aG om ?_)), trivial⟩, ⟨om, om⟩, by show (oo.getD []).length - (u + 1) < (oo.getD []).length - u; omega⟩
  refine aJ J (dG J) J <| aJ J (dG J) J <| aJ J (bS J J) J <| aW (fun h162 => ?_) (fun h162 => ?_)
  ·exact absurd h162 (hc1 om)
  refine aJ J (bO J J) J <| aJ J (bM J J) J <| aA (bO J J) J <| Nk [2,3,4,5,9,10,16,20,21,90,133,134,151,152,153,154,155,156,157,158,159,160,161,162,163,164,165] J <| bR J <| bT <| aE <| Ck [2,3,4,5,9,10,16,20,21,90,133,134,151,152,153,154,155,156,157,158,159,160,161,162,163,164] J <| aI (z := 2) J <| aA (cI (((u + 1 : Nat) : Int)) (aP J J om) om) J <| Um J J <| Wn <| aC <| ⟨u + 1, ⟨J, J, J, J, J, J, J, J, J, J, J, J, trivial⟩, ⟨(by repeat (first | exact g0 | refine g1 om ?_ | refine aG om ?_)), (by repeat (first | exact g0 | refine g1 om ?_ | refine aG om ?_)), trivial⟩, ⟨om, om⟩, by show (oo.getD []).length - (u + 1) < (oo.getD []).length - u; omega⟩
 refine aJ J (dG J) J <| aJ J (dG J) J <| aJ J (eE J J) J <| aW (fun h155 => ?_) (fun h155 => ?_)
 ·exact absurd h155 (hc0 om)
 refine aJ J (bO J J) J <| aJ J (dG J) J <| aJ J (dG J) J <| aJ J (eC J J) J <| aW (fun h159 => ?_) (fun h159 => ?_)
 rotate_left
 ·refine aJ J (dG J) J <| K1 J J <| K1 J J <| aJ J (bM J J) J <| aJ J (bM J J) J <| aA (bO J J) J <| Nk [2,3,4,5,9,10,16,20,21,90,133,134,151,152,153,154,155,156,157,158,159,160,161,162,163,164,165] J <| bR J <| bT <| aE <| Ck [2,3,4,5,9,10,16,20,21,90,133,134,151,152,153,154,155,156,157,158,159,160,161,162,163,164] J <| aI (z := 2) J <| aA (cI (((u + 1 : Nat) : Int)) (aP J J om) om) J <| Um J J <| Wn <| aC <| ⟨u + 1, ⟨J, J, J, J, J, J, J, J, J, J, J, J, trivial⟩, ⟨(by repeat (first | exact g0 | refine g1 om ?_ | refine aG om ?_)), (by repeat (first | exact g0 | refine g1 om ?_ | refine aG om ?_)), trivial⟩, ⟨om, om⟩, by show (oo.getD []).length - (u + 1) < (oo.getD []).length - u; omega⟩
 refine aJ J (dG J) J <| aJ J (dG J) J <| aJ J (bS J J) J <| aW (fun h162 => ?_) (fun h162 => ?_)
 ·exact absurd h162 (hc1 om)
 refine aJ J (bO J J) J <| aJ J (bM J J) J <| aA (bO J J) J <| Nk [2,3,4,5,9,10,16,20,21,90,133,134,151,152,153,154,155,156,157,158,159,160,161,162,163,164,165] J <| bR J <| bT <| aE <| Ck [2,3,4,5,9,10,16,20,21,90,133,134,151,152,153,154,155,156,157,158,159,160,161,162,163,164] J <| aI (z := 2) J <| aA (cI (((u + 1 : Nat) : Int)) (aP J J om) om) J <| Um J J <| Wn <| aC <| ⟨u + 1, ⟨J, J, J, J, J, J, J, J, J, J, J, J, trivial⟩, ⟨(by repeat (first | exact g0 | refine g1 om ?_ | refine aG om ?_)), (by repeat (first | exact g0 | refine g1 om ?_ | refine aG om ?_)), trivial⟩, ⟨om, om⟩, by show (oo.getD []).length - (u + 1) < (oo.getD []).length - u; omega⟩
end Go.Proofs.YtahljdjhhapngaaGreat
