/- Part F of the proof of discountOf_holds: what it rests on. No condition. -/
import Derived.Test.YtahljdjhhapngaaGreatLawE
set_option linter.unusedVariables false
set_option linter.unusedSimpArgs false
set_option maxRecDepth 100000
set_option maxHeartbeats 16000000
namespace Go.Proofs.YtahljdjhhapngaaGreat
open Go.Ab Go.RowKit
theorem dsteps_run (k : Nat) (ss : List Go.Ab.ST) (f : NM) (z : Int) (hI : ∀ s, s ∈ ss → IS s) (hf1 : I64 f.1) (hf2 : I64 f.2) (hz : I64 z) : Run Tryz.prog T E0 (.call 39 [lvMo k ss, lvM f, .v (.int .i64 z)] (stO ss f z)) := by
 refine bG Tryz.func39 J J (dJ J) <| Rg 4 J <| bA (dO J J) J <| bA (dO J J) J <| Ua J J <| Ua J J <| Wn <| aB <| Rg 4 J <| aA (aM (l := lvMo k ss) J J (by repeat (first | exact g0 | refine g1 om ?_ | refine aJ om ?_)) J J) J ?_
 refine aA (aM (l := lvM f) J J (by repeat (first | exact g0 | refine g1 om ?_ | refine aJ om ?_)) J J) J ?_
 refine aA (aL J (nO k 0 ss f [] hI hf1 hf2 (by intro a ha; cases ha) (by decide)) (bJ (by intro c hc; simp only [List.mem_cons, List.not_mem_nil, or_false] at hc; rcases hc with rfl | rfl | rfl; exact jK; exact jK; exact (.sl 0 [] (by simp))))) J <| Ua J J <| Wn <| aB <| Rg 2 J <| Um J J <| aA (eU J J) J <| aW (fun h18 => ?_) (fun h18 => ?_)
 ·refine Wn <| aR J <| aB <| Rg 3 J <| Um J J <| Ua J J <| Ua J J <| Wn <| aY <| post (n := 0) (.inr J) J ?_ iQ
  show _ = stO ss f z
  unfold stO; rw [if_neg h18]; rfl
 refine Wn <| aU J <| aE <| aB <| Rg 6 J <| Um J J <| aA (bP J J) J <| aW (fun h21 => ?_) (fun h21 => ?_)
 ·refine Um J J <| K1 J J <| K1 J J <| aA (bH J J) J <| Nk [2,3,4,25] J <| aR J <| aB <| Rg 2 J <| Ua J J <| Ua J J <| Wn <| aY <| post (n := 0) (.inr J) J ?_ iQ
  show _ = stO ss f z
  unfold stO; rw [if_pos (Classical.not_not.1 h18), if_neg om]; rfl
 refine Um J J <| aF J (dL J) J <| aF J (dT J J) J <| aW (fun h24 => ?_) (fun h24 => ?_)
 ·refine aA (bI J J) J <| Nk [2,3,4,25] J <| aR J <| aB <| Rg 2 J <| Ua J J <| Ua J J <| Wn <| aY <| post (n := 0) (.inr J) J ?_ iQ
  show _ = stO ss f z
  unfold stO; rw [if_pos (Classical.not_not.1 h18), if_neg om]; rfl
 refine aA (bI J J) J <| Nk [2,3,4,25] J <| aU J <| aE ?_
 have h0 := Classical.not_not.1 h18
 obtain ⟨hV, hvf, hall, hf0, hf3⟩ := eD_ok h0
 have hV1 := lP hV
 have hn40 := hV1.wt.len
 have hpos := hV1.pos
 have hd01 := fac01 hvf hf0 hf3
 have hbd := stp_bd (d := nq f) hV hn40 hV1.cs hvf.bd
 refine WC.drawF (z := 9) J kR <| aC (bC J J J J J) J <| aC (aM J J (by repeat (first | exact g0 | refine g1 om ?_ | refine aJ om ?_)) J J) J ?_
 refine aC (aZ J J) J <| pJ (oMk (a := ss.length) (b := ss.length) J J J J (by simp) (by simp) (by decide) om (by show 64 * ss.length ≤ _; omega) om) J <| aC (aM (l := lvM f) J J (by repeat (first | exact g0 | refine g1 om ?_ | refine aJ om ?_)) J J) J ?_
 refine aC (bN (b := lvX (nx f)) (aL J (fS f hf1 hf2 hvf.all3.2.2) dD) J) J <| pJ (dS J) J <| aC (gL J) J <| bZ (cH (cs' := xc (nx f)) J J J g0 J J J J) <| bD (aT kR) J ?_
 have hov : outV (0 + 4 + 4 + 2 + 6 + 3) 4 ((List.replicate ss.length x0).map xc) = .ref (0 + 4 + 4 + 2 + 6 + 3) 4 0 ss.length := by
  rw [kC (fun h => by have := congrArg List.length h; rw [List.length_map, List.length_nil, List.length_replicate] at this; omega), List.length_map, List.length_replicate]
 refine Fz.weakH (outH (0 + 4 + 4 + 2 + 6 + 3) 4 (102) ((List.replicate ss.length x0).map xc) [((0 + 4 + 4 + 2 + 6 + 6), { cells := xc (nx f), sz := 4, elem := (102), st := 0 }), (0, { cells := [.sl k (ss.map stc)], sz := 1, elem := (24), st := 0 })]) (subsM.get (bS (fun _ => by rw [List.map_replicate]; exact (by repeat (first | exact g0 | refine g1 om ?_ | refine aJ om ?_))) ⟨(by repeat (first | exact g0 | refine g1 om ?_ | refine aJ om ?_)), (by repeat (first | exact g0 | refine g1 om ?_ | refine aJ om ?_)), trivial⟩)) ?_
 refine Fz.env (t := 9) (us := (List.replicate ss.length x0).map xc) [(2, _), (3, _), (10, _)] ⟨J, J, J, trivial⟩ (by rw [hov]; rfl) (fun _ r o hr e => by subst e; have h0 : getH [((0 + 4 + 4 + 2 + 6 + 6), { cells := xc (nx f), sz := 4, elem := (102), st := 0 }), (0, { cells := [.sl k (ss.map stc)], sz := 1, elem := (24), st := 0 })] (0 + 4 + 4 + 2 + 6 + 3) = none := gN om (gN om J); rw [h0] at hr; cases hr) (by decide) (bW (f := xc) (n := 4) fun _ => rfl) (bL qO) <| aB <| Rg 2 J <| Um J J <| Um J J <| Wn <| aK <| aX (α := Nat × (List X)) (fun ⟨t, vx⟩ => [(3, .ptr 0 0), (9, .sl (kd (vx.map xc).length) (vx.map xc)), (10, .ptr (0 + 4 + 4 + 2 + 6 + 6) 0), (32, .v (.int .i64 z)), (33, .v (.int .i64 (t : Int)))]) (fun ⟨t, vx⟩ => [((0 + 4 + 4 + 2 + 6 + 6), { cells := xc (nx f), sz := 4, elem := (102), st := 0 }), (0, { cells := [.sl k (ss.map stc)], sz := 1, elem := (24), st := 0 })]) (fun ⟨t, vx⟩ n => (t : Int) ≤ z ∧ vx.map (·.1) = stp ss (nq f) t ∧ 22 < n) (fun ⟨t, vx⟩ => z.toNat - t) (0, (List.replicate ss.length x0)) ⟨J, J, J, J, J, trivial⟩ ⟨gG, gG, trivial⟩ ⟨om, by rw [List.map_replicate]; exact rep_tab ss.length (0 : Rat), om⟩ ?_
 rintro ⟨t, vx⟩ n hF
 change WC _ _ _ _ _ (_ :: _) (_ :: _) n _
 obtain ⟨ht, hvx, hn⟩ := hF
 obtain ⟨nK, hnK⟩ : ∃ z, z = n := ⟨n, rfl⟩
 subst hnK
 have hxl : vx.length = ss.length := by have := congrArg List.length hvx; rw [List.length_map, stp_len] at this; exact this
 have hvb : ∀ x, x ∈ vx → Bd 12000000 x.1 := fun x hx => hbd t om _ (by rw [← hvx]; exact List.mem_map.2 ⟨x, hx, rfl⟩)
 have hvv : vl vx = fn_ (stp ss (nq f) t) := by unfold vl; rw [hvx]
 refine Rg 1 J <| aA (bP J J) J <| aW (fun h34 => ?_) (fun h34 => ?_)
 rotate_left
 ·refine Wn <| aU J <| aV <| aP <| aO J ?_
  obtain ⟨oo, hoo⟩ : ∃ oo, (vx.mapM fun x => outN x.1) = oo := ⟨_, rfl⟩
  have hmo : (stp ss (nq f) z.toNat).mapM outN = oo := by rw [show z.toNat = t by omega, ← hvx, pY]; exact hoo
  refine Rg 6 J <| Um J J <| aA (bN (b := .tup [.sl (kd (oo.getD []).length) ((oo.getD []).map mc), .v (.int .i64 (if oo.isSome = true then 0 else 3))]) (aL J (qB (kd (vx.map xc).length) vx om) (bJ (by intro c hc; rw [List.mem_singleton] at hc; subst hc; exact (.sl _ _ fun row hr => bL qO row hr)))) (by rw [← hoo]; rfl)) J <| aA (dP J J) J <| aA (dP J J) J <| Ua J J <| Ua J J <| Wn <| aQ <| post (n := 0) (.inr J) J ?_ iQ
  show _ = stO ss f z
  unfold stO; rw [if_pos h0, if_pos (show 0 ≤ z ∧ z ≤ 1000 by omega), hmo]; rfl
 refine Wn <| aR J <| aE <| aK <| Rg 4 J <| Um J J <| aA (cI ((ss.length : Int)) (aZ J J) om) J <| bA (oMk (a := ss.length) (b := ss.length) J J J J om om (by decide) om (by show 64 * ss.length ≤ _; omega) om) J <| Ua J J <| Wn <| aB <| Rg 4 J <| aA (bC J J J J J) J <| aA (aM J J gG J J) J ?_
 refine aA (aZ J J) J <| Um J J <| Wn <| aK <| aX (α := Nat × (List X)) (fun ⟨i, us⟩ => [(3, .ptr 0 0), (9, .sl (kd (vx.map xc).length) (vx.map xc)), (10, .ptr (0 + 4 + 4 + 2 + 6 + 6) 0), (11, .ref (nK + 1 + 2) 4 0 ss.length), (32, .v (.int .i64 z)), (33, .v (.int .i64 (t : Int))), (39, .sl k (ss.map stc)), (40, .v (.int .i64 (ss.length : Int))), (41, .v (.int .i64 (i : Int)))]) (fun ⟨i, us⟩ => ((nK + 1 + 2), { cells := ((us).map xc).flatten, sz := 4, elem := (102), st := 0 }) :: [((0 + 4 + 4 + 2 + 6 + 6), { cells := xc (nx f), sz := 4, elem := (102), st := 0 }), (0, { cells := [.sl k (ss.map stc)], sz := 1, elem := (24), st := 0 })]) (fun ⟨i, us⟩ n => i ≤ ss.length ∧ us.length = ss.length ∧ (∀ a, a < i → (us.getD a default).1 = bsV (ss.getD a default) (nq f) (vl vx)) ∧ nK + 4 < n) (fun ⟨i, us⟩ => ss.length - i) (0, (List.replicate ss.length x0)) ⟨J, J, J, J, J, J, J, J, J, trivial⟩ ⟨g0.trans (by rw [List.map_replicate]; rfl), gG, gG, trivial⟩ ⟨Nat.zero_le _, by simp, fun a ha => absurd ha om, om⟩ ?_
 rintro ⟨i, us⟩ n hF
 change WC _ _ _ _ _ [(3, .ptr 0 0), (9, .sl (kd (vx.map xc).length) (vx.map xc)), (10, .ptr (0 + 4 + 4 + 2 + 6 + 6) 0), (11, .ref (nK + 1 + 2) 4 0 ss.length), (32, .v (.int .i64 z)), (33, .v (.int .i64 (t : Int))), (39, .sl k (ss.map stc)), (40, .v (.int .i64 (ss.length : Int))), (41, .v (.int .i64 (i : Int)))] (((nK + 1 + 2), { cells := ((us).map xc).flatten, sz := 4, elem := (102), st := 0 }) :: [((0 + 4 + 4 + 2 + 6 + 6), { cells := xc (nx f), sz := 4, elem := (102), st := 0 }), (0, { cells := [.sl k (ss.map stc)], sz := 1, elem := (24), st := 0 })]) n _
 obtain ⟨hi, hul, hus, hn2⟩ := hF
 refine rK (z := 1) J <| aA (bP J J) J <| aW (fun h42 => ?_) (fun h42 => ?_)
 rotate_left
 ·refine cE ?_
  have hov : outV (nK + 1 + 2) 4 (us.map xc) = .ref (nK + 1 + 2) 4 0 ss.length := by
   rw [kC (fun h => by have := congrArg List.length h; rw [List.length_map, List.length_nil] at this; omega), List.length_map, hul]
  refine Fz.weakH (outH (nK + 1 + 2) 4 (102) (us.map xc) [((0 + 4 + 4 + 2 + 6 + 6), { cells := xc (nx f), sz := 4, elem := (102), st := 0 }), (0, { cells := [.sl k (ss.map stc)], sz := 1, elem := (24), st := 0 })]) (subsM.get (bS (fun _ => (by repeat (first | exact g0 | refine g1 om ?_ | refine aJ om ?_))) ⟨(by repeat (first | exact g0 | refine g1 om ?_ | refine aJ om ?_)), (by repeat (first | exact g0 | refine g1 om ?_ | refine aJ om ?_)), trivial⟩)) ?_
  refine Fz.env (t := 11) (us := us.map xc) [(3, _), (9, _), (10, _), (32, _), (33, _), (39, _), (40, _), (41, _), (42, _)] ⟨J, J, J, J, J, J, J, J, J, trivial⟩ (by rw [hov]; rfl) (fun _ r o hr e => by subst e; have h0 : getH [((0 + 4 + 4 + 2 + 6 + 6), { cells := xc (nx f), sz := 4, elem := (102), st := 0 }), (0, { cells := [.sl k (ss.map stc)], sz := 1, elem := (24), st := 0 })] (nK + 1 + 2) = none := gN om (gN om J); rw [h0] at hr; cases hr) (by decide) (bW (f := xc) (n := 4) fun _ => rfl) (bL qO) <| aU J <| aV <| aP <| aO J <| aH (z := 2) J <| Um J J <| Ua J J <| Wn <| aG <| aH (z := 2) J <| aA (cI (((t + 1 : Nat) : Int)) (aS J J om) om) J <| Um J J <| Wn <| aD <| ⟨⟨t + 1, us⟩, ⟨J, J, J, J, J, trivial⟩, ⟨gG, gG, trivial⟩, ⟨om, ?_, om⟩, by show z.toNat - (t + 1) < z.toNat - t; omega⟩
  refine jN (by rw [List.length_map, stp_len]; exact hul) fun a ha => ?_
  rw [List.length_map] at ha
  rw [show (us.map (·.1)).getD a default = (us.getD a default).1 from mapD (f := fun x : X => x.1) ha, hus a om, hvv]
  exact (eS (f := fun a => bsV (ss.getD a default) (nq f) (fn_ (stp ss (nq f) t))) om).symm
 refine Wn <| Fz.same [(3, _), (9, _), (10, _), (11, _), (32, _), (33, _), (39, _), (40, _), (41, _), (42, _)] _ ⟨J, J, J, J, J, J, J, J, J, J, trivial⟩ (fun _ _ h => h) <| aR J <| aE <| aK ?_
 have hm := bE (us := ss) (i := i) om
 have hcl := hV1.cs _ hm
 refine Rg 6 J <| Um J J <| aA (bQ J J J J J om J) J <| aA (dA (l := .agg (stc (ss.getD i default))) J J J) J <| bA (dS J) J <| Ua J J <| bB (cH (cs' := stc (ss.getD i default)) J J J g0 J J J J) <| Nk [3,9,10,11,12,13,32,33,39,40,41] J <| aH (z := 11) J <| Um J J <| Um J J <| aA (aM (l := .agg (stc (ss.getD i default))) J J gG J J) J ?_
 refine aA (aM (l := lvX (nx f)) J J gG J J) J ?_
 refine Um J J <| aA (aL J (best_run (ss.getD i default) (nx f) (kd (vx.map xc).length) vx ss.length hcl (fun c hc => jJ hV hm hc) hvf.bd hxl 12000000 (by decide) (by decide) hvb) (bJ (by intro c hc; simp only [List.mem_cons, List.not_mem_nil, or_false] at hc; rcases hc with rfl | rfl | rfl; exact (.agg _ fun c hc => dstc1 _ c hc); exact jK; exact (.sl _ _ fun row hr => bL qO row hr)))) J <| Um J J <| aA (dP J J) J <| aA (dP J J) J <| aA (cD (j := i) J J J J om om J) J <| bB (dW (f := xc) (us := us) (xyl ((ss.getD i default).2.2.getD (bsK (ss.getD i default) (nx f).1 (vl vx)) default) (nx f) vx) J J J gG (fun _ => rfl) J J om J) ?_
 refine Wn <| aG <| Ck [3,9,10,11,32,33,39,40,41] J <| aH (z := 2) J <| aA (cI (((i + 1 : Nat) : Int)) (aS J J om) om) J <| Um J J <| Wn <| aD <| ⟨⟨i + 1, us.set i (xyl ((ss.getD i default).2.2.getD (bsK (ss.getD i default) (nx f).1 (vl vx)) default) (nx f) vx)⟩, ⟨J, J, J, J, J, J, J, J, J, trivial⟩, ⟨gG, gG, gG, trivial⟩, ⟨om, by rw [List.length_set]; exact hul, fun a ha => ?_, om⟩, by show ss.length - (i + 1) < ss.length - i; omega⟩
 rw [cG om]
 by_cases e : i = a
 ·rw [if_pos e, ← e]; exact xyl_v _ _ _
 ·rw [if_neg e]; exact hus a om
theorem qsteps_run (k : Nat) (ss : List Go.Ab.ST) (f : NM) (z : Int) (hI : ∀ s, s ∈ ss → IS s) (hf1 : I64 f.1) (hf2 : I64 f.2) (hz : I64 z) : Run Tryz.prog T E0 (.call 37 [lvMo k ss, lvM f, .v (.int .i64 z)] (stO ss f z)) := by
 refine bG Tryz.func37 J J (dJ J) <| Rg 4 J <| bA (dO J J) J <| bA (dO J J) J <| Ua J J <| Ua J J <| Wn <| aB <| Rg 4 J <| aA (aM (l := lvMo k ss) J J (by repeat (first | exact g0 | refine g1 om ?_ | refine aJ om ?_)) J J) J ?_
 refine aA (aM (l := lvM f) J J (by repeat (first | exact g0 | refine g1 om ?_ | refine aJ om ?_)) J J) J ?_
 refine aA (aL J (qasked_run k 0 ss f [] hI hf1 hf2 (by intro a ha; cases ha) (by decide)) (bJ (by intro c hc; simp only [List.mem_cons, List.not_mem_nil, or_false] at hc; rcases hc with rfl | rfl | rfl; exact jK; exact jK; exact (.sl 0 [] (by simp))))) J <| Ua J J <| Wn <| aB <| Rg 2 J <| Um J J <| aA (eU J J) J <| aW (fun h19 => ?_) (fun h19 => ?_)
 ·refine Wn <| aR J <| aB <| Rg 3 J <| Um J J <| Ua J J <| Ua J J <| Wn <| aY <| post (n := 0) (.inr J) J ?_ iQ
  show _ = stO ss f z
  unfold stO; rw [if_neg h19]; rfl
 refine Wn <| aU J <| aE <| aB <| Rg 6 J <| Um J J <| aA (bP J J) J <| aW (fun h22 => ?_) (fun h22 => ?_)
 ·refine Um J J <| K1 J J <| K1 J J <| aA (bH J J) J <| Nk [2,3,4,26] J <| aR J <| aB <| Rg 2 J <| Ua J J <| Ua J J <| Wn <| aY <| post (n := 0) (.inr J) J ?_ iQ
  show _ = stO ss f z
  unfold stO; rw [if_pos (Classical.not_not.1 h19), if_neg om]; rfl
 refine Um J J <| aF J (dL J) J <| aF J (dT J J) J <| aW (fun h25 => ?_) (fun h25 => ?_)
 ·refine aA (bI J J) J <| Nk [2,3,4,26] J <| aR J <| aB <| Rg 2 J <| Ua J J <| Ua J J <| Wn <| aY <| post (n := 0) (.inr J) J ?_ iQ
  show _ = stO ss f z
  unfold stO; rw [if_pos (Classical.not_not.1 h19), if_neg om]; rfl
 refine aA (bI J J) J <| Nk [2,3,4,26] J <| aU J <| aE ?_
 have h0 := Classical.not_not.1 h19
 obtain ⟨hV, hvf, hall, hf0, hf3⟩ := eD_ok h0
 have hV1 := lP hV
 have hn40 := hV1.wt.len
 have hpos := hV1.pos
 have hd01 := fac01 hvf hf0 hf3
 have hbd := stp_bd (d := nq f) hV hn40 hV1.cs hvf.bd
 obtain ⟨_, _, _, hz9, rfl, rfl, rfl⟩ := qzero_own ss.length hn40
 refine rK (z := 5) J <| aA (bC J J J J J) J <| aA (aM J J (by repeat (first | exact g0 | refine g1 om ?_ | refine aJ om ?_)) J J) J ?_
 refine aA (aZ J J) J <| bA (nT J hz9 dD) J <| Ua J J <| cE ?_
 have hov : outV (0 + 4 + 4 + 2 + 6 + 3) 6 ((List.replicate ss.length (0 : Rat)).map qc) = .ref (0 + 4 + 4 + 2 + 6 + 3) 6 0 ss.length := by
  rw [kC (fun h => by have := congrArg List.length h; rw [List.length_map, List.length_nil, List.length_replicate] at this; omega), List.length_map, List.length_replicate]
 refine Fz.weakH (outH (0 + 4 + 4 + 2 + 6 + 3) 6 (39) ((List.replicate ss.length (0 : Rat)).map qc) [((0 + 1), { cells := mc f, sz := 2, elem := (26), st := 0 }), (0, { cells := [.sl k (ss.map stc)], sz := 1, elem := (24), st := 0 })]) (subsM.get (bS (fun _ => (by repeat (first | exact g0 | refine g1 om ?_ | refine aJ om ?_))) ⟨(by repeat (first | exact g0 | refine g1 om ?_ | refine aJ om ?_)), (by repeat (first | exact g0 | refine g1 om ?_ | refine aJ om ?_)), trivial⟩)) ?_
 refine Fz.env (t := 9) (us := (List.replicate ss.length (0 : Rat)).map qc) [(2, _), (3, _), (4, _)] ⟨J, J, J, trivial⟩ (by rw [hov]; rfl) (fun _ r o hr e => by subst e; have h0 : getH [((0 + 1), { cells := mc f, sz := 2, elem := (26), st := 0 }), (0, { cells := [.sl k (ss.map stc)], sz := 1, elem := (24), st := 0 })] (0 + 4 + 4 + 2 + 6 + 3) = none := gN om (gN om J); rw [h0] at hr; cases hr) (by decide) (bW (f := qc) (n := 6) fun _ => rfl) (bL dqc) <| aB <| Rg 2 J <| Um J J <| Um J J <| Wn <| aK <| aX (α := Nat × (List Rat)) (fun ⟨t, v⟩ => [(3, .ptr 0 0), (4, .ptr (0 + 1) 0), (9, .sl (kd (v.map qc).length) (v.map qc)), (31, .v (.int .i64 z)), (32, .v (.int .i64 (t : Int)))]) (fun ⟨t, v⟩ => [((0 + 1), { cells := mc f, sz := 2, elem := (26), st := 0 }), (0, { cells := [.sl k (ss.map stc)], sz := 1, elem := (24), st := 0 })]) (fun ⟨t, v⟩ n => (t : Int) ≤ z ∧ v = stp ss (nq f) t ∧ 4 < n) (fun ⟨t, v⟩ => z.toNat - t) (0, (List.replicate ss.length (0 : Rat))) ⟨J, J, J, J, J, trivial⟩ ⟨gG, gG, trivial⟩ ⟨om, rep_tab ss.length (0 : Rat), om⟩ ?_
 rintro ⟨t, v⟩ n hF
 change WC _ _ _ _ _ (_ :: _) (_ :: _) n _
 obtain ⟨ht, hvx, hn⟩ := hF
 have hxl : v.length = ss.length := by rw [hvx]; exact stp_len _ _ _
 have hvb : ∀ x, x ∈ v → Bd 12000000 x := by rw [hvx]; exact hbd t om
 refine Rg 1 J <| aA (bP J J) J <| aW (fun h33 => ?_) (fun h33 => ?_)
 rotate_left
 ·refine Wn <| aU J <| aV <| aP <| aO J ?_
  obtain ⟨oo, hoo⟩ : ∃ oo, v.mapM outN = oo := ⟨_, rfl⟩
  have hmo : (stp ss (nq f) z.toNat).mapM outN = oo := by rw [show z.toNat = t by omega, ← hvx]; exact hoo
  refine Rg 6 J <| Um J J <| aA (bN (b := .tup [.sl (kd (oo.getD []).length) ((oo.getD []).map mc), .v (.int .i64 (if oo.isSome = true then 0 else 3))]) (aL J (qnums_run (kd (v.map qc).length) v om) (bJ (by intro c hc; rw [List.mem_singleton] at hc; subst hc; exact (.sl _ _ fun row hr => bL dqc row hr)))) (by rw [← hoo]; rfl)) J <| aA (dP J J) J <| aA (dP J J) J <| Ua J J <| Ua J J <| Wn <| aQ <| post (n := 0) (.inr J) J ?_ iQ
  show _ = stO ss f z
  unfold stO; rw [if_pos h0, if_pos (show 0 ≤ z ∧ z ≤ 1000 by omega), hmo]; rfl
 refine Wn <| aR J <| aE <| aK <| Rg 1 J <| Ua J J <| Wn <| aB <| Rg 4 J <| aA (bC J J J J J) J <| aA (aM J J (by repeat (first | exact g0 | refine g1 om ?_ | refine aJ om ?_)) J J) J ?_
 refine aA (aZ J J) J <| Um J J <| Wn <| aK <| aX (α := Nat × Nat × (List Rat)) (fun ⟨i, q, row⟩ => [(3, .ptr 0 0), (4, .ptr (0 + 1) 0), (9, .sl (kd (v.map qc).length) (v.map qc)), (10, outV q 6 (row.map qc)), (31, .v (.int .i64 z)), (32, .v (.int .i64 (t : Int))), (35, .sl k (ss.map stc)), (36, .v (.int .i64 (ss.length : Int))), (37, .v (.int .i64 (i : Int)))]) (fun ⟨i, q, row⟩ => outH q 6 39 (row.map qc) [((0 + 1), { cells := mc f, sz := 2, elem := (26), st := 0 }), (0, { cells := [.sl k (ss.map stc)], sz := 1, elem := (24), st := 0 })]) (fun ⟨i, q, row⟩ n => i ≤ ss.length ∧ row = tab i (fun a : Nat => bsV (ss.getD a default) (nq f) (fn_ v)) ∧ row.length = i ∧ 1 < q ∧ q < n) (fun ⟨i, q, row⟩ => ss.length - i) (0, 2, []) ⟨J, J, J, J, J, J, J, J, J, trivial⟩ ⟨gG, gG, trivial⟩ ⟨Nat.zero_le _, rfl, rfl, om, om⟩ ?_
 rintro ⟨i, q, row⟩ n hF
 change WC _ _ _ _ _ (_ :: _) (outH _ _ _ _ _) n _
 obtain ⟨hi, hrw, hrl, hq1, hq⟩ := hF
 refine rK (z := 1) J <| aA (bP J J) J <| aW (fun h38 => ?_) (fun h38 => ?_)
 rotate_left
 ·refine Wn <| Fz.env (t := 10) (us := row.map qc) [(3, _), (4, _), (9, _), (31, _), (32, _), (35, _), (36, _), (37, _), (38, _)] ⟨J, J, J, J, J, J, J, J, J, trivial⟩ J (fun _ r o hr e => by subst e; have h0 : getH [((0 + 1), { cells := mc f, sz := 2, elem := (26), st := 0 }), (0, { cells := [.sl k (ss.map stc)], sz := 1, elem := (24), st := 0 })] r = none := gN om (gN om J); rw [h0] at hr; cases hr) (by decide) (bW (n := 6) (fun _ => rfl)) (bL dqc) <| aU J <| aV <| aP <| aO J <| aH (z := 2) J <| Um J J <| Ua J J <| Wn <| aG <| aH (z := 2) J <| aA (cI (((t + 1 : Nat) : Int)) (aS J J om) om) J <| Um J J <| Wn <| aD <| ⟨⟨t + 1, row⟩, ⟨J, J, J, J, J, trivial⟩, ⟨gG, gG, trivial⟩, ⟨om, ?_, om⟩, by show z.toNat - (t + 1) < z.toNat - t; omega⟩
  rw [hrw, show i = ss.length by omega, hvx]; rfl
 refine Wn <| Fz.same [(3, _), (4, _), (9, _), (10, _), (31, _), (32, _), (35, _), (36, _), (37, _), (38, _)] _ ⟨J, J, J, J, J, J, J, J, J, J, trivial⟩ (fun _ _ h => h) <| aR J <| aE <| aK ?_
 have hm := bE (us := ss) (i := i) om
 have hcl := hV1.cs _ hm
 have how := hV1.own _ hm
 refine Rg 4 J <| aA (bQ J J J J J om J) J <| aA (dA (l := .agg (stc (ss.getD i default))) J J J) J <| bA (dS J) J <| bB (cH (cs' := stc (ss.getD i default)) J J J g0 J J J J) <| Wn <| bK (z := 11) J kR <| aC (aM (l := .agg (stc (ss.getD i default))) J J (by repeat (first | exact g0 | refine g1 om ?_ | refine aJ om ?_)) J J) J ?_
 refine aC (aM (l := lvM f) J J (by repeat (first | exact g0 | refine g1 om ?_ | refine aJ om ?_)) J J) J ?_
 refine aC (bN (b := lvQ (nq f)) (aL J (kA f hf1 hf2 hvf) dD) J) J <| Dm J J <| aC (aL J (qpick_run (ss.getD i default) (nq f) (kd (v.map qc).length) v ss.length om hcl (fun c hc => jJ hV hm hc) hvf.bd hxl 12000000 (by decide) (by decide) hvb) (bJ (by intro c hc; simp only [List.mem_cons, List.not_mem_nil, or_false] at hc; rcases hc with rfl | rfl | rfl; exact (.agg _ fun c hc => dstc1 _ c hc); exact jK; exact (.sl _ _ fun row hr => bL dqc row hr)))) J <| Dm J J <| aC (dP J J) J <| aC (dP J J) J <| pJ (dS J) J <| aC (gL J) J <| bZ (cH (cs' := qc (bsV (ss.getD i default) (nq f) (fn_ v))) J J J g0 J J J J) <| bD (eQ (rn n) (by simp only [List.reverse_cons, List.reverse_nil, List.nil_append, List.cons_append, List.map_cons, List.map_nil, ren, keys, Nat.add_assoc, lK, show rn n (0 + 1) = 0 from mD om, show rn n 1 = 0 from mD om]; kernel_rfl)) J <| Ck [3,4,9,10,14,31,32,35,36,37] J <| aH (z := 5) J <| Um J J <| aA (aM (l := lvQ (bsV (ss.getD i default) (nq f) (fn_ v))) J J (by repeat (first | exact g0 | refine g1 om ?_ | refine aJ om ?_)) J J) J ?_
 refine aA (cS (cs := [_, _, _, _, _, _]) (rows := [[_, _, _, _, _, _]]) J J (by decide) J J J) J <| iE _ (subsM.get (bS (q := q) (sz := 6) (el := 39) (us := row.map qc) (h := [((0 + 1), { cells := mc f, sz := 2, elem := (26), st := 0 }), (0, { cells := [.sl k (ss.map stc)], sz := 1, elem := (24), st := 0 })]) (fun hne => by rw [cY hne]; repeat (first | exact g0 | refine g1 om ?_ | refine aJ om ?_)) ⟨(by repeat (first | exact g0 | refine g1 om ?_ | refine aJ om ?_)), (by repeat (first | exact g0 | refine g1 om ?_ | refine aJ om ?_)), trivial⟩)) ?_
 refine dC (te := ti39) (f := qc) (q := q) (us := row) (u := (bsV (ss.getD i default) (nq f) (fn_ v))) J J J J J (fun _ => rfl) (by decide) (by show (2 * (row.length + 1) + 256) * 80 ≤ _; omega) om (gN om (gN om J)) (gN om (gN om J)) J <| Ua J J <| Wn <| aG <| aH (z := 2) J <| aA (cI (((i + 1 : Nat) : Int)) (aS J J om) om) J <| Um J J <| Wn <| aD <| ⟨⟨i + 1, _, row ++ [(bsV (ss.getD i default) (nq f) (fn_ v))]⟩, ⟨J, J, J, J, J, J, J, J, J, trivial⟩, bS (fun hne => by rw [cY hne]; repeat (first | exact g0 | refine g1 om ?_ | refine aJ om ?_)) ⟨(by repeat (first | exact g0 | refine g1 om ?_ | refine aJ om ?_)), (by repeat (first | exact g0 | refine g1 om ?_ | refine aJ om ?_)), trivial⟩, ⟨om, by rw [tab_succ, ← hrw], by simp; omega, om, om⟩, by show ss.length - (i + 1) < ss.length - i; omega⟩
end Go.Proofs.YtahljdjhhapngaaGreat
namespace Go.Proofs.YtahljdjhhapngaaGreat
open Go.Ab Go.RowKit
theorem qstrat_run (k ks : Nat) (ss : List Go.Ab.ST) (st : List Int) (hll : st.length < 1099511627776) : Run Tryz.prog T E0 (.call 35 [lvMo k ss, .sl ks (st.map ic)] (.v (.bool (vSt ss st)))) := by
 refine bG Tryz.func35 J J (dJ J) <| Rg 2 J <| bA (dO J J) J <| Ua J J <| Wn <| aB <| Rg 6 J <| Um J J <| aA (aZ J J) J <| aA (bC J J J J J) J <| aA (aM J J gG J J) J ?_
 refine aA (aZ J J) J <| aA (eU J J) J <| aW (fun h12 => ?_) (fun h12 => ?_)
 ·refine Wn <| aR J <| aB <| Rg 1 J <| Ua J J <| Wn <| aY <| post (n := 0) (.inr J) J ?_ dD
  exact congrArg (fun z => LV.v (.bool z)) (show false = vSt ss st by unfold vSt; rw [decide_eq_false om]; rfl)
 refine Wn <| aU J <| aE <| aB <| Rg 3 J <| Um J J <| aA (aZ J J) J <| Um J J <| Wn <| aK <| aX (α := Nat) (fun i => [(2, .ptr 0 0), (13, .sl ks (st.map ic)), (14, .v (.int .i64 (st.length : Int))), (15, .v (.int .i64 (i : Int)))]) (fun i => [(0, { cells := [.sl k (ss.map stc)], sz := 1, elem := (24), st := 0 })]) (fun i n => i ≤ st.length ∧ (∀ j, j < i → (decide (0 ≤ st.getD j default) && decide (st.getD j default < ((ss.getD j default).2.2.length : Int))) = true) ∧ 0 < n) (fun i => st.length - i) (0) ⟨J, J, J, J, trivial⟩ ⟨(by repeat (first | exact g0 | refine g1 (by decide) ?_)), trivial⟩ ⟨Nat.zero_le _, fun j hj => absurd hj om, om⟩ ?_
 rintro i n hF
 change WC _ _ _ _ _ (_ :: _) (_ :: _) n _
 obtain ⟨hi, hok, hn⟩ := hF
 refine Rg 1 J <| aA (bP J J) J <| aW (fun h16 => ?_) (fun h16 => ?_)
 rotate_left
 ·refine Wn <| aU J <| aV <| aP <| aO J <| Rg 1 J <| Ua J J <| Wn <| aQ <| post (n := 0) (.inr J) J ?_ dD
  exact congrArg (fun z => LV.v (.bool z)) (show true = vSt ss st by unfold vSt; rw [decide_eq_true om, range_take hok om]; rfl)
 refine Wn <| aR J <| aE <| aK <| Rg 5 J <| Um J J <| aA (bQ J J J J J om J) J <| aA (dA J J J) J <| Ua J J <| Ua J J <| Wn <| Rg 13 J <| Um J J <| aA (bP J J) J <| aW (fun h21 => ?_) (fun h21 => ?_)
 ·refine Um J J <| K1 J J <| K1 J J <| K1 J J <| K1 J J <| K1 J J <| K1 J J <| K1 J J <| K1 J J <| K1 J J <| aA (bH J J) J <| Nk [2,13,14,15,23,24,25,26,27,28,29,30,31,32] J <| bT J <| Rg 1 J <| Ua J J <| Nk [4] J <| aQ <| aN <| bF <| aN <| post (n := 0) (.inr J) J ?_ dD
  exact congrArg (fun z => LV.v (.bool z)) (show false = vSt ss st by unfold vSt; rw [gO (i := i) om (by rw [decide_eq_false om]; rfl), Bool.and_false])
 refine Um J J <| aF J (dL J) J <| aF J (bC J J J J J) J <| aF J (aM J J gG J J) J ?_
 refine aF J (dL J) J <| aF J (bQ (j := i) J J J J om om J) J <| aF J (oFa J J J J J) J <| aF J (dA J J J) J <| aF J (aZ J J) J <| aF J (gZ J J) J <| aW (fun h31 => ?_) (fun h31 => ?_)
 ·refine aA (bI J J) J <| Nk [2,13,14,15,23,24,25,26,27,28,29,30,31,32] J <| bT J <| Rg 1 J <| Ua J J <| Nk [4] J <| aQ <| aN <| bF <| aN <| post (n := 0) (.inr J) J ?_ dD
  exact congrArg (fun z => LV.v (.bool z)) (show false = vSt ss st by unfold vSt; rw [gO (i := i) om (by rw [decide_eq_false (show ¬ (st.getD i default) < _ by omega), Bool.and_false]), Bool.and_false])
 refine aA (bI J J) J <| Nk [2,13,14,15,23,24,25,26,27,28,29,30,31,32] J <| bU J <| cA <| aG <| aH (z := 2) J <| aA (cI (((i + 1 : Nat) : Int)) (aS J J om) om) J <| Um J J <| Wn <| aD <| ⟨i + 1, ⟨J, J, J, J, trivial⟩, ⟨gG, trivial⟩, ⟨om, fun j hj => ?_, om⟩, by show st.length - (i + 1) < st.length - i; omega⟩
 by_cases e : j = i
 ·rw [e, decide_eq_true om, decide_eq_true om]; rfl
 ·exact hok j om
theorem mstrat_run (k ks : Nat) (ss : List Go.Ab.ST) (st : List Int) (hll : st.length < 1099511627776) : Run Tryz.prog T E0 (.call 70 [lvMo k ss, .sl ks (st.map ic)] (.v (.bool (vSt ss st)))) := by
 refine bG Tryz.func70 J J (dJ J) <| Rg 2 J <| bA (dO J J) J <| Ua J J <| Wn <| aB <| Rg 6 J <| Um J J <| aA (aZ J J) J <| aA (bC J J J J J) J <| aA (aM J J gG J J) J ?_
 refine aA (aZ J J) J <| aA (eU J J) J <| aW (fun h12 => ?_) (fun h12 => ?_)
 ·refine Wn <| aR J <| aB <| Rg 1 J <| Ua J J <| Wn <| aY <| post (n := 0) (.inr J) J ?_ dD
  exact congrArg (fun z => LV.v (.bool z)) (show false = vSt ss st by unfold vSt; rw [decide_eq_false om]; rfl)
 refine Wn <| aU J <| aE <| aB <| Rg 3 J <| Um J J <| aA (aZ J J) J <| Um J J <| Wn <| aK <| aX (α := Nat) (fun i => [(2, .ptr 0 0), (13, .sl ks (st.map ic)), (14, .v (.int .i64 (st.length : Int))), (15, .v (.int .i64 (i : Int)))]) (fun i => [(0, { cells := [.sl k (ss.map stc)], sz := 1, elem := (24), st := 0 })]) (fun i n => i ≤ st.length ∧ (∀ j, j < i → (decide (0 ≤ st.getD j default) && decide (st.getD j default < ((ss.getD j default).2.2.length : Int))) = true) ∧ 0 < n) (fun i => st.length - i) (0) ⟨J, J, J, J, trivial⟩ ⟨(by repeat (first | exact g0 | refine g1 (by decide) ?_)), trivial⟩ ⟨Nat.zero_le _, fun j hj => absurd hj om, om⟩ ?_
 rintro i n hF
 change WC _ _ _ _ _ (_ :: _) (_ :: _) n _
 obtain ⟨hi, hok, hn⟩ := hF
 refine Rg 1 J <| aA (bP J J) J <| aW (fun h16 => ?_) (fun h16 => ?_)
 rotate_left
 ·refine Wn <| aU J <| aV <| aP <| aO J <| Rg 1 J <| Ua J J <| Wn <| aQ <| post (n := 0) (.inr J) J ?_ dD
  exact congrArg (fun z => LV.v (.bool z)) (show true = vSt ss st by unfold vSt; rw [decide_eq_true om, range_take hok om]; rfl)
 refine Wn <| aR J <| aE <| aK <| Rg 5 J <| Um J J <| aA (bQ J J J J J om J) J <| aA (dA J J J) J <| Ua J J <| Ua J J <| Wn <| Rg 13 J <| Um J J <| aA (bP J J) J <| aW (fun h21 => ?_) (fun h21 => ?_)
 ·refine Um J J <| K1 J J <| K1 J J <| K1 J J <| K1 J J <| K1 J J <| K1 J J <| K1 J J <| K1 J J <| K1 J J <| aA (bH J J) J <| Nk [2,13,14,15,23,24,25,26,27,28,29,30,31,32] J <| bT J <| Rg 1 J <| Ua J J <| Nk [4] J <| aQ <| aN <| bF <| aN <| post (n := 0) (.inr J) J ?_ dD
  exact congrArg (fun z => LV.v (.bool z)) (show false = vSt ss st by unfold vSt; rw [gO (i := i) om (by rw [decide_eq_false om]; rfl), Bool.and_false])
 refine Um J J <| aF J (dL J) J <| aF J (bC J J J J J) J <| aF J (aM J J gG J J) J ?_
 refine aF J (dL J) J <| aF J (bQ (j := i) J J J J om om J) J <| aF J (oFa J J J J J) J <| aF J (dA J J J) J <| aF J (aZ J J) J <| aF J (gZ J J) J <| aW (fun h31 => ?_) (fun h31 => ?_)
 ·refine aA (bI J J) J <| Nk [2,13,14,15,23,24,25,26,27,28,29,30,31,32] J <| bT J <| Rg 1 J <| Ua J J <| Nk [4] J <| aQ <| aN <| bF <| aN <| post (n := 0) (.inr J) J ?_ dD
  exact congrArg (fun z => LV.v (.bool z)) (show false = vSt ss st by unfold vSt; rw [gO (i := i) om (by rw [decide_eq_false (show ¬ (st.getD i default) < _ by omega), Bool.and_false]), Bool.and_false])
 refine aA (bI J J) J <| Nk [2,13,14,15,23,24,25,26,27,28,29,30,31,32] J <| bU J <| cA <| aG <| aH (z := 2) J <| aA (cI (((i + 1 : Nat) : Int)) (aS J J om) om) J <| Um J J <| Wn <| aD <| ⟨i + 1, ⟨J, J, J, J, trivial⟩, ⟨gG, trivial⟩, ⟨om, fun j hj => ?_, om⟩, by show st.length - (i + 1) < st.length - i; omega⟩
 by_cases e : j = i
 ·rw [e, decide_eq_true om, decide_eq_true om]; rfl
 ·exact hok j om
theorem dof_run (k ks : Nat) (ss : List Go.Ab.ST) (f : NM) (st : List Int) (hI : ∀ s, s ∈ ss → IS s) (hf1 : I64 f.1) (hf2 : I64 f.2) (hll : st.length < 1099511627776) : Run Tryz.prog T E0 (.call 38 [lvMo k ss, lvM f, .sl ks (st.map ic)] (ofO ss f st)) := by
 refine bG Tryz.func38 J J (dJ J) <| Rg 4 J <| bA (dO J J) J <| bA (dO J J) J <| Ua J J <| Ua J J <| Wn <| Rg 4 J <| aA (aM (l := lvMo k ss) J J gG J J) J ?_
 refine aA (aM (l := lvM f) J J gG J J) J ?_
 refine aA (aL J (nO k 0 ss f [] hI hf1 hf2 (by intro a ha; cases ha) (by decide)) (bJ (by intro c hc; simp only [List.mem_cons, List.not_mem_nil, or_false] at hc; rcases hc with rfl | rfl | rfl; exact jK; exact jK; exact (.sl 0 [] (by simp))))) J <| Ua J J <| Wn <| aB <| Rg 8 J <| Um J J <| aA (eK J J) J <| aW (fun h13 => ?_) (fun h13 => ?_)
 ·refine Um J J <| K1 J J <| K1 J J <| K1 J J <| K1 J J <| aA (bH J J) J <| Nk [2,3,4,8,19] J <| aR J <| aB <| Rg 2 J <| Ua J J <| Ua J J <| Wn <| aY <| post (n := 0) (.inr J) J ?_ oY
  show _ = ofO ss f st
  unfold ofO; rw [if_pos (.inl om)]; rfl
 refine Um J J <| aF J (aM (l := lvMo k ss) J J gG J J) J ?_
 refine aF J (dL J) J <| aF J (aL J (mstrat_run k ks ss st hll) (bJ (by intro c hc; simp only [List.mem_cons, List.not_mem_nil, or_false] at hc; rcases hc with rfl | rfl; exact jK; exact (.sl _ _ (bL dic1))))) J <| eE (fun h17 => ?_) (fun h17 => ?_)
 rotate_left
 ·refine aF J (dH J) J <| aA (bI J J) J <| Nk [2,3,4,8,19] J <| aR J <| aB <| Rg 2 J <| Ua J J <| Ua J J <| Wn <| aY <| post (n := 0) (.inr J) J ?_ oY
  show _ = ofO ss f st
  unfold ofO; rw [if_pos (.inr h17)]; rfl
 refine aF J (dH J) J <| aA (bI J J) J <| Nk [2,3,4,8,19] J <| aU J <| aE <| aB <| Rg 2 J <| Um J J <| aA (eU J J) J <| aW (fun h21 => ?_) (fun h21 => ?_)
 ·refine Wn <| aR J <| aB <| Rg 3 J <| Um J J <| Ua J J <| Ua J J <| Wn <| aY <| post (n := 0) (.inr J) J ?_ oY
  show _ = ofO ss f st
  unfold ofO; rw [if_neg (by rintro (h | h); exact h13 h; rw [h17] at h; cases h), if_neg h21]; rfl
 refine Wn <| aU J <| aE ?_
 have h0 := Classical.not_not.1 h21
 obtain ⟨hV, hvf, hall, hf0, hf3⟩ := eD_ok h0
 have hV1 := lP hV
 have hn40 := hV1.wt.len
 have hd01 := fac01 hvf hf0 hf3
 have hD := lS hV hd01.1 hd01.2
 obtain ⟨_, hwr, xs, rfl, hxl, hwv, hxb⟩ := worth_run k ks ss (nx f) st hV hvf.bd hd01.1 hd01.2 h17
 have hwe : wor ss (nq f) st = xs.map (·.1) := wor_eq hD h17 (by rw [List.length_map]; exact hxl) hwv
 obtain ⟨oo, hoo⟩ : ∃ oo, (xs.mapM fun x => outN x.1) = oo := ⟨_, rfl⟩
 have hmo : (wor ss (nq f) st).mapM outN = oo := by rw [hwe, pY]; exact hoo
 refine bK (z := 10) J kR <| aC (aM (l := lvMo k ss) J J gG J J) J ?_
 refine aC (aM (l := lvM f) J J gG J J) J ?_
 refine aC (bN (b := lvX (nx f)) (aL J (fS f hf1 hf2 hvf.all3.2.2) dD) J) J <| Dm J J <| aC (aL J (hwr) (bJ (by intro c hc; simp only [List.mem_cons, List.not_mem_nil, or_false] at hc; rcases hc with rfl | rfl | rfl; exact jK; exact jK; exact (.sl _ _ (bL dic1))))) J <| aC (bN (b := .tup [.sl (kd (oo.getD []).length) ((oo.getD []).map mc), .v (.int .i64 (if oo.isSome = true then 0 else 3))]) (aL J (qB 1 xs om) (bJ (by intro c hc; rw [List.mem_singleton] at hc; subst hc; exact (.sl _ _ fun row hr => bL qO row hr)))) (by rw [← hoo]; rfl)) J <| aC (dP J J) J <| aC (dP J J) J <| aC (gL J) J <| aC (gL J) J <| bD (aT kR) J <| Ck [6,7] J <| aQ <| post (n := 0) (.inr J) J ?_ oY
 show _ = ofO ss f st
 unfold ofO; rw [if_neg (show ¬ (eD ss f [] = 1 ∨ vSt ss st = false) from fun h => by rw [h17] at h; simp [h13] at h), if_pos h0, hmo]; rfl
theorem eR (k : Nat) (ns : List NM) (ln : ns.length < 1000) : ∃ r, Run Tryz.prog T E0 (.call 34 [.sl k (ns.map mc)] r) ∧ ∃ b : Bool, r = .v (.bool b) := by
 refine dY Tryz.func34 J J (dJ J) <| Rg 1 J <| Ua J J <| Wn <| aB <| Rg 3 J <| Um J J <| aA (aZ J J) J <| Um J J <| Wn <| aK <| aX (α := Nat) (fun i => [(5, .sl k (ns.map mc)), (6, .v (.int .i64 (ns.length : Int))), (7, .v (.int .i64 (i : Int)))]) (fun i => []) (fun i n => i ≤ ns.length) (fun i => ns.length - i) (0) ⟨J, J, J, trivial⟩ trivial (Nat.zero_le _) ?_
 rintro i n hF
 change WC _ _ _ _ _ (_ :: _) ([]) n _
 have hi := hF
 refine Rg 1 J <| aA (bP J J) J <| aW (fun h8 => ?_) (fun h8 => ?_)
 rotate_left
 ·refine Wn <| aU J <| aV <| aP <| aO J <| Rg 1 J <| Ua J J <| Wn <| aQ ?_
  exact ⟨.v (.bool true), ⟨_, rfl⟩, post (n := 0) (.inr J) J J (.v _)⟩
 refine Wn <| aR J <| aE <| aK <| Rg 4 J <| aA (bQ J J J J J om J) J <| aA (dA (l := lvM (ns.getD i default)) J J J) J <| bA (dS J) J <| bB (cH (cs' := mc (ns.getD i default)) J J J g0 J J J J) <| Wn <| Rg 3 J <| aA (bC J J J J J) J <| aA (aM J J gG J J) J ?_
 refine aA (dT J J) J <| aW (fun h13 => ?_) (fun h13 => ?_)
 ·refine Wn <| bT J <| Rg 1 J <| Ua J J <| Wn <| aQ <| aN <| bF <| aN ?_
  exact ⟨.v (.bool false), ⟨_, rfl⟩, post (n := 0) (.inr J) J J (.v _)⟩
 refine Wn <| bU J <| cA <| aG <| aH (z := 2) J <| aA (cI (((i + 1 : Nat) : Int)) (aS J J om) om) J <| Um J J <| Wn <| aD <| ⟨i + 1, ⟨J, J, J, trivial⟩, trivial, ?_, by show ns.length - (i + 1) < ns.length - i; omega⟩
 show i + 1 ≤ ns.length; omega
theorem gH (k : Nat) (ss : List Go.Ab.ST) (hfw : few6 ss = true) : ∃ r, Run Tryz.prog T E0 (.call 33 [lvMo k ss] r) ∧ ∃ b : Bool, r = .v (.bool b) := by
 obtain ⟨hl1, hl2⟩ := oM hfw
 refine dY Tryz.func33 J J (dJ J) <| Rg 2 J <| bA (dO J J) J <| Ua J J <| Wn <| aB <| Rg 4 J <| aA (bC J J J J J) J <| aA (aM J J gG J J) J ?_
 refine aA (aZ J J) J <| Um J J <| Wn <| aK <| aX (α := Nat) (fun i => [(10, .sl k (ss.map stc)), (11, .v (.int .i64 (ss.length : Int))), (12, .v (.int .i64 (i : Int)))]) (fun i => []) (fun i n => i ≤ ss.length) (fun i => ss.length - i) (0) ⟨J, J, J, trivial⟩ trivial (Nat.zero_le _) ?_
 rintro i n hF
 change WC _ _ _ _ _ (_ :: _) ([]) n _
 have hi := hF
 refine Rg 1 J <| aA (bP J J) J <| aW (fun h13 => ?_) (fun h13 => ?_)
 rotate_left
 ·refine Wn <| aU J <| aV <| aP <| aO J <| Rg 1 J <| Ua J J <| Wn <| aQ ?_
  exact ⟨.v (.bool true), ⟨_, rfl⟩, post (n := 0) (.inr J) J J (.v _)⟩
 refine Wn <| aR J <| aE <| aK <| Rg 4 J <| aA (bQ J J J J J om J) J <| aA (dA (l := .agg (stc (ss.getD i default))) J J J) J <| bA (dS J) J <| bB (cH (cs' := stc (ss.getD i default)) J J J g0 J J J J) <| cE ?_
 obtain ⟨hl3, hl4⟩ := hl2 _ (bE (us := ss) (i := i) om)
 refine Rg 4 J <| aA (bC J J J J J) J <| aA (aM J J gG J J) J ?_
 refine aA (aZ J J) J <| Um J J <| Wn <| cC <| aX (α := Nat) (fun j => [(10, .sl k (ss.map stc)), (11, .v (.int .i64 (ss.length : Int))), (12, .v (.int .i64 (i : Int))), (17, .sl (ss.getD i default).2.1 ((ss.getD i default).2.2.map chc)), (18, .v (.int .i64 ((ss.getD i default).2.2.length : Int))), (19, .v (.int .i64 (j : Int)))]) (fun j => []) (fun j n => j ≤ (ss.getD i default).2.2.length) (fun j => (ss.getD i default).2.2.length - j) (0) ⟨J, J, J, J, J, J, trivial⟩ trivial (Nat.zero_le _) ?_
 rintro j n hF
 change WC _ _ _ _ _ (_ :: _) ([]) n _
 have hj := hF
 refine Rg 1 J <| aA (bP J J) J <| aW (fun h20 => ?_) (fun h20 => ?_)
 rotate_left
 ·refine Wn <| aU J <| aV <| aP <| eM J <| aG <| aH (z := 2) J <| aA (cI (((i + 1 : Nat) : Int)) (aS J J om) om) J <| Um J J <| Wn <| aD <| ⟨i + 1, ⟨J, J, J, trivial⟩, trivial, ?_, by show ss.length - (i + 1) < ss.length - i; omega⟩
  show i + 1 ≤ ss.length; omega
 refine Wn <| aR J <| aE <| aK <| Rg 4 J <| aA (bQ J J J J J om J) J <| aA (dA (l := lvC ((ss.getD i default).2.2.getD j default)) J J J) J <| bA (dS J) J <| bB (cH (cs' := chc ((ss.getD i default).2.2.getD j default)) J J J g0 J J J J) <| Wn <| aB ?_
 have hl5 := hl4 _ (bE (us := (ss.getD i default).2.2) (i := j) om)
 obtain ⟨_, hl1b, b1, rfl⟩ := eR 2 [((ss.getD i default).2.2.getD j default).1] (show (1 : Nat) < 1000 by decide)
 refine Rg 5 J <| aA (bC J J J J J) J <| aA (aM (l := lvM ((ss.getD i default).2.2.getD j default).1) J J gG J J) J ?_
 refine aA (cS (cs := [_, _]) (rows := [[_, _]]) J J (by decide) J J J) J <| aA (aL J (hl1b) (bJ (by intro c hc; rw [List.mem_singleton] at hc; subst hc; exact gY 2 ((ss.getD i default).2.2.getD j default).1))) J <| eE (fun h26 => ?_) (fun h26 => ?_)
 rotate_left
 ·refine aA (dH J) J <| Nk [6,10,11,12,17,18,19,27] J <| aR J <| aB <| Rg 1 J <| Ua J J <| Wn <| aY <| aN <| bF <| dK <| aN <| bF <| aN ?_
  exact ⟨.v (.bool false), ⟨_, rfl⟩, post (n := 0) (.inr J) J J (.v _)⟩
 refine aA (dH J) J <| Nk [6,10,11,12,17,18,19,27] J <| aU J <| aE <| Rg 4 J <| aA (bC J J J J J) J <| aA (aM J J gG J J) J ?_
 refine aA (aZ J J) J <| Um J J <| Wn <| cC <| aX (α := Nat) (fun u => [(10, .sl k (ss.map stc)), (11, .v (.int .i64 (ss.length : Int))), (12, .v (.int .i64 (i : Int))), (17, .sl (ss.getD i default).2.1 ((ss.getD i default).2.2.map chc)), (18, .v (.int .i64 ((ss.getD i default).2.2.length : Int))), (19, .v (.int .i64 (j : Int))), (29, .sl ((ss.getD i default).2.2.getD j default).2.1 (((ss.getD i default).2.2.getD j default).2.2.map brc)), (30, .v (.int .i64 (((ss.getD i default).2.2.getD j default).2.2.length : Int))), (31, .v (.int .i64 (u : Int)))]) (fun u => []) (fun u n => u ≤ ((ss.getD i default).2.2.getD j default).2.2.length) (fun u => ((ss.getD i default).2.2.getD j default).2.2.length - u) (0) ⟨J, J, J, J, J, J, J, J, J, trivial⟩ trivial (Nat.zero_le _) ?_
 rintro u n hF
 change WC _ _ _ _ _ (_ :: _) ([]) n _
 have hu := hF
 refine Rg 1 J <| aA (bP J J) J <| aW (fun h32 => ?_) (fun h32 => ?_)
 rotate_left
 ·refine Wn <| aU J <| aV <| aP <| eM J <| aG <| aH (z := 2) J <| aA (cI (((j + 1 : Nat) : Int)) (aS J J om) om) J <| Um J J <| Wn <| aD <| ⟨j + 1, ⟨J, J, J, J, J, J, trivial⟩, trivial, ?_, by show (ss.getD i default).2.2.length - (j + 1) < (ss.getD i default).2.2.length - j; omega⟩
  show j + 1 ≤ (ss.getD i default).2.2.length; omega
 refine Wn <| aR J <| aE <| aK <| Rg 4 J <| aA (bQ J J J J J om J) J <| aA (dA (l := .agg (brc (((ss.getD i default).2.2.getD j default).2.2.getD u default))) J J J) J <| bA (dS J) J <| bB (cH (cs' := brc (((ss.getD i default).2.2.getD j default).2.2.getD u default)) J J J g0 J J J J) <| cE ?_
 obtain ⟨_, hl2b, b2, rfl⟩ := eR 2 [(((ss.getD i default).2.2.getD j default).2.2.getD u default).2] (show (1 : Nat) < 1000 by decide)
 refine Rg 5 J <| aA (bC J J J J J) J <| aA (aM (l := lvM (((ss.getD i default).2.2.getD j default).2.2.getD u default).2) J J gG J J) J ?_
 refine aA (cS (cs := [_, _]) (rows := [[_, _]]) J J (by decide) J J J) J <| aA (aL J (hl2b) (bJ (by intro c hc; rw [List.mem_singleton] at hc; subst hc; exact gY 2 (((ss.getD i default).2.2.getD j default).2.2.getD u default).2))) J <| eE (fun h38 => ?_) (fun h38 => ?_)
 ·refine aA (dH J) J <| Nk [10,11,12,17,18,19,29,30,31,39] J <| bU J <| cA <| aG <| aH (z := 2) J <| aA (cI (((u + 1 : Nat) : Int)) (aS J J om) om) J <| Um J J <| Wn <| aD <| ⟨u + 1, ⟨J, J, J, J, J, J, J, J, J, trivial⟩, trivial, ?_, by show ((ss.getD i default).2.2.getD j default).2.2.length - (u + 1) < ((ss.getD i default).2.2.getD j default).2.2.length - u; omega⟩
  show u + 1 ≤ ((ss.getD i default).2.2.getD j default).2.2.length; omega
 refine aA (dH J) J <| Nk [10,11,12,17,18,19,29,30,31,39] J <| bT J <| Rg 1 J <| Ua J J <| Wn <| aQ <| aN <| bF <| dK <| aN <| bF <| dK <| aN <| bF <| aN ?_
 exact ⟨.v (.bool false), ⟨_, rfl⟩, post (n := 0) (.inr J) J J (.v _)⟩
theorem pV (k : Nat) (ss : List Go.Ab.ST) (hfw : few6 ss = true) : ∃ r, Run Tryz.prog T E0 (.call 32 [lvMo k ss] r) ∧ ∃ b : Bool, r = .v (.bool b) := by
 obtain ⟨hl1, hl2⟩ := oM hfw
 refine dY Tryz.func32 J J (dJ J) <| Rg 2 J <| bA (dO J J) J <| Ua J J <| Wn <| aB <| Rg 4 J <| aA (bC J J J J J) J <| aA (aM J J gG J J) J ?_
 refine aA (aZ J J) J <| Um J J <| Wn <| aK <| aX (α := Nat) (fun i => [(8, .sl k (ss.map stc)), (9, .v (.int .i64 (ss.length : Int))), (10, .v (.int .i64 (i : Int)))]) (fun i => []) (fun i n => i ≤ ss.length) (fun i => ss.length - i) (0) ⟨J, J, J, trivial⟩ trivial (Nat.zero_le _) ?_
 rintro i n hF
 change WC _ _ _ _ _ (_ :: _) ([]) n _
 have hi := hF
 refine Rg 1 J <| aA (bP J J) J <| aW (fun h11 => ?_) (fun h11 => ?_)
 rotate_left
 ·refine Wn <| aU J <| aV <| aP <| aO J <| Rg 1 J <| Ua J J <| Wn <| aQ ?_
  exact ⟨.v (.bool true), ⟨_, rfl⟩, post (n := 0) (.inr J) J J (.v _)⟩
 refine Wn <| aR J <| aE <| aK <| Rg 4 J <| aA (bQ J J J J J om J) J <| aA (dA (l := .agg (stc (ss.getD i default))) J J J) J <| bA (dS J) J <| bB (cH (cs' := stc (ss.getD i default)) J J J g0 J J J J) <| cE ?_
 obtain ⟨hl3, hl4⟩ := hl2 _ (bE (us := ss) (i := i) om)
 refine Rg 4 J <| aA (bC J J J J J) J <| aA (aM J J gG J J) J ?_
 refine aA (aZ J J) J <| Um J J <| Wn <| cC <| aX (α := Nat) (fun j => [(8, .sl k (ss.map stc)), (9, .v (.int .i64 (ss.length : Int))), (10, .v (.int .i64 (i : Int))), (15, .sl (ss.getD i default).2.1 ((ss.getD i default).2.2.map chc)), (16, .v (.int .i64 ((ss.getD i default).2.2.length : Int))), (17, .v (.int .i64 (j : Int)))]) (fun j => []) (fun j n => j ≤ (ss.getD i default).2.2.length) (fun j => (ss.getD i default).2.2.length - j) (0) ⟨J, J, J, J, J, J, trivial⟩ trivial (Nat.zero_le _) ?_
 rintro j n hF
 change WC _ _ _ _ _ (_ :: _) ([]) n _
 have hj := hF
 refine Rg 1 J <| aA (bP J J) J <| aW (fun h18 => ?_) (fun h18 => ?_)
 rotate_left
 ·refine Wn <| aU J <| aV <| aP <| eM J <| aG <| aH (z := 2) J <| aA (cI (((i + 1 : Nat) : Int)) (aS J J om) om) J <| Um J J <| Wn <| aD <| ⟨i + 1, ⟨J, J, J, trivial⟩, trivial, ?_, by show ss.length - (i + 1) < ss.length - i; omega⟩
  show i + 1 ≤ ss.length; omega
 refine Wn <| aR J <| aE <| aK <| Rg 4 J <| aA (bQ J J J J J om J) J <| aA (dA (l := lvC ((ss.getD i default).2.2.getD j default)) J J J) J <| bA (dS J) J <| bB (cH (cs' := chc ((ss.getD i default).2.2.getD j default)) J J J g0 J J J J) <| Wn <| Rg 4 J <| aA (bC J J J J J) J <| aA (bC J J J J J) J <| aA (aM J J gG J J) J ?_
 refine aA (eU J J) J <| aW (fun h24 => ?_) (fun h24 => ?_)
 rotate_left
 ·refine Wn <| bU J <| cA <| aG <| aH (z := 2) J <| aA (cI (((j + 1 : Nat) : Int)) (aS J J om) om) J <| Um J J <| Wn <| aD <| ⟨j + 1, ⟨J, J, J, J, J, J, trivial⟩, trivial, ?_, by show (ss.getD i default).2.2.length - (j + 1) < (ss.getD i default).2.2.length - j; omega⟩
  show j + 1 ≤ (ss.getD i default).2.2.length; omega
 refine Wn <| bT J <| Rg 1 J <| Ua J J <| Nk [2] J <| aQ <| aN <| bF <| dK <| aN <| bF <| aN ?_
 exact ⟨.v (.bool false), ⟨_, rfl⟩, post (n := 0) (.inr J) J J (.v _)⟩
end Go.Proofs.YtahljdjhhapngaaGreat
namespace Go.Proofs.YtahljdjhhapngaaGreat
open Go.Ab Go.RowKit
theorem law_of (k ks : Nat) (ss : List Go.Ab.ST) (f : NM) (st : List Int) (z : Int) (hI : ∀ s, s ∈ ss → IS s) (hf1 : I64 f.1) (hf2 : I64 f.2) (hz : I64 z) : Run Tryz.prog T E0 (.call 5 [lvMo k ss, lvM f, .sl ks (st.map ic), .v (.int .i64 z)] (.v (.bool true))) := by
 obtain ⟨R, E, hOf, hRl⟩ := ofO_pair ss f st
 obtain ⟨R2, E2, hSt, hRl2⟩ := stO_pair ss f z
 refine bG Tryz.func5 J J (dJ J) ?_
 have J9 : ∀ (hfw : few6 ss = true) (R : List NM) (E : Int) (hOf : ofO ss f st = .tup [.sl (kd R.length) (R.map mc), .v (.int .i64 E)]) (hRl : R.length ≤ ss.length) (hs60 : st.length ≤ 60) (n : Nat) , WC Tryz.prog T E0 Tryz.f5.ntmps (codeR (codeR (codeR (codeR (codeR (codeR (codeOf Tryz.f5))))))) [(2, .sl ks (st.map ic)), (3, .v (.int .i64 z)), (4, .ptr 0 0), (5, .ptr (0 + 1) 0), (9, .v (.int .i64 E)), (10, .sl (kd R.length) (R.map mc))] [((0 + 1), { cells := mc f, sz := 2, elem := (26), st := 0 }), (0, { cells := [.sl k (ss.map stc)], sz := 1, elem := (24), st := 0 })] n (Post T Tryz.f5.results.toList (.v (.bool true))) := by
  intro hfw R E hOf hRl hs60 n
  have hl45 := (oM hfw).1
  refine Rg 9 J <| aA (aM (l := lvMo k ss) J J gG J J) J ?_
  refine aA (aM (l := lvM f) J J gG J J) J ?_
  refine Um J J <| aA (bN (b := .tup [.sl (kd R2.length) (R2.map mc), .v (.int .i64 E2)]) (aL J (qsteps_run k ss f z hI hf1 hf2 hz) (bJ (by intro c hc; simp only [List.mem_cons, List.not_mem_nil, or_false] at hc; rcases hc with rfl | rfl | rfl; exact jK; exact jK; exact (.v _)))) hSt) J <| Um J J <| aA (dP J J) J <| aA (dP J J) J <| Ua J J <| Ua J J <| Nk [2,3,4,5,9,10,11,12] J <| Rg 9 J <| aA (aM (l := lvMo k ss) J J gG J J) J ?_
  refine aA (aM (l := lvM f) J J gG J J) J ?_
  refine Um J J <| aA (bN (b := .tup [.sl (kd R.length) (R.map mc), .v (.int .i64 E)]) (aL J (dof_run k ks ss f st hI hf1 hf2 om) (bJ (by intro c hc; simp only [List.mem_cons, List.not_mem_nil, or_false] at hc; rcases hc with rfl | rfl | rfl; exact jK; exact jK; exact (.sl _ _ (bL dic1))))) hOf) J <| Um J J <| aA (dP J J) J <| aA (dP J J) J <| Ua J J <| Ua J J <| Nk [3,4,5,9,10,11,12,13,14] J <| Rg 9 J <| aA (aM (l := lvMo k ss) J J gG J J) J ?_
  refine aA (aM (l := lvM f) J J gG J J) J ?_
  refine Um J J <| aA (bN (b := .tup [.sl (kd R2.length) (R2.map mc), .v (.int .i64 E2)]) (aL J (dsteps_run k ss f z hI hf1 hf2 hz) (bJ (by intro c hc; simp only [List.mem_cons, List.not_mem_nil, or_false] at hc; rcases hc with rfl | rfl | rfl; exact jK; exact jK; exact (.v _)))) hSt) J <| Um J J <| aA (dP J J) J <| aA (dP J J) J <| Ua J J <| Ua J J <| Nk [9,10,11,12,13,14,15,16] J <| Rg 22 J <| Um J J <| Um J J <| aA (bN (b := .v (.bool true)) (eK J J) (by simp)) J <| Um J J <| aF J (dL J) J <| aF J (dL J) J <| aF J (aL J (mS _ _ R om) (bJ (by intro c hc; simp only [List.mem_cons, List.not_mem_nil, or_false] at hc; rcases hc with rfl | rfl; exact (.sl _ _ fun row hr => bL dmc row hr); exact (.sl _ _ fun row hr => bL dmc row hr)))) J <| aA (bH J J) J <| Um J J <| aF J (dL J) J <| aF J (dL J) J <| aF J (bN (b := .v (.bool true)) (eK J J) (by simp)) J <| aA (bH J J) J <| Um J J ?_
  refine aF J (dL J) J <| aF J (dL J) J <| aF J (aL J (mS _ _ R2 om) (bJ (by intro c hc; simp only [List.mem_cons, List.not_mem_nil, or_false] at hc; rcases hc with rfl | rfl; exact (.sl _ _ fun row hr => bL dmc row hr); exact (.sl _ _ fun row hr => bL dmc row hr)))) J <| aA (bH J J) J <| Um J J <| aF J (aL J (iY) dD) J <| aA (bH J J) J <| Ua J J <| Nk [8] J <| aQ <| post (n := 0) (.inr J) J ?_ dD
  rfl
 have J3 : ∀ (hfw : few6 ss = true) (hs60 : st.length ≤ 60) (n : Nat) , WC Tryz.prog T E0 Tryz.f5.ntmps (codeR (codeR (codeOf Tryz.f5))) [(2, .sl ks (st.map ic)), (3, .v (.int .i64 z)), (4, .ptr 0 0), (5, .ptr (0 + 1) 0)] [((0 + 1), { cells := mc f, sz := 2, elem := (26), st := 0 }), (0, { cells := [.sl k (ss.map stc)], sz := 1, elem := (24), st := 0 })] n (Post T Tryz.f5.results.toList (.v (.bool true))) := by
  intro hfw hs60 n
  refine Rg 4 J <| aA (aM (l := lvMo k ss) J J gG J J) J ?_
  refine aA (aM (l := lvM f) J J gG J J) J ?_
  refine aA (aL J (qasked_run k 0 ss f [] hI hf1 hf2 (by intro a ha; cases ha) (by decide)) (bJ (by intro c hc; simp only [List.mem_cons, List.not_mem_nil, or_false] at hc; rcases hc with rfl | rfl | rfl; exact jK; exact jK; exact (.sl 0 [] (by simp))))) J <| Ua J J <| Wn <| Rg 1 J <| Ua J J <| Wn <| aB <| Rg 8 J <| Um J J <| aA (eU J J) J <| aW (fun h59 => ?_) (fun h59 => ?_)
  rotate_left
  ·refine Um J J <| K1 J J <| K1 J J <| K1 J J <| K1 J J <| aA (bI J J) J <| Nk [2,3,4,5,9,10,65] J <| aU J <| aE <| aB <| Rg 2 J <| Um J J <| aA (eK J J) J <| aW (fun h67 => ?_) (fun h67 => ?_)
   ·omega
   refine Wn <| aU J <| aE <| Ck [2,3,4,5,9,10] J <| dN [((0 + 1), { cells := mc f, sz := 2, elem := (26), st := 0 }), (0, { cells := [.sl k (ss.map stc)], sz := 1, elem := (24), st := 0 })] ⟨gG, gG, trivial⟩ ?_
   first | (have h9 := fV (hOf.symm.trans (ofO_1 (Classical.not_not.1 h59))); obtain ⟨rfl, rfl⟩ := h9; exact J9 hfw _ _ hOf hRl hs60 _) | (have h9 := fV (hOf.symm.trans (ofO_2 h63)); obtain ⟨rfl, rfl⟩ := h9; exact J9 hfw _ _ hOf hRl hs60 _) | (have h9 := fV (hOf.symm.trans (ofO_3 h59 h63 h67)); obtain ⟨rfl, rfl⟩ := h9; exact J9 hfw _ _ hOf hRl hs60 _) | exact J9 hfw _ _ hOf hRl hs60 _
  refine Um J J <| aF J (aM (l := lvMo k ss) J J gG J J) J ?_
  refine aF J (dL J) J <| aF J (aL J (qstrat_run k ks ss st om) (bJ (by intro c hc; simp only [List.mem_cons, List.not_mem_nil, or_false] at hc; rcases hc with rfl | rfl; exact jK; exact (.sl _ _ (bL dic1))))) J <| eE (fun h63 => ?_) (fun h63 => ?_)
  rotate_left
  ·refine aF J (dH J) J <| aA (bH J J) J <| Nk [2,3,4,5,9,10,65] J <| aR J <| Rg 1 J <| Ua J J <| Wn <| aB <| Rg 2 J <| Um J J <| aA (eK J J) J <| aW (fun h67 => ?_) (fun h67 => ?_)
   ·omega
   refine Wn <| aU J <| aE <| Ck [2,3,4,5,9,10] J <| dN [((0 + 1), { cells := mc f, sz := 2, elem := (26), st := 0 }), (0, { cells := [.sl k (ss.map stc)], sz := 1, elem := (24), st := 0 })] ⟨gG, gG, trivial⟩ ?_
   first | (have h9 := fV (hOf.symm.trans (ofO_1 (Classical.not_not.1 h59))); obtain ⟨rfl, rfl⟩ := h9; exact J9 hfw _ _ hOf hRl hs60 _) | (have h9 := fV (hOf.symm.trans (ofO_2 h63)); obtain ⟨rfl, rfl⟩ := h9; exact J9 hfw _ _ hOf hRl hs60 _) | (have h9 := fV (hOf.symm.trans (ofO_3 h59 h63 h67)); obtain ⟨rfl, rfl⟩ := h9; exact J9 hfw _ _ hOf hRl hs60 _) | exact J9 hfw _ _ hOf hRl hs60 _
  refine aF J (dH J) J <| aA (bH J J) J <| Nk [2,3,4,5,9,10,65] J <| aU J <| aE <| aB <| Rg 2 J <| Um J J <| aA (eK J J) J <| aW (fun h67 => ?_) (fun h67 => ?_)
  rotate_left
  ·refine Wn <| aU J <| aE <| Ck [2,3,4,5,9,10] J <| dN [((0 + 1), { cells := mc f, sz := 2, elem := (26), st := 0 }), (0, { cells := [.sl k (ss.map stc)], sz := 1, elem := (24), st := 0 })] ⟨gG, gG, trivial⟩ ?_
   first | (have h9 := fV (hOf.symm.trans (ofO_1 (Classical.not_not.1 h59))); obtain ⟨rfl, rfl⟩ := h9; exact J9 hfw _ _ hOf hRl hs60 _) | (have h9 := fV (hOf.symm.trans (ofO_2 h63)); obtain ⟨rfl, rfl⟩ := h9; exact J9 hfw _ _ hOf hRl hs60 _) | (have h9 := fV (hOf.symm.trans (ofO_3 h59 h63 h67)); obtain ⟨rfl, rfl⟩ := h9; exact J9 hfw _ _ hOf hRl hs60 _) | exact J9 hfw _ _ hOf hRl hs60 _
  refine Wn <| aR J ?_
  obtain ⟨hV, hvf, hall, hf0, hf3⟩ := eD_ok h67
  have hl45 := (oM hfw).1
  have hd01 := fac01 hvf hf0 hf3
  have hwl := wor_len ss (nq f) st
  refine bK (z := 11) J kR <| aC (aM (l := lvMo k ss) J J gG J J) J ?_
  refine aC (aM (l := lvM f) J J gG J J) J ?_
  refine aC (bN (b := lvQ (nq f)) (aL J (kA f hf1 hf2 hvf) dD) J) J <| Dm J J <| aC (aL J (qworth_run k ks ss (nq f) st hV hvf.bd hd01.1 hd01.2 h63) (bJ (by intro c hc; simp only [List.mem_cons, List.not_mem_nil, or_false] at hc; rcases hc with rfl | rfl | rfl; exact jK; exact jK; exact (.sl _ _ (bL dic1))))) J <| aC (bN (b := .tup [.sl (kd R.length) (R.map mc), .v (.int .i64 E)]) (aL J (qnums_run 1 (wor ss (nq f) st) om) (bJ (by intro c hc; rw [List.mem_singleton] at hc; subst hc; exact (.sl _ _ fun row hr => bL dqc row hr)))) ((ofO_4 h63 h67).symm.trans hOf)) J <| Dm J J <| aC (dP J J) J <| aC (dP J J) J <| aC (gL J) J <| aC (gL J) J <| bD (aT kR) J <| Ck [2,3,4,5,9,10] J <| Ck [2,3,4,5,9,10] J <| dN [((0 + 1), { cells := mc f, sz := 2, elem := (26), st := 0 }), (0, { cells := [.sl k (ss.map stc)], sz := 1, elem := (24), st := 0 })] ⟨gG, gG, trivial⟩ ?_
  first | (have h9 := fV (hOf.symm.trans (ofO_1 (Classical.not_not.1 h59))); obtain ⟨rfl, rfl⟩ := h9; exact J9 hfw _ _ hOf hRl hs60 _) | (have h9 := fV (hOf.symm.trans (ofO_2 h63)); obtain ⟨rfl, rfl⟩ := h9; exact J9 hfw _ _ hOf hRl hs60 _) | (have h9 := fV (hOf.symm.trans (ofO_3 h59 h63 h67)); obtain ⟨rfl, rfl⟩ := h9; exact J9 hfw _ _ hOf hRl hs60 _) | exact J9 hfw _ _ hOf hRl hs60 _
 refine Rg 3 J <| bA (dO J J) J <| bA (dO J J) J <| Ua J J <| Wn <| aB <| Rg 37 J <| aA (aM (l := lvMo k ss) J J gG J J) J ?_
 refine Um J J <| aA (aL J (dfew_run k ks 0 ss st []) (bJ (by intro c hc; simp only [List.mem_cons, List.not_mem_nil, or_false] at hc; rcases hc with rfl | rfl | rfl; exact jK; exact (.sl _ _ (bL dic1)); exact (.sl 0 [] (by simp))))) J <| eE (fun h19 => ?_) (fun h19 => ?_)
 rotate_left
 ·refine aA (dH J) J <| Um J J <| K1 J J <| K1 J J <| K1 J J <| K1 J J <| K1 J J <| K1 J J <| K1 J J <| K1 J J <| K1 J J <| K1 J J <| K1 J J <| K1 J J <| K1 J J <| K1 J J <| K1 J J <| K1 J J <| K1 J J <| K1 J J <| K1 J J <| K1 J J <| K1 J J <| K1 J J ?_
  refine K1 J J <| K1 J J <| K1 J J ?_
  obtain ⟨_, hlg, b3, rfl⟩ := eR 2 [f] (show (1 : Nat) < 1000 by decide)
  refine K1 J J <| K1 J J <| K1 J J <| K1 J J <| K1 J J <| K1 J J <| aA (bH J J) J <| Nk [2,3,4,5,53] J <| aR J <| aB <| Rg 2 J <| aA (aL J (iY) dD) J <| Ua J J <| Wn <| aY ?_
  exact post (n := 0) (.inr J) J J (by simp)
 refine aA (dH J) J <| Um J J ?_
 obtain ⟨hfw, hs60⟩ := few_of h19
 refine aF J (dL J) J <| aF J (dT J J) J <| aW (fun h23 => ?_) (fun h23 => ?_)
 rotate_left
 ·refine aF J (dL J) J <| K1 J J <| K1 J J <| aF J (bI J J) J <| aF J (dL J) J ?_
  obtain ⟨_, hfr, b1, rfl⟩ := pV k ss hfw
  refine K1 J J <| K1 J J <| K1 J J <| aF J (bI J J) J <| aF J (dL J) J <| K1 J J <| K1 J J <| K1 J J <| K1 J J <| K1 J J <| K1 J J <| K1 J J <| K1 J J <| K1 J J ?_
  obtain ⟨_, hlm, b2, rfl⟩ := gH k ss hfw
  refine K1 J J <| K1 J J <| K1 J J <| K1 J J ?_
  obtain ⟨_, hlg, b3, rfl⟩ := eR 2 [f] (show (1 : Nat) < 1000 by decide)
  refine K1 J J <| K1 J J <| K1 J J <| K1 J J <| K1 J J <| aF J (bI J J) J <| aA (bI J J) J <| Nk [2,3,4,5,53] J <| aU J <| aE <| Ck [2,3,4,5] J <| dN [((0 + 1), { cells := mc f, sz := 2, elem := (26), st := 0 }), (0, { cells := [.sl k (ss.map stc)], sz := 1, elem := (24), st := 0 })] ⟨gG, gG, trivial⟩ ?_
  exact J3 hfw hs60 _
 refine aF J (dL J) J <| aF J (dL J) J <| aF J (mA J J) J <| aW (fun h26 => ?_) (fun h26 => ?_)
 rotate_left
 ·refine aF J (bH J J) J <| aF J (dL J) J ?_
  obtain ⟨_, hfr, b1, rfl⟩ := pV k ss hfw
  refine K1 J J <| K1 J J <| K1 J J <| aF J (bI J J) J <| aF J (dL J) J <| K1 J J <| K1 J J <| K1 J J <| K1 J J <| K1 J J <| K1 J J <| K1 J J <| K1 J J <| K1 J J ?_
  obtain ⟨_, hlm, b2, rfl⟩ := gH k ss hfw
  refine K1 J J <| K1 J J <| K1 J J <| K1 J J ?_
  obtain ⟨_, hlg, b3, rfl⟩ := eR 2 [f] (show (1 : Nat) < 1000 by decide)
  refine K1 J J <| K1 J J <| K1 J J <| K1 J J <| K1 J J <| aF J (bI J J) J <| aA (bI J J) J <| Nk [2,3,4,5,53] J <| aU J <| aE <| Ck [2,3,4,5] J <| dN [((0 + 1), { cells := mc f, sz := 2, elem := (26), st := 0 }), (0, { cells := [.sl k (ss.map stc)], sz := 1, elem := (24), st := 0 })] ⟨gG, gG, trivial⟩ ?_
  exact J3 hfw hs60 _
 refine aF J (bH J J) J <| aF J (dL J) J ?_
 obtain ⟨_, hfr, b1, rfl⟩ := pV k ss hfw
 refine aF J (aM (l := lvMo k ss) J J gG J J) J ?_
 refine aF J (aL J (hfr) dD) J <| eE (fun h30 => ?_) (fun h30 => ?_)
 ·refine aF J (dH J) J <| aF J (bH J J) J <| aF J (dL J) J <| K1 J J <| K1 J J <| K1 J J <| K1 J J <| K1 J J <| K1 J J <| K1 J J <| K1 J J <| K1 J J ?_
  obtain ⟨_, hlm, b2, rfl⟩ := gH k ss hfw
  refine K1 J J <| K1 J J <| K1 J J <| K1 J J ?_
  obtain ⟨_, hlg, b3, rfl⟩ := eR 2 [f] (show (1 : Nat) < 1000 by decide)
  refine K1 J J <| K1 J J <| K1 J J <| K1 J J <| K1 J J <| aF J (bI J J) J <| aA (bI J J) J <| Nk [2,3,4,5,53] J <| aU J <| aE <| Ck [2,3,4,5] J <| dN [((0 + 1), { cells := mc f, sz := 2, elem := (26), st := 0 }), (0, { cells := [.sl k (ss.map stc)], sz := 1, elem := (24), st := 0 })] ⟨gG, gG, trivial⟩ ?_
  exact J3 hfw hs60 _
 refine aF J (dH J) J <| aF J (bH J J) J <| aF J (dL J) J <| aF J (dL J) J <| aF J (mA J J) J <| aW (fun h35 => ?_) (fun h35 => ?_)
 rotate_left
 ·refine aF J (dL J) J <| K1 J J <| K1 J J <| K1 J J <| K1 J J <| aF J (bI J J) J <| aF J (dL J) J ?_
  obtain ⟨_, hlm, b2, rfl⟩ := gH k ss hfw
  refine K1 J J <| K1 J J <| aF J (bI J J) J <| aF J (dL J) J ?_
  obtain ⟨_, hlg, b3, rfl⟩ := eR 2 [f] (show (1 : Nat) < 1000 by decide)
  refine K1 J J <| K1 J J <| K1 J J <| aF J (bI J J) J <| aF J (dH J) J <| aF J (bH J J) J <| aA (bI J J) J <| Nk [2,3,4,5,53] J <| aR J <| aB <| Rg 2 J <| aA (aL J (iY) dD) J <| Ua J J <| Wn <| aY ?_
  exact post (n := 0) (.inr J) J J (by simp)
 refine aF J (dL J) J <| aF J (bC J J J J J) J <| aF J (aM J J gG J J) J ?_
 refine aF J (aZ J J) J <| aF J (mA J J) J <| aW (fun h40 => ?_) (fun h40 => ?_)
 rotate_left
 ·refine aF J (bH J J) J <| aF J (dL J) J ?_
  obtain ⟨_, hlm, b2, rfl⟩ := gH k ss hfw
  refine K1 J J <| K1 J J <| aF J (bI J J) J <| aF J (dL J) J ?_
  obtain ⟨_, hlg, b3, rfl⟩ := eR 2 [f] (show (1 : Nat) < 1000 by decide)
  refine K1 J J <| K1 J J <| K1 J J <| aF J (bI J J) J <| aF J (dH J) J <| aF J (bH J J) J <| aA (bI J J) J <| Nk [2,3,4,5,53] J <| aR J <| aB <| Rg 2 J <| aA (aL J (iY) dD) J <| Ua J J <| Wn <| aY ?_
  exact post (n := 0) (.inr J) J J (by simp)
 refine aF J (bH J J) J <| aF J (dL J) J ?_
 obtain ⟨_, hlm, b2, rfl⟩ := gH k ss hfw
 refine aF J (aM (l := lvMo k ss) J J gG J J) J ?_
 refine aF J (aL J (hlm) dD) J <| eE (fun h44 => ?_) (fun h44 => ?_)
 rotate_left
 ·refine aF J (bH J J) J <| aF J (dL J) J ?_
  obtain ⟨_, hlg, b3, rfl⟩ := eR 2 [f] (show (1 : Nat) < 1000 by decide)
  refine K1 J J <| K1 J J <| K1 J J <| aF J (bI J J) J <| aF J (dH J) J <| aF J (bH J J) J <| aA (bI J J) J <| Nk [2,3,4,5,53] J <| aR J <| aB <| Rg 2 J <| aA (aL J (iY) dD) J <| Ua J J <| Wn <| aY ?_
  exact post (n := 0) (.inr J) J J (by simp)
 refine aF J (bH J J) J <| aF J (dL J) J ?_
 obtain ⟨_, hlg, b3, rfl⟩ := eR 2 [f] (show (1 : Nat) < 1000 by decide)
 refine aF J (aM (l := lvM f) J J gG J J) J ?_
 refine aF J (cS (cs := [_, _]) (rows := [[_, _]]) J J (by decide) J J J) J <| aF J (aL J (hlg) (bJ (by intro c hc; rw [List.mem_singleton] at hc; subst hc; exact gY 2 f))) J <| eE (fun h49 => ?_) (fun h49 => ?_)
 ·refine aF J (bH J J) J <| aF J (dH J) J <| aF J (bH J J) J <| aA (bI J J) J <| Nk [2,3,4,5,53] J <| aU J <| aE <| Ck [2,3,4,5] J <| dN [((0 + 1), { cells := mc f, sz := 2, elem := (26), st := 0 }), (0, { cells := [.sl k (ss.map stc)], sz := 1, elem := (24), st := 0 })] ⟨gG, gG, trivial⟩ ?_
  exact J3 hfw hs60 _
 refine aF J (bH J J) J <| aF J (dH J) J <| aF J (bH J J) J <| aA (bI J J) J <| Nk [2,3,4,5,53] J <| aR J <| aB <| Rg 2 J <| aA (aL J (iY) dD) J <| Ua J J <| Wn <| aY ?_
 exact post (n := 0) (.inr J) J J (by simp)
end Go.Proofs.YtahljdjhhapngaaGreat
