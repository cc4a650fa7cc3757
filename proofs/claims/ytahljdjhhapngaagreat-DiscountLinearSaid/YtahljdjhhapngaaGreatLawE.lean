/- Part E of the proof of discountLinear_holds: what it rests on. No condition. -/
import Derived.Test.YtahljdjhhapngaaGreatLawD
set_option linter.unusedVariables false
set_option linter.unusedSimpArgs false
set_option maxRecDepth 100000
set_option maxHeartbeats 8000000
namespace Go.Proofs.YtahljdjhhapngaaGreat
open Go.Ab Go.RowKit
theorem nA (ka kb : Nat) (al bl : List X) (c : X) (ln : al.length < 1099511627776) (hl : al.length ≤ bl.length) (ha : ∀ x, x ∈ al → Bd 34359738368 x.1) (hb : ∀ x, x ∈ bl → Bd 34359738368 x.1) (hc : Bd 34359738368 c.1) : ∃ r, Run Tryz.prog T E0 (.call 145 [.sl ka (al.map xc), lvX c, .sl kb (bl.map xc)] r) ∧ ∃ ds : List X, r = .sl 1 (ds.map xc) ∧ ds.map (·.1) = rad (al.map (·.1)) (rsc c.1 (bl.map (·.1))) := by
 refine eU Tryz.func145 J J (dL J) <| Rg 2 J <| bD (dW J J) J <| Ua J J <| Wn <| Rg 4 J <| Um J J <| aA (bB J J) J <| bD (oMk (a := al.length) (b := al.length) J J J J om om (by decide) om (by show 64 * al.length ≤ _; omega) om) J <| Ua J J <| Wn <| aB <| Rg 3 J <| Um J J <| aA (bB J J) J <| Um J J <| Wn <| aL <| bC (α := Nat × (List X)) (fun ⟨i, us⟩ => [(0, .sl ka (al.map xc)), (2, .sl kb (bl.map xc)), (4, .ptr (0 + 0) 0), (7, .ref (0 + 2 + 2) 4 0 us.length), (13, .v (.int .i64 (al.length : Int))), (14, .v (.int .i64 (i : Int)))]) (fun ⟨i, us⟩ => [(0 + 2 + 2, { cells := (us.map xc).flatten, sz := 4, elem := 102, st := 0 }), (0, { cells := xc c, sz := 4, elem := 102, st := 0 })]) (fun ⟨i, us⟩ n => i ≤ al.length ∧ us.length = al.length ∧ (∀ j, j < i → (us.getD j default).1 = (al.getD j default).1 + c.1 * (bl.getD j default).1)) (fun ⟨i, us⟩ => al.length - i) (0, List.replicate al.length x0) ⟨rfl, rfl, rfl, congrArg some (by rw [List.length_replicate]; rfl), rfl, rfl, trivial⟩ ⟨g0.trans (by rw [List.map_replicate]; rfl), g1 (by decide) g0, trivial⟩ ⟨Nat.zero_le _, by simp, by intro j hj; omega⟩ ?_
 rintro ⟨i, us⟩ n hF
 change WC _ _ _ _ _ (_ :: _) (_ :: _) n _
 obtain ⟨hi, hul, hus⟩ := hF
 refine Rg 1 J <| aA (bP J J) J <| aY (fun h15 => ?_) (fun h15 => ?_)
 rotate_left
 ·refine Wn <| aV J <| aW <| aT <| aR J <| Rg 2 J <| Um J J <| Ua J J <| Wn <| aP <| ⟨.sl 1 (us.map xc), ⟨us, rfl, ?_⟩, rH (n := 0) _ (.inr J) J (by simp) g0 (by show (0 : Nat) ≠ 2; decide) J (by decide) J (cU (n := 4) (fun _ => rfl)) (cL dxc)⟩
  refine list_eq (by rw [mG]; simp; omega) fun j hj => ?_
  simp only [List.length_map] at hj
  rw [gQ rfl, oK (by simp; omega), oM, gQ rfl, gQ rfl]
  exact hus j om
 refine Wn <| aS J <| aE <| aL <| Rg 2 J <| Um J J <| Ua J J <| cQ ?_
 have hma := bG (us := al) (i := i) om
 have hmb := bG (us := bl) (i := i) om
 refine Rg 8 J <| Um J J <| Um J J <| Um J J <| Um J J <| aA (bQ J J J J J om J) J <| aA (dJ (l := .agg [_, _, _, _]) J J J) J <| aA (cG J J J J J om J) J <| aZ (eJ (f := xc) (us := us) (al.getD i default) J J J g0 (fun _ => rfl) J J om J) <| Nk [0,2,4,7,8,13,14] J <| Rg 6 J <| Um J J <| Um J J <| aA (bQ J J J J J om J) J <| aA (dJ (l := .agg [_, _, _, _]) J J J) J <| aA (aK J (iV (bl.getD i default)) (by first | (simp [-cJ]; done) | simp)) J <| aA (fV J J) J <| aY (fun h29 => ?_) (fun h29 => ?_)
 rotate_left
 ·refine Wn <| bX J <| cP <| aG <| aI (z := 2) J <| aA (cI (((i + 1 : Nat) : Int)) (aU J J om) om) J <| Um J J <| Wn <| aF <| ⟨⟨i + 1, us.set i (al.getD i default)⟩, ⟨rfl, rfl, rfl, congrArg some (by rw [List.length_set]), rfl, rfl, trivial⟩, ⟨g0, g1 (by decide) (g1 (by decide) g0), trivial⟩, ⟨om, by rw [List.length_set]; exact hul, ?_⟩, by show al.length - (i + 1) < al.length - i; omega⟩
  intro j hj
  rw [cD om]
  by_cases e : i = j
  ·subst e; rw [if_pos rfl, fY.1 (show (bl.getD i default).1.num.sign = 0 by omega), Rat.mul_zero, Rat.add_zero]
  ·rw [if_neg e]; exact hus j om
 refine Wn <| bW J <| dF (z := 15) J kR <| Dm J J <| Dm J J <| Dm J J <| Dm J J <| aC (bQ J J J J J om J) J <| aC (dJ (l := .agg [_, _, _, _]) J J J) J <| aC (aM (l := .agg [_, _, _, _]) J J (g1 (by decide) (g1 (by decide) g0)) J J) J <| Dm J J <| Dm J J <| aC (bQ J J J J J om J) J <| aC (dJ (l := .agg [_, _, _, _]) J J J) J <| aC (aK J (jH c (bl.getD i default) (hc.mono om) ((hb _ hmb).mono om)) (by first | (simp [-cJ]; done) | simp)) J <| aC (aK J (jG (al.getD i default) (xmul c (bl.getD i default)) ((ha _ hma).mono om) ((hc.mul (hb _ hmb)).mono om)) (by first | (simp [-cJ]; done) | simp)) J <| aC (cG J J J J J om J) J <| cC (eJ (f := xc) (us := us.set i (al.getD i default)) (xadd (al.getD i default) (xmul c (bl.getD i default))) J J J g0 (fun _ => rfl) J J (by rw [List.length_set]; omega) J) <| bE (aQ kR) J <| aG <| Ck [0,2,4,7,13,14] J <| aI (z := 2) J <| aA (cI (((i + 1 : Nat) : Int)) (aU J J om) om) J <| Um J J ?_
 refine Wn <| aF <| ⟨⟨i + 1, ((us.set i (al.getD i default)).set i (xadd (al.getD i default) (xmul c (bl.getD i default))))⟩, ⟨rfl, rfl, rfl, congrArg some (by rw [List.length_set, List.length_set]), rfl, rfl, trivial⟩, ⟨g0, g1 (by decide) (g1 (by decide) (g1 (by decide) g0)), trivial⟩, ⟨om, by rw [List.length_set, List.length_set]; exact hul, ?_⟩, by show al.length - (i + 1) < al.length - i; omega⟩
 intro j hj
 rw [set_set', cD om]
 by_cases e : i = j
 ·subst e; rw [if_pos rfl]; rfl
 ·rw [if_neg e]; exact hus j om
theorem qB (ka : Nat) (al : List X) (c : X) (ln : al.length < 1099511627776) (ha : ∀ x, x ∈ al → Bd 34359738368 x.1) (hc : Bd 34359738368 c.1) : ∃ r, Run Tryz.prog T E0 (.call 144 [.sl ka (al.map xc), lvX c] r) ∧ ∃ ds : List X, r = .sl 1 (ds.map xc) ∧ ds.map (·.1) = rsc c.1 (al.map (·.1)) := by
 obtain ⟨r, hr, ds, rfl, hds⟩ := nA 1 ka (List.replicate al.length x0) al c (by simp; omega) (by simp) (by intro x hx; rw [(List.mem_replicate.1 hx).2]; exact Bd0 (by decide)) ha hc
 have hv : ds.map (·.1) = rsc c.1 (al.map (·.1)) := by
  rw [hds]
  refine list_eq (by rw [mG, rsc_len]; simp) fun j hj => ?_
  rw [mG] at hj
  rw [oK hj]
  have : ((List.replicate al.length x0).map (·.1)).getD j default = 0 := by
   rw [gQ rfl]
   simp only [List.getD_eq_getElem?_getD, List.getElem?_replicate]
   split <;> rfl
  rw [this, Rat.zero_add]
 refine eU Tryz.func144 J J (dL J) <| Rg 2 J <| bD (dW J J) J <| Ua J J <| Wn <| bL (z := 7) J kR <| Dm J J <| aC (bB J J) J <| qM (oMk (a := al.length) (b := al.length) J J J J om om (by decide) om (by show 64 * al.length ≤ _; omega) om) J <| aC (aM (l := .agg [_, _, _, _]) J J (g1 (by decide) g0) J J) J <| Dm J J <| qM (jR [.sl 1 ((List.replicate al.length x0).map xc), lvX c, .sl ka (al.map xc)] [(0 + 2 + 2, { cells := ((List.replicate al.length x0).map xc).flatten, sz := 4, elem := 102, st := 1 })] J hr (.own (ob := { cells := ((List.replicate al.length x0).map xc).flatten, sz := 4, elem := 102, st := 0 }) _ (by simp) (g0.trans (by rw [List.map_replicate]; rfl)) (by show (0 : Nat) ≠ 2; decide) J (by decide) (by simp [keys]) J (cU (n := 4) (fun _ => rfl)) (cL dxc) (.data (by simp) (.data (by simp [-cJ]) .nil))) (by intro p hp; rw [List.mem_singleton] at hp; subst hp; exact ⟨{ cells := ((List.replicate al.length x0).map xc).flatten, sz := 4, elem := 102, st := 0 }, g0.trans (by rw [List.map_replicate]; rfl), by show (0 : Nat) ≠ 2; decide, rfl⟩)) J <| aC (jJ J) J <| bE (aQ kR) J <| aP ?_
 exact ⟨_, ⟨ds, rfl, hv⟩, post (n := 0) (.inr J) J J (by first | (simp [-cJ]; done) | simp)⟩
theorem clone_own (rows : List X1) (hne : 0 < rows.length) (ln : rows.length < 1099511627776) : ∃ sz len ob, Run Tryz.prog T E0 (.callO 143 [.sl 1 (rows.map fX)] (.ref 0 sz 0 len) ob) ∧ sz = 1 ∧ len = rows.length ∧ ob = { cells := (rows.map fX).flatten, sz := 1, elem := 104, st := 0 } := by
 refine rD Tryz.func143 J J (dL J) <| Rg 1 J <| Ua J J <| Wn <| aB <| Rg 2 J <| Um J J <| aA (bN (b := .v (.bool false)) (mV J J) J) J <| Wn <| aV J <| aE <| Rg 4 J <| aA (dA (cs := []) (rows := []) J J (by decide) J J J) J <| Um J J <| bD (oApS (xs := []) (rows := rows.map fX) J J J J J (by decide) (by simp) (cU (f := fX) (n := 1) (fun _ => rfl)) (by simpa using hne) (by rw [List.length_map]; show (2 * (0 + rows.length) + 256) * 24 ≤ _; omega) (by rw [List.length_map]; show 0 + rows.length < _; omega)) J <| Ua J J <| Wn <| aP <| ⟨1, rows.length, { cells := (rows.map fX).flatten, sz := 1, elem := 104, st := 0 }, ⟨rfl, rfl, rfl⟩, .inr J, _, congrArg some (congrArg (fun z => [LV.ref _ 1 0 z]) (show ([] : List (List LV)).length + (rows.map fX).length = rows.length by simp)), g0, rfl, rfl, ?_⟩
 intro c hc; obtain ⟨row, hr, hc⟩ := List.mem_flatten.1 hc; exact cL dfX row hr c hc
end Go.Proofs.YtahljdjhhapngaaGreat
namespace Go.Proofs.YtahljdjhhapngaaGreat
open Go.Ab Go.RowKit
theorem nsame_run (k1 k2 : Nat) (ns : List NM) (ln : ns.length < 1099511627776) : Run Tryz.prog T E0 (.call 19 [.sl k1 (ns.map mc), .sl k2 (ns.map mc)] (.v (.bool true))) := by
 refine bH Tryz.func19 J J (dL J) <| Rg 1 J <| Ua J J <| Wn <| aB <| Rg 5 J <| Um J J <| aA (bB J J) J <| Um J J <| aA (bB J J) J <| aA (fV J J) J <| aY (fun h10 => ?_) (fun h10 => ?_)
 ·exact absurd J h10
 refine Wn <| aV J <| aE <| aB <| Rg 3 J <| Um J J <| aA (bB J J) J <| Um J J <| Wn <| aL <| bC (α := Nat) (fun i => [(0, .sl k1 (ns.map mc)), (1, .sl k2 (ns.map mc)), (12, .v (.int .i64 (ns.length : Int))), (13, .v (.int .i64 (i : Int)))]) (fun i => []) (fun i n => i ≤ ns.length) (fun i => ns.length - i) (0) ⟨J, J, J, J, trivial⟩ trivial (Nat.zero_le _) ?_
 rintro i n hF
 change WC _ _ _ _ _ (_ :: _) ([]) n _
 refine Rg 1 J <| aA (bP J J) J <| aY (fun h14 => ?_) (fun h14 => ?_)
 rotate_left
 ·refine Wn <| aV J <| aW <| aT <| aR J <| Rg 1 J <| Ua J J <| Wn <| aP ?_
  exact post (n := 0) (.inr J) J J (by simp)
 refine Wn <| aS J <| aE <| aL <| Rg 2 J <| Um J J <| Ua J J <| Wn <| bL (z := 9) J kR <| Dm J J <| Dm J J <| aC (bQ J J J J J om J) J <| aC (dJ (l := .agg [_, _]) J J J) J <| Dm J J <| Dm J J <| aC (bQ J J J J J om J) J <| aC (dJ (l := .agg [_, _]) J J J) J <| aC (bN (b := .v (.bool false)) (oNeS J J J J J) (by simp)) J <| bE (aQ kR) J <| Ck [0,1,12,13,24] J <| bX J <| cP <| aG <| aI (z := 2) J ?_
 refine aA (cI (((i + 1 : Nat) : Int)) (aU J J om) om) J <| Um J J <| Wn <| aF <| ⟨i + 1, ⟨J, J, J, J, trivial⟩, trivial, by show i + 1 ≤ _; omega, by show ns.length - (i + 1) < ns.length - i; omega⟩
end Go.Proofs.YtahljdjhhapngaaGreat
namespace Go.Proofs.YtahljdjhhapngaaGreat
open Go.Ab Go.RowKit
theorem clone1_own (k : Nat) (row : List X) (hk : k ≠ 0) (hne : 0 < row.length) (ln : row.length < 1099511627776) : ∃ sz len ob, Run Tryz.prog T E0 (.callO 128 [.sl k (row.map xc)] (.ref 0 sz 0 len) ob) ∧ sz = 4 ∧ len = row.length ∧ ob = { cells := (row.map xc).flatten, sz := 4, elem := 102, st := 0 } := by
 refine rD Tryz.func128 J J (dL J) <| Rg 1 J <| Ua J J <| Wn <| aB <| Rg 2 J <| Um J J <| aA (bN (b := .v (.bool false)) (mV J J) (by rw [beq_eq_false_iff_ne.2 hk])) J <| Wn <| aV J <| aE <| Rg 4 J <| aA (dA (cs := []) (rows := []) J J (by decide) J J J) J <| Um J J <| bD (oApS (xs := []) (rows := row.map xc) J J J J J (by decide) (by simp) (cU (f := xc) (n := 4) (fun _ => rfl)) (by simpa using hne) (by rw [List.length_map]; show (2 * (0 + row.length) + 256) * 64 ≤ _; omega) (by rw [List.length_map]; show 0 + row.length < _; omega)) J <| Ua J J <| Wn <| aP <| ⟨4, row.length, { cells := (row.map xc).flatten, sz := 4, elem := 102, st := 0 }, ⟨rfl, rfl, rfl⟩, .inr J, _, congrArg some (congrArg (fun z => [LV.ref _ 4 0 z]) (show ([] : List (List LV)).length + (row.map xc).length = row.length by simp)), g0, rfl, rfl, ?_⟩
 intro c hc; obtain ⟨row, hr, hc⟩ := List.mem_flatten.1 hc; exact cL dxc row hr c hc
theorem rows1 {α : Type} {f : α → List Rat} {rows : List α} {r : List Rat} (h : rows.map f = [r]) : ∃ a, rows = [a] ∧ f a = r := by
 match rows, h with
 | [a], h => exact ⟨a, rfl, by simpa using h⟩
end Go.Proofs.YtahljdjhhapngaaGreat
namespace Go.Proofs.YtahljdjhhapngaaGreat
open Go.Ab Go.RowKit
theorem clone1_nil  : Run Tryz.prog T E0 (.call 128 [.sl 0 []] (.sl 0 [])) := by
 refine bH Tryz.func128 J J (dL J) <| Rg 1 J <| Ua J J <| Wn <| aB <| Rg 2 J <| Um J J <| aA (mV J J) J <| Wn <| aS J <| aB <| Rg 1 J <| Ua J J <| Wn <| aX ?_
 exact post (n := 0) (.inr J) J J (by simp)
end Go.Proofs.YtahljdjhhapngaaGreat
namespace Go.Proofs.YtahljdjhhapngaaGreat
open Go.Ab Go.RowKit
theorem rsub_run (x y : X) (hx : Bd 34359738368 x.1) (hy : Bd 34359738368 y.1) : Run Tryz.prog T E0 (.call 82 [lvX x, lvX y] (lvX (xadd x (xneg y)))) := by
 refine bH Tryz.func82 J J (dL J) <| Rg 3 J <| bD (dW J J) J <| bD (dW J J) J <| bD (eC J) J <| Wn <| bL (z := 5) J kR <| aC (aM (l := lvX x) J J (by repeat (first | exact g0 | refine g1 (by decide) ?_)) J J) J ?_
 refine aC (aM (l := lvX y) J J (by repeat (first | exact g0 | refine g1 (by decide) ?_)) J J) J ?_
 refine aC (aK J (kC y) dD) J <| aC (aK J (jG x (xneg y) (hx.mono (by decide)) (hy.neg.mono (by decide))) dD) J <| cC (cB (cs' := xc (xadd x (xneg y))) J J J (by repeat (first | exact g0 | refine g1 (by decide) ?_)) J J J J) ?_
 refine bE (aQ kR) J <| aP <| post (n := 0) (.inr J) J ?_ dD
 rfl
theorem rcmp_run (x y : X) (hx : Bd 34359738368 x.1) (hy : Bd 34359738368 y.1) : Run Tryz.prog T E0 (.call 76 [lvX x, lvX y] (.v (.int .i64 (x.1 - y.1).num.sign))) := by
 refine bH Tryz.func76 J J (dL J) <| Rg 3 J <| bD (dW J J) J <| bD (dW J J) J <| Ua J J <| Wn <| Rg 5 J <| aA (aM (l := lvX x) J J (by repeat (first | exact g0 | refine g1 (by decide) ?_)) J J) J ?_
 refine aA (aM (l := lvX y) J J (by repeat (first | exact g0 | refine g1 (by decide) ?_)) J J) J ?_
 refine aA (aK J (rsub_run x y hx hy) dD) J <| aA (bN (b := .v (.int .i64 (x.1 - y.1).num.sign)) (aK J (iV (xadd x (xneg y))) dD) (by rw [show (xadd x (xneg y)).1 = x.1 - y.1 from (Rat.sub_eq_add_neg _ _).symm])) J <| Ua J J <| Wn <| aP <| post (n := 0) (.inr J) J ?_ dD
 rfl
theorem mchoice_run (m : Nat) (c : CH) (hI : IC c) (hm : m < 1000000) : Run Tryz.prog T E0 (.call 120 [.v (.int .i64 (m : Int)), lvC c] (.v (.bool (VC m c)))) := by
 refine bH Tryz.func120 J J (dL J) <| Rg 2 J <| bD (dW J J) J <| Ua J J <| Wn <| aB <| Rg 16 J <| aA (bA J J J J J) J <| aA (aM (l := lvM c.1) J J (by repeat (first | exact g0 | refine g1 (by decide) ?_)) J J) J ?_
 refine aA (aK J (kW c.1 hI.1 hI.2.1) dD) J <| eK (fun h11 => ?_) (fun h11 => ?_)
 rotate_left
 ·refine aA (eG J) J <| Um J J <| K1 J J <| K1 J J <| K1 J J <| K1 J J <| aA (bK J J) J <| Um J J <| K1 J J <| K1 J J <| K1 J J <| K1 J J <| aA (bK J J) J <| Nk [0,3,24] J <| aS J <| aB <| Rg 1 J <| Ua J J <| Wn <| aX <| post (n := 0) (.inr J) J ?_ dD
  exact congrArg (fun z => LV.v (.bool z)) (show false = VC m c from (VC_no1 h11).symm)
 refine aA (eG J) J <| Um J J <| aJ J (bA J J J J J) J <| aJ J (aM J J (by repeat (first | exact g0 | refine g1 (by decide) ?_)) J J) J ?_
 refine aJ J (bB J J) J <| aJ J (bP J J) J <| aY (fun h17 => ?_) (fun h17 => ?_)
 ·refine aA (bM J J) J <| Um J J <| K1 J J <| K1 J J <| K1 J J <| K1 J J <| aA (bK J J) J <| Nk [0,3,24] J <| aS J <| aB <| Rg 1 J <| Ua J J <| Wn <| aX <| post (n := 0) (.inr J) J ?_ dD
  exact congrArg (fun z => LV.v (.bool z)) (show false = VC m c from (VC_no2 om).symm)
 refine aA (bM J J) J <| Um J J <| aJ J (bA J J J J J) J <| aJ J (aM J J (by repeat (first | exact g0 | refine g1 (by decide) ?_)) J J) J ?_
 refine aJ J (bB J J) J <| aJ J (dY J J) J <| aY (fun h23 => ?_) (fun h23 => ?_)
 ·refine aA (bM J J) J <| Nk [0,3,24] J <| aS J <| aB <| Rg 1 J <| Ua J J <| Wn <| aX <| post (n := 0) (.inr J) J ?_ dD
  exact congrArg (fun z => LV.v (.bool z)) (show false = VC m c from (VC_no2 om).symm)
 refine aA (bM J J) J <| Nk [0,3,24] J <| aV J <| aE <| Rg 1 J <| bD (eC J) J <| Wn <| Rg 1 J <| Ua J J <| Wn <| aB <| Rg 4 J <| aA (bA J J J J J) J <| aA (aM J J (by repeat (first | exact g0 | refine g1 (by decide) ?_)) J J) J ?_
 refine aA (bB J J) J <| Um J J <| Wn <| aL <| bC (α := Nat × X) (fun ⟨i, s⟩ => [(0, .v (.int .i64 (m : Int))), (5, .ptr 18 0), (6, .v (.int .i64 (lastB c.2.2 i))), (26, .sl c.2.1 (c.2.2.map brc)), (27, .v (.int .i64 (c.2.2.length : Int))), (28, .v (.int .i64 (i : Int)))]) (fun ⟨i, s⟩ => [(18, { cells := xc (s), sz := 4, elem := 102, st := 0 })]) (fun ⟨i, s⟩ n => i ≤ c.2.2.length ∧ s.1 = psum c.2.2 i ∧ (∀ j, j < i → okB m c.2.2 j = true) ∧ 18 < n) (fun ⟨i, s⟩ => c.2.2.length - i) (0, x0) ⟨J, J, J, J, J, J, trivial⟩ ⟨(by repeat (first | exact g0 | refine g1 (by decide) ?_)), trivial⟩ ⟨Nat.zero_le _, rfl, fun j hj => absurd hj om, om⟩ ?_
 rintro ⟨i, s⟩ n hF
 change WC _ _ _ _ _ (_ :: _) (_ :: _) n _
 obtain ⟨hi, hs, hok, hn⟩ := hF
 refine Rg 1 J <| aA (bP J J) J <| aY (fun h29 => ?_) (fun h29 => ?_)
 rotate_left
 ·refine Wn <| aV J <| aW <| aT <| aR J ?_
  have hok' : ∀ j, j < c.2.2.length → okB m c.2.2 j = true := fun j hj => hok j om
  have hsb := mE (bs := c.2.2) i om (fun j hj => (nE (hok j hj)).1)
  have hil : i = c.2.2.length := by omega
  refine bL (z := 5) J kR <| aC (aM (l := lvX s) J J gG J J) J ?_
  refine aC (aK J (iX 1 (by unfold I64; omega)) dD) J <| aC (aK J (rcmp_run s (xint 1) (by rw [hs]; exact hsb.mono om) (Bd1.mono (by decide))) dD) J <| aC (bN (b := .v (.bool (decide (psum c.2.2 c.2.2.length = 1)))) (fJ J J) (congrArg (fun z => LV.v (.bool z)) (decide_eq_decide.2 (by rw [show (s.1 - (xint 1).1) = psum c.2.2 c.2.2.length - 1 by rw [hs, hil]; rfl]; exact sign_one)))) J <| aC (jJ J) J <| bE (aQ kR) J <| aP <| post (n := 0) (.inr J) J ?_ dD
  exact congrArg (fun z => LV.v (.bool z)) (show decide (psum c.2.2 c.2.2.length = 1) = VC m c from (VC_yes h11 om om hok').symm)
 refine Wn <| aS J <| aE <| aL ?_
 have hIb := hI.2.2 _ (bG (us := c.2.2) (i := i) om)
 refine Rg 4 J <| aA (bQ J J J J J om J) J <| aA (dJ (l := .agg [_, _, _]) J J J) J <| bD (eC J) J <| aZ (cB (cs' := [_, _, _]) J J J gG J J J J) ?_
 refine Wn <| aB <| Rg 22 J <| aA (bA J J J J J) J <| aA (aM J J gG J J) J ?_
 refine Um J J <| aA (nD J J) J <| aY (fun h35 => ?_) (fun h35 => ?_)
 ·refine Um J J <| K1 J J <| K1 J J <| K1 J J <| K1 J J <| aA (bK J J) J <| Um J J <| K1 J J <| K1 J J <| K1 J J <| K1 J J <| aA (bK J J) J <| Um J J <| K1 J J <| K1 J J <| K1 J J <| K1 J J <| aA (bK J J) J <| Nk [0,5,8,26,27,28,37,38,39,40,43,44,45,46,49,50,51,52,53] J <| aS J <| aB <| Rg 1 J <| Ua J J ?_
  refine Nk [4] J <| aX <| aN <| bJ <| aN <| post (n := 0) (.inr J) J ?_ dD
  exact congrArg (fun z => LV.v (.bool z)) (show false = VC m c from (iY (i := i) om (jF (.inl om))).symm)
 refine Um J J <| aJ J (bA J J J J J) J <| aJ J (aM J J gG J J) J ?_
 refine aJ J (eW J) J <| aJ J (iH J J) J <| aY (fun h40 => ?_) (fun h40 => ?_)
 ·refine aA (bM J J) J <| Um J J <| K1 J J <| K1 J J <| K1 J J <| K1 J J <| aA (bK J J) J <| Um J J <| K1 J J <| K1 J J <| K1 J J <| K1 J J <| aA (bK J J) J <| Nk [0,5,8,26,27,28,37,38,39,40,43,44,45,46,49,50,51,52,53] J <| aS J <| aB <| Rg 1 J <| Ua J J <| Nk [4] J <| aX <| aN <| bJ ?_
  refine aN <| post (n := 0) (.inr J) J ?_ dD
  exact congrArg (fun z => LV.v (.bool z)) (show false = VC m c from (iY (i := i) om (jF (.inr (.inl om)))).symm)
 refine aA (bM J J) J <| Um J J <| aJ J (bA J J J J J) J <| aJ J (aM (l := lvM (c.2.2.getD i default).2) J J gG J J) J ?_
 refine aJ J (aK J (kW (c.2.2.getD i default).2 hIb.2.1 hIb.2.2) dD) J <| eK (fun h45 => ?_) (fun h45 => ?_)
 rotate_left
 ·refine aJ J (eG J) J <| aA (bM J J) J <| Um J J <| K1 J J <| K1 J J <| K1 J J <| K1 J J <| aA (bK J J) J <| Nk [0,5,8,26,27,28,37,38,39,40,43,44,45,46,49,50,51,52,53] J <| aS J <| aB <| Rg 1 J <| Ua J J <| Nk [4] J <| aX <| aN <| bJ <| aN <| post (n := 0) (.inr J) J ?_ dD
  exact congrArg (fun z => LV.v (.bool z)) (show false = VC m c from (iY (i := i) om (jF (.inr (.inr (.inl h45))))).symm)
 refine aJ J (eG J) J <| aA (bM J J) J <| Um J J <| aJ J (bA J J J J J) J <| aJ J (bA J J J J J) J <| aJ J (aM J J gG J J) J ?_
 refine aJ J (nD J J) J <| aY (fun h52 => ?_) (fun h52 => ?_)
 ·refine aA (bM J J) J <| Nk [0,5,8,26,27,28,37,38,39,40,43,44,45,46,49,50,51,52,53] J <| aS J <| aB <| Rg 1 J <| Ua J J <| Nk [4] J <| aX <| aN <| bJ <| aN <| post (n := 0) (.inr J) J ?_ dD
  exact congrArg (fun z => LV.v (.bool z)) (show false = VC m c from (iY (i := i) om (jF (.inr (.inr (.inr om))))).symm)
 refine aA (bM J J) J <| Nk [0,5,8,26,27,28,37,38,39,40,43,44,45,46,49,50,51,52,53] J <| aV J <| aE ?_
 have hvb : VN (c.2.2.getD i default).2 := of_decide_eq_true h45
 have hokI : okB m c.2.2 i = true := okB_yes om om h45 om
 have hsb := mE (bs := c.2.2) i om (fun j hj => (nE (hok j hj)).1)
 refine Rg 3 J <| aA (bA J J J J J) J <| aA (aM J J gG J J) J ?_
 refine Ua J J <| Nk [0,5,6,8,26,27,28,37,38,39,40,43,44,45,46,49,50,51,52] J <| dF (z := 6) J kR <| aC (aM (l := lvX s) J J gG J J) J ?_
 refine aC (bA J J J J J) J <| aC (aM (l := lvM (c.2.2.getD i default).2) J J gG J J) J ?_
 refine aC (bN (b := lvX (nx (c.2.2.getD i default).2)) (aK J (iB (c.2.2.getD i default).2 hIb.2.1 hIb.2.2 (by have := hvb.1; omega)) dD) J) J <| aC (aK J (jG s (nx (c.2.2.getD i default).2) (by rw [hs]; exact hsb.mono om) (hvb.bd.mono (by decide))) dD) J <| cC (cB (cs' := xc (xadd s (nx (c.2.2.getD i default).2))) J J J gG J J J J) ?_
 refine bE (aQ kR) J <| aG <| Ck [0,5,6,26,27,28,37,38,39,40,43,44,45,46,49,50,51,52] J <| aI (z := 2) J <| aA (cI (((i + 1 : Nat) : Int)) (aU J J om) om) J <| Um J J <| Wn <| aF <| ⟨⟨i + 1, xadd s (nx (c.2.2.getD i default).2)⟩, ⟨J, J, J, J, J, J, trivial⟩, ⟨gG, trivial⟩, ⟨om, by rw [psum, ← hs]; rfl, fun j hj => ?_, om⟩, by show c.2.2.length - (i + 1) < c.2.2.length - i; omega⟩
 by_cases e : j = i
 ·rw [e]; exact hokI
 ·exact hok j om
end Go.Proofs.YtahljdjhhapngaaGreat
namespace Go.Proofs.YtahljdjhhapngaaGreat
open Go.Ab Go.RowKit
theorem qchoice_run (m : Nat) (c : CH) (hI : IC c) (hm : m < 1000000) : Run Tryz.prog T E0 (.call 63 [lvC c, .v (.int .i64 (m : Int))] (.v (.bool (VC m c)))) := by
 refine bH Tryz.func63 J J (dL J) <| Rg 2 J <| bD (dW J J) J <| Ua J J <| Wn <| aB <| Rg 16 J <| aA (bA J J J J J) J <| aA (aM (l := lvM c.1) J J (by repeat (first | exact g0 | refine g1 (by decide) ?_)) J J) J ?_
 refine aA (aK J (jP c.1 hI.1 hI.2.1) dD) J <| eK (fun h10 => ?_) (fun h10 => ?_)
 rotate_left
 ·refine aA (eG J) J <| Um J J <| K1 J J <| K1 J J <| K1 J J <| K1 J J <| aA (bK J J) J <| Um J J <| K1 J J <| K1 J J <| K1 J J <| K1 J J <| aA (bK J J) J <| Nk [1,2,23] J <| aS J <| aB <| Rg 1 J <| Ua J J <| Wn <| aX <| post (n := 0) (.inr J) J ?_ dD
  exact congrArg (fun z => LV.v (.bool z)) (show false = VC m c from (VC_no1 h10).symm)
 refine aA (eG J) J <| Um J J <| aJ J (bA J J J J J) J <| aJ J (aM J J (by repeat (first | exact g0 | refine g1 (by decide) ?_)) J J) J ?_
 refine aJ J (bB J J) J <| aJ J (bP J J) J <| aY (fun h16 => ?_) (fun h16 => ?_)
 ·refine aA (bM J J) J <| Um J J <| K1 J J <| K1 J J <| K1 J J <| K1 J J <| aA (bK J J) J <| Nk [1,2,23] J <| aS J <| aB <| Rg 1 J <| Ua J J <| Wn <| aX <| post (n := 0) (.inr J) J ?_ dD
  exact congrArg (fun z => LV.v (.bool z)) (show false = VC m c from (VC_no2 om).symm)
 refine aA (bM J J) J <| Um J J <| aJ J (bA J J J J J) J <| aJ J (aM J J (by repeat (first | exact g0 | refine g1 (by decide) ?_)) J J) J ?_
 refine aJ J (bB J J) J <| aJ J (dY J J) J <| aY (fun h22 => ?_) (fun h22 => ?_)
 ·refine aA (bM J J) J <| Nk [1,2,23] J <| aS J <| aB <| Rg 1 J <| Ua J J <| Wn <| aX <| post (n := 0) (.inr J) J ?_ dD
  exact congrArg (fun z => LV.v (.bool z)) (show false = VC m c from (VC_no2 om).symm)
 refine aA (bM J J) J <| Nk [1,2,23] J <| aV J <| aE <| Rg 3 J <| aA (bN (b := lvQ 0) (aK J (nC 0 (by unfold I64; omega)) dD) J) J <| bD (eC J) J <| aZ (cB (cs' := qc 0) J J J g0 J J J J) <| Wn <| aB <| Rg 4 J <| aA (bA J J J J J) J <| aA (aM J J (by repeat (first | exact g0 | refine g1 (by decide) ?_)) J J) J ?_
 refine aA (bB J J) J <| Um J J <| Wn <| aL <| bC (α := Nat × Rat) (fun ⟨i, s⟩ => [(1, .v (.int .i64 (m : Int))), (2, .ptr 0 0), (5, .ptr 19 0), (26, .sl c.2.1 (c.2.2.map brc)), (27, .v (.int .i64 (c.2.2.length : Int))), (28, .v (.int .i64 (i : Int)))]) (fun ⟨i, s⟩ => [(19, { cells := qc (s), sz := 6, elem := 39, st := 0 }), (0, { cells := chc c, sz := 3, elem := (57), st := 0 })]) (fun ⟨i, s⟩ n => i ≤ c.2.2.length ∧ s = psum c.2.2 i ∧ (∀ j, j < i → okB m c.2.2 j = true) ∧ 19 < n) (fun ⟨i, s⟩ => c.2.2.length - i) (0, 0) ⟨J, J, J, J, J, J, trivial⟩ ⟨(by repeat (first | exact g0 | refine g1 (by decide) ?_)), (by repeat (first | exact g0 | refine g1 (by decide) ?_)), trivial⟩ ⟨Nat.zero_le _, rfl, fun j hj => absurd hj om, om⟩ ?_
 rintro ⟨i, s⟩ n hF
 change WC _ _ _ _ _ (_ :: _) (_ :: _) n _
 obtain ⟨hi, hs, hok, hn⟩ := hF
 refine Rg 1 J <| aA (bP J J) J <| aY (fun h29 => ?_) (fun h29 => ?_)
 rotate_left
 ·refine Wn <| aV J <| aW <| aT <| aR J ?_
  have hok' : ∀ j, j < c.2.2.length → okB m c.2.2 j = true := fun j hj => hok j om
  have hsb := mE (bs := c.2.2) i om (fun j hj => (nE (hok j hj)).1)
  have hil : i = c.2.2.length := by omega
  refine bL (z := 5) J kR <| aC (aM (l := lvQ s) J J gG J J) J ?_
  refine aC (bN (b := lvQ 1) (aK J (nC 1 (by unfold I64; omega)) dD) J) J <| aC (aK J (nrcmp_run s 1 (by rw [hs]; exact hsb.mono om) (Bd1.mono (by decide))) dD) J <| aC (bN (b := .v (.bool (decide (psum c.2.2 c.2.2.length = 1)))) (fJ J J) (congrArg (fun z => LV.v (.bool z)) (decide_eq_decide.2 (by rw [hs, hil]; exact sign_one)))) J <| aC (jJ J) J <| bE (aQ kR) J <| aP <| post (n := 0) (.inr J) J ?_ dD
  exact congrArg (fun z => LV.v (.bool z)) (show decide (psum c.2.2 c.2.2.length = 1) = VC m c from (VC_yes h10 om om hok').symm)
 refine Wn <| aS J <| aE <| aL ?_
 have hIb := hI.2.2 _ (bG (us := c.2.2) (i := i) om)
 have hlo := okB_lo i hok
 have hl0 : 0 < i → lastB c.2.2 i = (c.2.2.getD (i - 1) default).1 := lastB_pos
 have hl1 : ¬ 0 < i → lastB c.2.2 i = -1 := fun h => by rw [show i = 0 by omega]; rfl
 refine Rg 6 J <| Um J J <| aA (bQ J J J J J om J) J <| aA (dJ (l := .agg [_, _, _]) J J J) J <| bD (eC J) J <| Ua J J <| aZ (cB (cs' := [_, _, _]) J J J gG J J J J) ?_
 refine Wn <| aB <| bL (z := 37) J kR <| aC (bA J J J J J) J <| aC (aM J J gG J J) J ?_
 refine aC (bP J J) J <| mQ (fun h35 => ?_) (fun h35 => ?_)
 ·refine Dm J J <| bZ J J <| bZ J J <| bZ J J <| bZ J J <| aC (bK J J) J <| Dm J J <| bZ J J <| bZ J J <| bZ J J <| bZ J J <| bZ J J <| bZ J J <| bZ J J <| bZ J J <| bZ J J <| bZ J J <| bZ J J <| bZ J J <| bZ J J <| bZ J J <| aC (bK J J) J <| Dm J J <| bZ J J ?_
  refine bZ J J <| bZ J J <| bZ J J <| aC (bK J J) J <| Dm J J <| bZ J J <| bZ J J <| bZ J J <| bZ J J <| aC (bK J J) J <| bE (aQ kR) J <| Ck [1,2,5,7,26,27,28,37,38,39,40,43,44,45,46,47,48,49,50,51,52,53,54,55,56,59,60,61,62,65,66,67,68,69] J <| aS J <| aB <| Rg 1 J <| Ua J J <| Nk [4] J <| aX <| aN <| bJ <| aN <| post (n := 0) (.inr J) J ?_ dD
  exact congrArg (fun z => LV.v (.bool z)) (show false = VC m c from (iY (i := i) om (jF (.inl om))).symm)
 refine Dm J J <| bR J (bA J J J J J) J <| bR J (aM J J gG J J) J ?_
 refine bR J (eW J) J <| bR J (iH J J) J <| mQ (fun h40 => ?_) (fun h40 => ?_)
 ·refine aC (bM J J) J <| Dm J J <| bZ J J <| bZ J J <| bZ J J <| bZ J J <| bZ J J <| bZ J J <| bZ J J <| bZ J J <| bZ J J <| bZ J J <| bZ J J <| bZ J J <| bZ J J <| bZ J J <| aC (bK J J) J <| Dm J J <| bZ J J <| bZ J J <| bZ J J <| bZ J J <| aC (bK J J) J <| Dm J J ?_
  refine bZ J J <| bZ J J <| bZ J J <| bZ J J <| aC (bK J J) J <| bE (aQ kR) J <| Ck [1,2,5,7,26,27,28,37,38,39,40,43,44,45,46,47,48,49,50,51,52,53,54,55,56,59,60,61,62,65,66,67,68,69] J <| aS J <| aB <| Rg 1 J <| Ua J J <| Nk [4] J <| aX <| aN <| bJ <| aN <| post (n := 0) (.inr J) J ?_ dD
  exact congrArg (fun z => LV.v (.bool z)) (show false = VC m c from (iY (i := i) om (jF (.inr (.inl om)))).symm)
 refine aC (bM J J) J <| Dm J J <| bR J (eW J) J <| bR J (dY J J) J <| mQ (fun h44 => ?_) (fun h44 => ?_)
 rotate_left
 ·refine bR J (eW J) J <| bZ J J <| bZ J J <| bZ J J <| bZ J J <| bZ J J <| bZ J J <| bZ J J <| bZ J J <| bZ J J <| bZ J J <| bR J (bM J J) J <| aC (bM J J) J <| Dm J J <| bR J (bA J J J J J) J <| bR J (aM (l := lvM (c.2.2.getD i default).2) J J gG J J) J ?_
  refine bR J (aK J (jP (c.2.2.getD i default).2 hIb.2.1 hIb.2.2) dD) J <| WD.B (fun h61 => ?_) (fun h61 => ?_)
  rotate_left
  ·refine bR J (eG J) J <| aC (bM J J) J <| Dm J J <| bZ J J <| bZ J J <| bZ J J <| bZ J J <| aC (bK J J) J <| bE (aQ kR) J <| Ck [1,2,5,7,26,27,28,37,38,39,40,43,44,45,46,47,48,49,50,51,52,53,54,55,56,59,60,61,62,65,66,67,68,69] J <| aS J <| aB <| Rg 1 J <| Ua J J <| Nk [4] J <| aX <| aN <| bJ <| aN <| post (n := 0) (.inr J) J ?_ dD
   exact congrArg (fun z => LV.v (.bool z)) (show false = VC m c from (iY (i := i) om (jF (.inr (.inr (.inl h61))))).symm)
  refine bR J (eG J) J <| aC (bM J J) J <| Dm J J <| bR J (bA J J J J J) J <| bR J (bA J J J J J) J <| bR J (aM J J gG J J) J ?_
  refine bR J (nD J J) J <| mQ (fun h68 => ?_) (fun h68 => ?_)
  ·refine aC (bM J J) J <| bE (aQ kR) J <| Ck [1,2,5,7,26,27,28,37,38,39,40,43,44,45,46,47,48,49,50,51,52,53,54,55,56,59,60,61,62,65,66,67,68,69] J <| aS J <| aB <| Rg 1 J <| Ua J J <| Nk [4] J <| aX <| aN <| bJ <| aN <| post (n := 0) (.inr J) J ?_ dD
   exact congrArg (fun z => LV.v (.bool z)) (show false = VC m c from (iY (i := i) om (jF (.inr (.inr (.inr om))))).symm)
  refine aC (bM J J) J <| bE (aQ kR) J <| Ck [1,2,5,7,26,27,28,37,38,39,40,43,44,45,46,47,48,49,50,51,52,53,54,55,56,59,60,61,62,65,66,67,68,69] J <| aV J <| aE ?_
  have hvb : VN (c.2.2.getD i default).2 := of_decide_eq_true h61
  have hokI : okB m c.2.2 i = true := okB_yes om om h61 om
  have hsb := mE (bs := c.2.2) i om (fun j hj => (nE (hok j hj)).1)
  refine dF (z := 6) J kR <| aC (aM (l := lvQ s) J J gG J J) J ?_
  refine aC (bA J J J J J) J <| aC (aM (l := lvM (c.2.2.getD i default).2) J J gG J J) J ?_
  refine aC (bN (b := lvQ (nq (c.2.2.getD i default).2)) (aK J (gU (c.2.2.getD i default).2 hIb.2.1 hIb.2.2 hvb) dD) J) J <| aC (aK J (jY s (nq (c.2.2.getD i default).2) (by rw [hs]; exact hsb.mono om) (hvb.bd.mono (by decide))) dD) J <| cC (cB (cs' := qc (s + nq (c.2.2.getD i default).2)) J J J gG J J J J) ?_
  refine bE (aQ kR) J <| aG <| Ck [1,2,5,26,27,28,37,38,39,40,43,44,45,46,47,48,49,50,51,52,53,54,55,56,59,60,61,62,65,66,67,68] J <| aI (z := 2) J <| aA (cI (((i + 1 : Nat) : Int)) (aU J J om) om) J <| Um J J <| Wn <| aF <| ⟨⟨i + 1, s + nq (c.2.2.getD i default).2⟩, ⟨J, J, J, J, J, J, trivial⟩, ⟨gG, gG, trivial⟩, ⟨om, by rw [psum, ← hs], fun j hj => ?_, om⟩, by show c.2.2.length - (i + 1) < c.2.2.length - i; omega⟩
  by_cases e : j = i
  ·rw [e]; exact hokI
  ·exact hok j om
 refine bR J (eW J) J <| bR J (bA J J J J J) J <| bR J (aM J J gG J J) J ?_
 refine bR J (bA J J J J J) J <| bR J (aM J J gG J J) J ?_
 refine bR J (eW J) J <| bR J (cI (((i - 1 : Nat) : Int)) (bU J J om) om) J <| bR J (bQ (j := i - 1) J J J J om om J) J <| bR J (oFa J J J J J) J <| bR J (dJ J J J) J <| bR J (nD J J) J <| mQ (fun h55 => ?_) (fun h55 => ?_)
 ·refine bR J (bK J J) J <| aC (bM J J) J <| Dm J J <| bZ J J <| bZ J J <| bZ J J <| bZ J J <| aC (bK J J) J <| Dm J J <| bZ J J <| bZ J J <| bZ J J <| bZ J J <| aC (bK J J) J <| bE (aQ kR) J <| Ck [1,2,5,7,26,27,28,37,38,39,40,43,44,45,46,47,48,49,50,51,52,53,54,55,56,59,60,61,62,65,66,67,68,69] J <| aS J <| aB <| Rg 1 J <| Ua J J <| Nk [4] J <| aX <| aN ?_
  refine bJ <| aN <| post (n := 0) (.inr J) J ?_ dD
  exact congrArg (fun z => LV.v (.bool z)) (show false = VC m c from (iY (i := i) om (jF (.inl (by rw [hl0 om]; omega)))).symm)
 refine bR J (bK J J) J <| aC (bM J J) J <| Dm J J <| bR J (bA J J J J J) J <| bR J (aM (l := lvM (c.2.2.getD i default).2) J J gG J J) J ?_
 refine bR J (aK J (jP (c.2.2.getD i default).2 hIb.2.1 hIb.2.2) dD) J <| WD.B (fun h61 => ?_) (fun h61 => ?_)
 rotate_left
 ·refine bR J (eG J) J <| aC (bM J J) J <| Dm J J <| bZ J J <| bZ J J <| bZ J J <| bZ J J <| aC (bK J J) J <| bE (aQ kR) J <| Ck [1,2,5,7,26,27,28,37,38,39,40,43,44,45,46,47,48,49,50,51,52,53,54,55,56,59,60,61,62,65,66,67,68,69] J <| aS J <| aB <| Rg 1 J <| Ua J J <| Nk [4] J <| aX <| aN <| bJ <| aN <| post (n := 0) (.inr J) J ?_ dD
  exact congrArg (fun z => LV.v (.bool z)) (show false = VC m c from (iY (i := i) om (jF (.inr (.inr (.inl h61))))).symm)
 refine bR J (eG J) J <| aC (bM J J) J <| Dm J J <| bR J (bA J J J J J) J <| bR J (bA J J J J J) J <| bR J (aM J J gG J J) J ?_
 refine bR J (nD J J) J <| mQ (fun h68 => ?_) (fun h68 => ?_)
 ·refine aC (bM J J) J <| bE (aQ kR) J <| Ck [1,2,5,7,26,27,28,37,38,39,40,43,44,45,46,47,48,49,50,51,52,53,54,55,56,59,60,61,62,65,66,67,68,69] J <| aS J <| aB <| Rg 1 J <| Ua J J <| Nk [4] J <| aX <| aN <| bJ <| aN <| post (n := 0) (.inr J) J ?_ dD
  exact congrArg (fun z => LV.v (.bool z)) (show false = VC m c from (iY (i := i) om (jF (.inr (.inr (.inr om))))).symm)
 refine aC (bM J J) J <| bE (aQ kR) J <| Ck [1,2,5,7,26,27,28,37,38,39,40,43,44,45,46,47,48,49,50,51,52,53,54,55,56,59,60,61,62,65,66,67,68,69] J <| aV J <| aE ?_
 have hvb : VN (c.2.2.getD i default).2 := of_decide_eq_true h61
 have hokI : okB m c.2.2 i = true := okB_yes om om h61 om
 have hsb := mE (bs := c.2.2) i om (fun j hj => (nE (hok j hj)).1)
 refine dF (z := 6) J kR <| aC (aM (l := lvQ s) J J gG J J) J ?_
 refine aC (bA J J J J J) J <| aC (aM (l := lvM (c.2.2.getD i default).2) J J gG J J) J ?_
 refine aC (bN (b := lvQ (nq (c.2.2.getD i default).2)) (aK J (gU (c.2.2.getD i default).2 hIb.2.1 hIb.2.2 hvb) dD) J) J <| aC (aK J (jY s (nq (c.2.2.getD i default).2) (by rw [hs]; exact hsb.mono om) (hvb.bd.mono (by decide))) dD) J <| cC (cB (cs' := qc (s + nq (c.2.2.getD i default).2)) J J J gG J J J J) ?_
 refine bE (aQ kR) J <| aG <| Ck [1,2,5,26,27,28,37,38,39,40,43,44,45,46,47,48,49,50,51,52,53,54,55,56,59,60,61,62,65,66,67,68] J <| aI (z := 2) J <| aA (cI (((i + 1 : Nat) : Int)) (aU J J om) om) J <| Um J J <| Wn <| aF <| ⟨⟨i + 1, s + nq (c.2.2.getD i default).2⟩, ⟨J, J, J, J, J, J, trivial⟩, ⟨gG, gG, trivial⟩, ⟨om, by rw [psum, ← hs], fun j hj => ?_, om⟩, by show c.2.2.length - (i + 1) < c.2.2.length - i; omega⟩
 by_cases e : j = i
 ·rw [e]; exact hokI
 ·exact hok j om
theorem mvmodel_run (k : Nat) (ss : List ST) (hI : ∀ s, s ∈ ss → IS s) : Run Tryz.prog T E0 (.call 92 [lvMo k ss] (.v (.bool (VMo ss)))) := by
 refine bH Tryz.func92 J J (dL J) <| Rg 2 J <| bD (dW J J) J <| Ua J J <| Wn <| Rg 4 J <| aA (bA J J J J J) J <| aA (aM J J (by repeat (first | exact g0 | refine g1 (by decide) ?_)) J J) J ?_
 refine aA (bB J J) J <| Ua J J <| Wn <| aB <| Rg 6 J <| Um J J <| aA (bP J J) J <| aY (fun h12 => ?_) (fun h12 => ?_)
 ·refine Um J J <| K1 J J <| K1 J J <| aA (bK J J) J <| Wn <| aS J <| aB <| Rg 1 J <| Ua J J <| Wn <| aX <| post (n := 0) (.inr J) J ?_ dD
  exact congrArg (fun z => LV.v (.bool z)) (show false = VMo ss from (VMo_no om).symm)
 refine Um J J <| aJ J (eW J) J <| aJ J (dY J J) J <| aY (fun h15 => ?_) (fun h15 => ?_)
 ·refine aA (bM J J) J <| Wn <| aS J <| aB <| Rg 1 J <| Ua J J <| Wn <| aX <| post (n := 0) (.inr J) J ?_ dD
  exact congrArg (fun z => LV.v (.bool z)) (show false = VMo ss from (VMo_no om).symm)
 refine aA (bM J J) J <| Wn <| aV J <| aE <| aB <| Rg 4 J <| aA (bA J J J J J) J <| aA (aM J J (by repeat (first | exact g0 | refine g1 (by decide) ?_)) J J) J ?_
 refine aA (bB J J) J <| Um J J <| Nk [3,18,19,20] J <| aL <| bC (α := Nat) (fun i => [(3, .v (.int .i64 (ss.length : Int))), (18, .sl k (ss.map stc)), (19, .v (.int .i64 (ss.length : Int))), (20, .v (.int .i64 (i : Int)))]) (fun i => []) (fun i n => i ≤ ss.length ∧ (ss.take i).all (VS ss.length) = true ∧ 0 < n) (fun i => ss.length - i) (0) ⟨J, J, J, J, trivial⟩ trivial ⟨Nat.zero_le _, by simp, om⟩ ?_
 rintro i n hF
 change WC _ _ _ _ _ (_ :: _) ([]) n _
 obtain ⟨hi, ha, hn0⟩ := hF
 refine Rg 1 J <| aA (bP J J) J <| aY (fun h21 => ?_) (fun h21 => ?_)
 rotate_left
 ·refine Wn <| aV J <| aW <| aT <| aR J <| Rg 1 J <| Ua J J <| Wn <| aP <| post (n := 0) (.inr J) J ?_ dD
  exact congrArg (fun z => LV.v (.bool z)) (show true = VMo ss from (VMo_yes om om (iJ ha om)).symm)
 refine Wn <| aS J <| aE <| aL ?_
 have hIs := hI _ (bG (us := ss) (i := i) om)
 refine Rg 4 J <| aA (bQ J J J J J om J) J <| aA (dJ (l := .agg [_, _, _]) J J J) J <| bD (eC J) J <| aZ (cB (cs' := [_, _, _]) J J J gG J J J J) ?_
 refine Wn <| aB <| Rg 30 J <| aA (bA J J J J J) J <| aA (aM J J gG J J) J ?_
 refine aA (bP J J) J <| aY (fun h26 => ?_) (fun h26 => ?_)
 ·refine Um J J <| K1 J J <| K1 J J <| K1 J J <| aA (bK J J) J <| Um J J <| K1 J J <| K1 J J <| K1 J J <| aA (bK J J) J <| Um J J <| K1 J J <| K1 J J <| K1 J J <| aA (bK J J) J <| Um J J <| K1 J J <| K1 J J <| K1 J J <| K1 J J <| aA (bK J J) J <| Um J J <| K1 J J <| K1 J J ?_
  refine K1 J J <| K1 J J <| aA (bK J J) J <| Nk [3,5,18,19,20,28,29,30,33,34,35,38,39,40,43,44,45,46,49,50,51,52,53] J <| aS J <| aB <| Rg 1 J <| Ua J J <| Nk [2] J <| aX <| aN <| bJ <| aN <| post (n := 0) (.inr J) J ?_ dD
  exact congrArg (fun z => LV.v (.bool z)) (show false = VMo ss from (fC (i := i) om (lC (.inl om))).symm)
 refine Um J J <| aJ J (bA J J J J J) J <| aJ J (aM J J gG J J) J ?_
 refine aJ J (dY J J) J <| aY (fun h30 => ?_) (fun h30 => ?_)
 ·refine aA (bM J J) J <| Um J J <| K1 J J <| K1 J J <| K1 J J <| aA (bK J J) J <| Um J J <| K1 J J <| K1 J J <| K1 J J <| aA (bK J J) J <| Um J J <| K1 J J <| K1 J J <| K1 J J <| K1 J J <| aA (bK J J) J <| Um J J <| K1 J J <| K1 J J <| K1 J J <| K1 J J <| aA (bK J J) J <| cQ ?_
  refine Ck [3,5,18,19,20,28,29,30,33,34,35,38,39,40,43,44,45,46,49,50,51,52,53] J <| aS J <| aB <| Rg 1 J <| Ua J J <| Nk [2] J <| aX <| aN <| bJ <| aN <| post (n := 0) (.inr J) J ?_ dD
  exact congrArg (fun z => LV.v (.bool z)) (show false = VMo ss from (fC (i := i) om (lC (.inr (.inl om)))).symm)
 refine aA (bM J J) J <| Um J J <| aJ J (bA J J J J J) J <| aJ J (aM J J gG J J) J ?_
 refine aJ J (bP J J) J <| aY (fun h35 => ?_) (fun h35 => ?_)
 ·refine aA (bM J J) J <| Um J J <| K1 J J <| K1 J J <| K1 J J <| aA (bK J J) J <| Um J J <| K1 J J <| K1 J J <| K1 J J <| K1 J J <| aA (bK J J) J <| Um J J <| K1 J J <| K1 J J <| K1 J J <| K1 J J <| aA (bK J J) J <| Nk [3,5,18,19,20,28,29,30,33,34,35,38,39,40,43,44,45,46,49,50,51,52,53] J <| aS J <| aB <| Rg 1 J <| Ua J J ?_
  refine Nk [2] J <| aX <| aN <| bJ <| aN <| post (n := 0) (.inr J) J ?_ dD
  exact congrArg (fun z => LV.v (.bool z)) (show false = VMo ss from (fC (i := i) om (lC (.inr (.inr (.inl om))))).symm)
 refine aA (bM J J) J <| Um J J <| aJ J (bA J J J J J) J <| aJ J (aM J J gG J J) J ?_
 refine aJ J (dY J J) J <| aY (fun h40 => ?_) (fun h40 => ?_)
 ·refine aA (bM J J) J <| Um J J <| K1 J J <| K1 J J <| K1 J J <| K1 J J <| aA (bK J J) J <| Um J J <| K1 J J <| K1 J J <| K1 J J <| K1 J J <| aA (bK J J) J <| Nk [3,5,18,19,20,28,29,30,33,34,35,38,39,40,43,44,45,46,49,50,51,52,53] J <| aS J <| aB <| Rg 1 J <| Ua J J <| Nk [2] J <| aX <| aN <| bJ ?_
  refine aN <| post (n := 0) (.inr J) J ?_ dD
  exact congrArg (fun z => LV.v (.bool z)) (show false = VMo ss from (fC (i := i) om (lC (.inr (.inr (.inr (.inl om)))))).symm)
 refine aA (bM J J) J <| Um J J <| aJ J (bA J J J J J) J <| aJ J (aM J J gG J J) J ?_
 refine aJ J (bB J J) J <| aJ J (bP J J) J <| aY (fun h46 => ?_) (fun h46 => ?_)
 ·refine aA (bM J J) J <| Um J J <| K1 J J <| K1 J J <| K1 J J <| K1 J J <| aA (bK J J) J <| Nk [3,5,18,19,20,28,29,30,33,34,35,38,39,40,43,44,45,46,49,50,51,52,53] J <| aS J <| aB <| Rg 1 J <| Ua J J <| Nk [2] J <| aX <| aN <| bJ <| aN <| post (n := 0) (.inr J) J ?_ dD
  exact congrArg (fun z => LV.v (.bool z)) (show false = VMo ss from (fC (i := i) om (lC (.inr (.inr (.inr (.inr (.inl om))))))).symm)
 refine aA (bM J J) J <| Um J J <| aJ J (bA J J J J J) J <| aJ J (aM J J gG J J) J ?_
 refine aJ J (bB J J) J <| aJ J (dY J J) J <| aY (fun h52 => ?_) (fun h52 => ?_)
 ·refine aA (bM J J) J <| Nk [3,5,18,19,20,28,29,30,33,34,35,38,39,40,43,44,45,46,49,50,51,52,53] J <| aS J <| aB <| Rg 1 J <| Ua J J <| Nk [2] J <| aX <| aN <| bJ <| aN <| post (n := 0) (.inr J) J ?_ dD
  exact congrArg (fun z => LV.v (.bool z)) (show false = VMo ss from (fC (i := i) om (lC (.inr (.inr (.inr (.inr (.inr om))))))).symm)
 refine aA (bM J J) J <| Nk [3,5,18,19,20,28,29,30,33,34,35,38,39,40,43,44,45,46,49,50,51,52,53] J <| aV J <| aE <| Rg 4 J <| aA (bA J J J J J) J <| aA (aM J J gG J J) J ?_
 refine aA (bB J J) J <| Um J J <| Nk [3,18,19,20,28,29,30,33,34,35,38,39,40,43,44,45,46,49,50,51,52,55,56,57] J <| cA <| bC (α := Nat) (fun j => [(3, .v (.int .i64 (ss.length : Int))), (18, .sl k (ss.map stc)), (19, .v (.int .i64 (ss.length : Int))), (20, .v (.int .i64 (i : Int))), (55, .sl (ss.getD i default).2.1 ((ss.getD i default).2.2.map chc)), (56, .v (.int .i64 ((ss.getD i default).2.2.length : Int))), (57, .v (.int .i64 (j : Int)))]) (fun j => []) (fun j n => j ≤ (ss.getD i default).2.2.length ∧ ((ss.getD i default).2.2.take j).all (VC ss.length) = true ∧ 0 < n) (fun j => (ss.getD i default).2.2.length - j) (0) ⟨J, J, J, J, J, J, J, trivial⟩ trivial ⟨Nat.zero_le _, by simp, om⟩ ?_
 rintro j n hF
 change WC _ _ _ _ _ (_ :: _) ([]) n _
 obtain ⟨hj, hb, hn2⟩ := hF
 refine Rg 1 J <| aA (bP J J) J <| aY (fun h58 => ?_) (fun h58 => ?_)
 rotate_left
 ·refine Wn <| aV J <| aW <| aT <| fE J <| aG <| aI (z := 2) J <| aA (cI (((i + 1 : Nat) : Int)) (aU J J om) om) J <| Um J J <| Wn <| aF <| ⟨i + 1, ⟨J, J, J, J, trivial⟩, trivial, ⟨om, gK ha om (VS_yes om om om om om om (iJ hb om)), om⟩, by show ss.length - (i + 1) < ss.length - i; omega⟩
 refine Wn <| aS J <| aE <| aL ?_
 have hIc := hIs.2.2 _ (bG (us := (ss.getD i default).2.2) (i := j) om)
 refine Rg 4 J <| aA (bQ J J J J J om J) J <| aA (dJ (l := .agg [_, _, _]) J J J) J <| bD (eC J) J <| aZ (cB (cs' := [_, _, _]) J J J gG J J J J) ?_
 refine Wn <| Rg 4 J <| Um J J <| aA (aM (l := lvC ((ss.getD i default).2.2.getD j default)) J J gG J J) J ?_
 refine aA (aK J (mchoice_run ss.length ((ss.getD i default).2.2.getD j default) hIc om) dD) J <| eK (fun h63 => ?_) (fun h63 => ?_)
 ·refine aA (eG J) J <| Nk [3,18,19,20,55,56,57,64] J <| bX J <| cP <| aG <| aI (z := 2) J <| aA (cI (((j + 1 : Nat) : Int)) (aU J J om) om) J <| Um J J <| Wn <| aF <| ⟨j + 1, ⟨J, J, J, J, J, J, J, trivial⟩, trivial, ⟨om, gK hb om h63, om⟩, by show (ss.getD i default).2.2.length - (j + 1) < (ss.getD i default).2.2.length - j; omega⟩
 refine aA (eG J) J <| Nk [3,18,19,20,55,56,57,64] J <| bW J <| Rg 1 J <| Ua J J <| Wn <| aP <| aN <| bJ <| dQ <| aN <| bJ <| aN <| post (n := 0) (.inr J) J ?_ dD
 exact congrArg (fun z => LV.v (.bool z)) (show false = VMo ss from (fC (i := i) om (VS_no2 (j := j) om h63)).symm)
theorem qvmodel_run (k : Nat) (ss : List ST) (hI : ∀ s, s ∈ ss → IS s) : Run Tryz.prog T E0 (.call 21 [lvMo k ss] (.v (.bool (VMo ss)))) := by
 refine bH Tryz.func21 J J (dL J) <| Rg 2 J <| bD (dW J J) J <| Ua J J <| Wn <| aB <| Rg 10 J <| aA (bA J J J J J) J <| aA (aM J J (by repeat (first | exact g0 | refine g1 (by decide) ?_)) J J) J ?_
 refine aA (bB J J) J <| aA (bP J J) J <| aY (fun h10 => ?_) (fun h10 => ?_)
 ·refine Um J J <| K1 J J <| K1 J J <| K1 J J <| K1 J J <| aA (bK J J) J <| Wn <| aS J <| aB <| Rg 1 J <| Ua J J <| Wn <| aX <| post (n := 0) (.inr J) J ?_ dD
  exact congrArg (fun z => LV.v (.bool z)) (show false = VMo ss from (VMo_no om).symm)
 refine Um J J <| aJ J (bA J J J J J) J <| aJ J (aM J J (by repeat (first | exact g0 | refine g1 (by decide) ?_)) J J) J ?_
 refine aJ J (bB J J) J <| aJ J (dY J J) J <| aY (fun h15 => ?_) (fun h15 => ?_)
 ·refine aA (bM J J) J <| Wn <| aS J <| aB <| Rg 1 J <| Ua J J <| Wn <| aX <| post (n := 0) (.inr J) J ?_ dD
  exact congrArg (fun z => LV.v (.bool z)) (show false = VMo ss from (VMo_no om).symm)
 refine aA (bM J J) J <| Wn <| aV J <| aE <| aB <| Rg 4 J <| aA (bA J J J J J) J <| aA (aM J J (by repeat (first | exact g0 | refine g1 (by decide) ?_)) J J) J ?_
 refine aA (bB J J) J <| Um J J <| Nk [1,18,19,20] J <| aL <| bC (α := Nat) (fun i => [(1, .ptr 0 0), (18, .sl k (ss.map stc)), (19, .v (.int .i64 (ss.length : Int))), (20, .v (.int .i64 (i : Int)))]) (fun i => [(0, { cells := [.sl k (ss.map stc)], sz := 1, elem := (24), st := 0 })]) (fun i n => i ≤ ss.length ∧ (ss.take i).all (VS ss.length) = true ∧ 0 < n) (fun i => ss.length - i) (0) ⟨J, J, J, J, trivial⟩ ⟨(by repeat (first | exact g0 | refine g1 (by decide) ?_)), trivial⟩ ⟨Nat.zero_le _, by simp, om⟩ ?_
 rintro i n hF
 change WC _ _ _ _ _ (_ :: _) (_ :: _) n _
 obtain ⟨hi, ha, hn0⟩ := hF
 refine Rg 1 J <| aA (bP J J) J <| aY (fun h21 => ?_) (fun h21 => ?_)
 rotate_left
 ·refine Wn <| aV J <| aW <| aT <| aR J <| Rg 1 J <| Ua J J <| Wn <| aP <| post (n := 0) (.inr J) J ?_ dD
  exact congrArg (fun z => LV.v (.bool z)) (show true = VMo ss from (VMo_yes om om (iJ ha om)).symm)
 refine Wn <| aS J <| aE <| aL ?_
 have hIs := hI _ (bG (us := ss) (i := i) om)
 refine Rg 4 J <| aA (bQ J J J J J om J) J <| aA (dJ (l := .agg [_, _, _]) J J J) J <| bD (eC J) J <| aZ (cB (cs' := [_, _, _]) J J J gG J J J J) ?_
 refine Wn <| aB <| Rg 30 J <| aA (bA J J J J J) J <| aA (aM J J gG J J) J ?_
 refine aA (bP J J) J <| aY (fun h26 => ?_) (fun h26 => ?_)
 ·refine Um J J <| K1 J J <| K1 J J <| K1 J J <| aA (bK J J) J <| Um J J <| K1 J J <| K1 J J <| K1 J J <| aA (bK J J) J <| Um J J <| K1 J J <| K1 J J <| K1 J J <| aA (bK J J) J <| Um J J <| K1 J J <| K1 J J <| K1 J J <| K1 J J <| aA (bK J J) J <| Um J J <| K1 J J <| K1 J J ?_
  refine K1 J J <| K1 J J <| aA (bK J J) J <| Nk [1,4,18,19,20,28,29,30,33,34,35,38,39,40,43,44,45,46,49,50,51,52,53] J <| aS J <| aB <| Rg 1 J <| Ua J J <| Nk [2] J <| aX <| aN <| bJ <| aN <| post (n := 0) (.inr J) J ?_ dD
  exact congrArg (fun z => LV.v (.bool z)) (show false = VMo ss from (fC (i := i) om (lC (.inl om))).symm)
 refine Um J J <| aJ J (bA J J J J J) J <| aJ J (aM J J gG J J) J ?_
 refine aJ J (dY J J) J <| aY (fun h30 => ?_) (fun h30 => ?_)
 ·refine aA (bM J J) J <| Um J J <| K1 J J <| K1 J J <| K1 J J <| aA (bK J J) J <| Um J J <| K1 J J <| K1 J J <| K1 J J <| aA (bK J J) J <| Um J J <| K1 J J <| K1 J J <| K1 J J <| K1 J J <| aA (bK J J) J <| Um J J <| K1 J J <| K1 J J <| K1 J J <| K1 J J <| aA (bK J J) J <| cQ ?_
  refine Ck [1,4,18,19,20,28,29,30,33,34,35,38,39,40,43,44,45,46,49,50,51,52,53] J <| aS J <| aB <| Rg 1 J <| Ua J J <| Nk [2] J <| aX <| aN <| bJ <| aN <| post (n := 0) (.inr J) J ?_ dD
  exact congrArg (fun z => LV.v (.bool z)) (show false = VMo ss from (fC (i := i) om (lC (.inr (.inl om)))).symm)
 refine aA (bM J J) J <| Um J J <| aJ J (bA J J J J J) J <| aJ J (aM J J gG J J) J ?_
 refine aJ J (bP J J) J <| aY (fun h35 => ?_) (fun h35 => ?_)
 ·refine aA (bM J J) J <| Um J J <| K1 J J <| K1 J J <| K1 J J <| aA (bK J J) J <| Um J J <| K1 J J <| K1 J J <| K1 J J <| K1 J J <| aA (bK J J) J <| Um J J <| K1 J J <| K1 J J <| K1 J J <| K1 J J <| aA (bK J J) J <| Nk [1,4,18,19,20,28,29,30,33,34,35,38,39,40,43,44,45,46,49,50,51,52,53] J <| aS J <| aB <| Rg 1 J <| Ua J J ?_
  refine Nk [2] J <| aX <| aN <| bJ <| aN <| post (n := 0) (.inr J) J ?_ dD
  exact congrArg (fun z => LV.v (.bool z)) (show false = VMo ss from (fC (i := i) om (lC (.inr (.inr (.inl om))))).symm)
 refine aA (bM J J) J <| Um J J <| aJ J (bA J J J J J) J <| aJ J (aM J J gG J J) J ?_
 refine aJ J (dY J J) J <| aY (fun h40 => ?_) (fun h40 => ?_)
 ·refine aA (bM J J) J <| Um J J <| K1 J J <| K1 J J <| K1 J J <| K1 J J <| aA (bK J J) J <| Um J J <| K1 J J <| K1 J J <| K1 J J <| K1 J J <| aA (bK J J) J <| Nk [1,4,18,19,20,28,29,30,33,34,35,38,39,40,43,44,45,46,49,50,51,52,53] J <| aS J <| aB <| Rg 1 J <| Ua J J <| Nk [2] J <| aX <| aN <| bJ ?_
  refine aN <| post (n := 0) (.inr J) J ?_ dD
  exact congrArg (fun z => LV.v (.bool z)) (show false = VMo ss from (fC (i := i) om (lC (.inr (.inr (.inr (.inl om)))))).symm)
 refine aA (bM J J) J <| Um J J <| aJ J (bA J J J J J) J <| aJ J (aM J J gG J J) J ?_
 refine aJ J (bB J J) J <| aJ J (bP J J) J <| aY (fun h46 => ?_) (fun h46 => ?_)
 ·refine aA (bM J J) J <| Um J J <| K1 J J <| K1 J J <| K1 J J <| K1 J J <| aA (bK J J) J <| Nk [1,4,18,19,20,28,29,30,33,34,35,38,39,40,43,44,45,46,49,50,51,52,53] J <| aS J <| aB <| Rg 1 J <| Ua J J <| Nk [2] J <| aX <| aN <| bJ <| aN <| post (n := 0) (.inr J) J ?_ dD
  exact congrArg (fun z => LV.v (.bool z)) (show false = VMo ss from (fC (i := i) om (lC (.inr (.inr (.inr (.inr (.inl om))))))).symm)
 refine aA (bM J J) J <| Um J J <| aJ J (bA J J J J J) J <| aJ J (aM J J gG J J) J ?_
 refine aJ J (bB J J) J <| aJ J (dY J J) J <| aY (fun h52 => ?_) (fun h52 => ?_)
 ·refine aA (bM J J) J <| Nk [1,4,18,19,20,28,29,30,33,34,35,38,39,40,43,44,45,46,49,50,51,52,53] J <| aS J <| aB <| Rg 1 J <| Ua J J <| Nk [2] J <| aX <| aN <| bJ <| aN <| post (n := 0) (.inr J) J ?_ dD
  exact congrArg (fun z => LV.v (.bool z)) (show false = VMo ss from (fC (i := i) om (lC (.inr (.inr (.inr (.inr (.inr om))))))).symm)
 refine aA (bM J J) J <| Nk [1,4,18,19,20,28,29,30,33,34,35,38,39,40,43,44,45,46,49,50,51,52,53] J <| aV J <| aE <| Rg 4 J <| aA (bA J J J J J) J <| aA (aM J J gG J J) J ?_
 refine aA (bB J J) J <| Um J J <| Nk [1,18,19,20,28,29,30,33,34,35,38,39,40,43,44,45,46,49,50,51,52,55,56,57] J <| cA <| bC (α := Nat) (fun j => [(1, .ptr 0 0), (18, .sl k (ss.map stc)), (19, .v (.int .i64 (ss.length : Int))), (20, .v (.int .i64 (i : Int))), (55, .sl (ss.getD i default).2.1 ((ss.getD i default).2.2.map chc)), (56, .v (.int .i64 ((ss.getD i default).2.2.length : Int))), (57, .v (.int .i64 (j : Int)))]) (fun j => [(0, { cells := [.sl k (ss.map stc)], sz := 1, elem := (24), st := 0 })]) (fun j n => j ≤ (ss.getD i default).2.2.length ∧ ((ss.getD i default).2.2.take j).all (VC ss.length) = true ∧ 0 < n) (fun j => (ss.getD i default).2.2.length - j) (0) ⟨J, J, J, J, J, J, J, trivial⟩ ⟨gG, trivial⟩ ⟨Nat.zero_le _, by simp, om⟩ ?_
 rintro j n hF
 change WC _ _ _ _ _ (_ :: _) (_ :: _) n _
 obtain ⟨hj, hb, hn2⟩ := hF
 refine Rg 1 J <| aA (bP J J) J <| aY (fun h58 => ?_) (fun h58 => ?_)
 rotate_left
 ·refine Wn <| aV J <| aW <| aT <| fE J <| aG <| aI (z := 2) J <| aA (cI (((i + 1 : Nat) : Int)) (aU J J om) om) J <| Um J J <| Wn <| aF <| ⟨i + 1, ⟨J, J, J, J, trivial⟩, ⟨gG, trivial⟩, ⟨om, gK ha om (VS_yes om om om om om om (iJ hb om)), om⟩, by show ss.length - (i + 1) < ss.length - i; omega⟩
 refine Wn <| aS J <| aE <| aL ?_
 have hIc := hIs.2.2 _ (bG (us := (ss.getD i default).2.2) (i := j) om)
 refine Rg 4 J <| aA (bQ J J J J J om J) J <| aA (dJ (l := .agg [_, _, _]) J J J) J <| bD (eC J) J <| aZ (cB (cs' := [_, _, _]) J J J gG J J J J) ?_
 refine Wn <| Rg 6 J <| aA (aM (l := lvC ((ss.getD i default).2.2.getD j default)) J J gG J J) J ?_
 refine aA (bA J J J J J) J <| aA (aM J J gG J J) J ?_
 refine aA (cI ((ss.length : Int)) (bB J J) (by simp)) J <| aA (aK J (qchoice_run ss.length ((ss.getD i default).2.2.getD j default) hIc om) dD) J <| eK (fun h65 => ?_) (fun h65 => ?_)
 ·refine aA (eG J) J <| Nk [1,18,19,20,55,56,57,66] J <| bX J <| cP <| aG <| aI (z := 2) J <| aA (cI (((j + 1 : Nat) : Int)) (aU J J om) om) J <| Um J J <| Wn <| aF <| ⟨j + 1, ⟨J, J, J, J, J, J, J, trivial⟩, ⟨gG, trivial⟩, ⟨om, gK hb om h65, om⟩, by show (ss.getD i default).2.2.length - (j + 1) < (ss.getD i default).2.2.length - j; omega⟩
 refine aA (eG J) J <| Nk [1,18,19,20,55,56,57,66] J <| bW J <| Rg 1 J <| Ua J J <| Wn <| aP <| aN <| bJ <| dQ <| aN <| bJ <| aN <| post (n := 0) (.inr J) J ?_ dD
 exact congrArg (fun z => LV.v (.bool z)) (show false = VMo ss from (fC (i := i) om (VS_no2 (j := j) om h65)).symm)
end Go.Proofs.YtahljdjhhapngaaGreat
set_option maxHeartbeats 16000000
namespace Go.Proofs.YtahljdjhhapngaaGreat
open Go.Ab Go.RowKit
theorem mreduced_wcB (rows0 : List X1) (cols w : Nat) (hne : 0 < rows0.length) (ln : rows0.length < 1000000) (hw : Wid w (vX rows0)) (hcw : cols ≤ w) (lw : w < 1000000) (β : Nat) (hβ : β ≤ 268435456) (hgb : GB (vX rows0) cols β) : WC Tryz.prog T E0 Tryz.f129.ntmps (codeOf Tryz.f129) (argsEnv 0 [.sl 1 (rows0.map fX), .v (.int .i64 (cols : Int))]) [] 0 (fun x e h n => (x = .normal ∨ x = .ret) ∧ ∃ (q : Nat) (rows : List X1) (d : X), vX rows = (gjn (vX rows0) cols).1 ∧ d.1 = gjd (vX rows0) cols ∧ resE e T h Tryz.f129.results.toList = some [.ref 4 1 0 rows.length, outV q 1 ((gjn (vX rows0) cols).2.map d64), lvX d] ∧ getH h 4 = some { cells := (rows.map fX).flatten, sz := 1, elem := 104, st := 0 } ∧ ((gjn (vX rows0) cols).2.map d64 ≠ [] → getH h q = some { cells := ((gjn (vX rows0) cols).2.map d64).flatten, sz := 1, elem := 3, st := 0 })) := by
 obtain ⟨_, _, _, hr1, rfl, rfl, rfl⟩ := clone_own rows0 hne om
 refine Rg 3 J <| Ua J J <| Ua J J <| bD (eC J) J <| Wn <| Rg 3 J <| Um J J <| bD (oCallO J hr1 (by first | (simp [-cJ]; done) | simp)) J <| Ua J J <| Wn <| Rg 3 J <| aA (aK J (iX 1 (by unfold I64; omega)) (by first | (simp [-cJ]; done) | simp)) J <| bD (eC J) J <| aZ (cB (cs' := [_, _, _, _]) J J J J J J J J) <| Wn <| Rg 1 J <| Ua J J <| Wn <| aB <| Rg 2 J <| Um J J <| Um J J <| Wn <| aL ?_
 refine bC (α := Nat × Nat × (List X1) × (List Nat) × X) (fun ⟨c, q, rows, leads, d⟩ => [(6, .ptr (0 + (0 + 1 + 1)) 0), (7, .ref (0 + 3 + 1) 1 0 rows.length), (8, .ptr (0 + 3 + 3 + 1) 0), (9, outV q 1 (leads.map d64)), (18, .v (.int .i64 (cols : Int))), (19, .v (.int .i64 (c : Int)))]) (fun ⟨c, q, rows, leads, d⟩ => outH q 1 3 (leads.map d64) [((0 + 3 + 1), { cells := (rows.map fX).flatten, sz := 1, elem := 104, st := 0 }), ((0 + 3 + 3 + 1), { cells := xc d, sz := 4, elem := 102, st := 0 }), (2, { cells := [.v (.int .i64 0), .sl 0 [], .v (.int .i64 0), .sl 0 []], sz := 4, elem := 102, st := 0 })]) (fun ⟨c, q, rows, leads, d⟩ n => c ≤ cols ∧ vX rows = (gjn (vX rows0) c).1 ∧ leads = (gjn (vX rows0) c).2 ∧ 8 ≤ q ∧ q < n ∧ d.1 = gjd (vX rows0) c) (fun ⟨c, q, rows, leads, d⟩ => cols - c) (0, 8, rows0, [], xint 1) ⟨J, J, J, J, J, J, trivial⟩ ⟨J, J, J, trivial⟩ ⟨Nat.zero_le _, rfl, rfl, om, om, rfl⟩ ?_
 rintro ⟨c, q, rows, leads, d⟩ n hF
 change WC _ _ _ _ _ (_ :: _) (outH _ _ _ _ _) n _
 obtain ⟨hc, hv, hld, hq5, hqn, hdv⟩ := hF
 have GI := hgb.all hw hcw c hc
 have hrl0 : rows.length = rows0.length := by rw [← cY rows, hv, cW, cY]
 have hll : leads.length ≤ rows.length := by have := GI.led; rw [cY] at this; rw [hld]; omega
 have hwid : ∀ i, i < rows.length → (rows.getD i default).2.length = w := by
  intro i hi
  have := GI.wid.row (i := i) (by rw [← hv, cY]; exact hi)
  rw [← hv, dC] at this
  simpa using this
 refine Rg 1 J <| aA (bP J J) J <| aY (fun h20 => ?_) (fun h20 => ?_)
 rotate_left
 ·refine Wn <| aV J <| aW <| aT <| aR J <| bL (z := 6) J kR <| Dm J J <| Dm J J <| aC (aM (l := .agg [_, _, _, _]) J J (aH om (g1 (by decide) g0)) J J) J <| aC (jJ J) J <| aC (jJ J) J <| cC (cB (cs' := [_, _, _, _]) J J J (aH om (g1 (by decide) (g1 (by decide) g0))) J J J J) <| bE (aQ kR) J <| aP ?_
  have hcc : c = cols := by omega
  subst hcc
  refine ⟨.inr J, q, rows, d, hv, hdv, ?_, g1 (by decide) (aH om g0), ?_⟩
  ·rw [← hld]; rfl
  ·rw [← hld]; exact fun hu => g1 om (dG hu)
 refine Wn <| aS J <| aE <| aL <| Rg 2 J <| Um J J <| Ua J J <| Wn <| Rg 3 J <| Um J J <| aA (oLenO J J) J <| Ua J J <| Wn <| Rg 2 J <| Um J J <| Ua J J <| Wn <| aL <| bC (α := Nat) (fun a => [(6, .ptr (0 + (0 + 1 + 1)) 0), (7, .ref (0 + 3 + 1) 1 0 rows.length), (8, .ptr (0 + 3 + 3 + 1) 0), (9, outV q 1 (leads.map d64)), (10, .v (.int .i64 (c : Int))), (11, .v (.int .i64 (leads.length : Int))), (12, .v (.int .i64 (a : Int))), (18, .v (.int .i64 (cols : Int))), (19, .v (.int .i64 (c : Int)))]) (fun a => outH q 1 3 (leads.map d64) [((0 + 3 + 1), { cells := (rows.map fX).flatten, sz := 1, elem := 104, st := 0 }), ((0 + 3 + 3 + 1), { cells := xc d, sz := 4, elem := 102, st := 0 }), (2, { cells := [.v (.int .i64 0), .sl 0 [], .v (.int .i64 0), .sl 0 []], sz := 4, elem := 102, st := 0 })]) (fun a n => leads.length ≤ a ∧ a ≤ rows.length ∧ (∀ k, leads.length ≤ k → k < a → ent (vX rows) k c = 0) ∧ q < n) (fun a => rows.length - a) (leads.length) ⟨J, J, J, J, J, J, J, J, J, trivial⟩ (dN dG (aH om g0) (aH om (g1 (by decide) g0)) (aH om (g1 (by decide) (g1 (by decide) g0)))) ⟨Nat.le_refl _, hll, by intro k h1 h2; omega, om⟩ ?_
 rintro a n hG
 change WC _ _ _ _ _ (_ :: _) (outH _ _ _ _ _) n _
 obtain ⟨hle1, hle2, hz, hqn2⟩ := hG
 refine aB <| Rg 15 J <| Um J J <| Um J J <| aA (kA J J) J <| aA (bP J J) J <| aY (fun h28 => ?_) (fun h28 => ?_)
 rotate_left
 ·refine Um J J <| K1 J J <| K1 J J <| K1 J J <| K1 J J <| K1 J J <| K1 J J <| K1 J J <| K1 J J <| K1 J J <| aA (bM J J) J <| Nk [6,7,8,9,10,11,12,18,19,30,31,32,33,34,35,36,37,38,39] J <| aV J <| aW <| aT <| aR J <| Ck [6,7,8,9,10,11,12,18,19,30,31,32,33,34,35,36,37,38] J <| aB <| Rg 4 J <| Um J J <| Um J J <| aA (kA J J) J <| aA (fJ J J) J ?_
  refine aY (fun h45 => ?_) (fun h45 => ?_)
  rotate_left
  ·omega
  refine Nk [6,7,8,9,10,11,12,18,19,30,31,32,33,34,35,36,37,38,45] J <| aS J <| aW <| aR J <| Ck [6,7,8,9,18,19,30,31,32,33,34,35,36,37,38] J <| aI (z := 2) J <| aA (cI (((c + 1 : Nat) : Int)) (aU J J om) om) J <| Um J J <| Wn <| aF ?_
  have hpv : pivot (vX rows) leads.length c = a := kB hle1 (by rw [cY]; exact hle2) hz (.inl (by rw [cY]; omega))
  have hpn : pivot (gjn (vX rows0) c).1 (gjn (vX rows0) c).2.length c = (gjn (vX rows0) c).1.length := by rw [← hv, ← hld, hpv, cY]; omega
  refine ⟨⟨c + 1, q, rows, leads, d⟩, ⟨J, J, J, J, J, J, trivial⟩, (dN dG (aH om g0) (aH om (g1 (by decide) g0)) (aH om (g1 (by decide) (g1 (by decide) g0)))), ⟨om, by rw [lL hpn]; exact hv, by rw [lL hpn]; exact hld, om, om, by rw [gjd_no hpn]; exact hdv⟩, by show cols - (c + 1) < cols - c; omega⟩
 refine Um J J <| aJ J (eW J) J <| aJ J (eW J) J <| aJ J (cG (j := a) J J J J om om J) J <| aJ J (eL (f := fX) (us := rows) (j := a) J J (aH om g0) (fun _ => rfl) J (by decide) om J) J <| aJ J (eW J) J <| aJ J (bQ J J J J J (by have := hwid a om; omega) J) J <| aJ J (dJ (l := .agg [_, _, _, _]) J J J) J <| aJ J (aK J (iV ((rows.getD a default).2.getD c default)) (by first | (simp [-cJ]; done) | simp)) J <| aJ J (fJ J J) J <| aY (fun h38 => ?_) (fun h38 => ?_)
 ·have hez : ent (vX rows) a c = 0 := by rw [← iI]; exact fY.1 h38
  refine aA (bK J J) J <| Nk [6,7,8,9,10,11,12,18,19,30,31,32,33,34,35,36,37,38,39] J <| aS J <| aE <| cA <| aI (z := 3) J <| Um J J <| aA (cI (((a + 1 : Nat) : Int)) (aU J J om) om) J <| Ua J J <| Wn <| cE <| aF <| ⟨a + 1, ⟨J, J, J, J, J, J, J, J, J, trivial⟩, (dN dG (aH om g0) (aH om (g1 (by decide) g0)) (aH om (g1 (by decide) (g1 (by decide) g0)))), ⟨om, om, ?_, om⟩, by show rows.length - (a + 1) < rows.length - a; omega⟩
  intro k h1 h2
  by_cases e : k = a
  ·subst e; exact hez
  ·exact hz k h1 om
 have hen : ent (vX rows) a c ≠ 0 := by rw [← iI]; exact fun k => h38 (fY.2 k)
 refine aA (bK J J) J <| Nk [6,7,8,9,10,11,12,18,19,30,31,32,33,34,35,36,37,38,39] J <| aV J <| aW <| aT <| aR J <| Ck [6,7,8,9,10,11,12,18,19,30,31,32,33,34,35,36,37,38] J <| aB <| Rg 4 J <| Um J J <| Um J J <| aA (kA J J) J <| aA (fJ J J) J <| aY (fun h45 => ?_) (fun h45 => ?_)
 ·omega
 refine Nk [6,7,8,9,10,11,12,18,19,30,31,32,33,34,35,36,37,38,45] J <| aV J <| aE <| aB ?_
 have hrl : leads.length < rows.length := by omega
 have hpv : pivot (vX rows) leads.length c = a := kB hle1 (by rw [cY]; exact hle2) hz (.inr hen)
 rw [hv, hld] at hpv
 have hal : a < (gjn (vX rows0) c).1.length := by rw [← hv, cY]; omega
 have hgy := lZ hpv hal
 have hsp : ent (sw (vX rows) a leads.length) leads.length c ≠ 0 := by rw [lK (by rw [cY]; omega) (by rw [cY]; omega)]; exact hen
 have hbv : BdL (β) (vX rows) := by rw [hv]; exact GI.bds om
 have hbc : β ≤ 268435456 := hβ
 have hbp := hgb.pos
 have hdb : Bd β d.1 := by rw [hdv]; exact hgb.dts c om
 obtain ⟨M, hM⟩ : ∃ M, M = mid (vX rows) a leads.length c := ⟨_, rfl⟩
 have hMl : M.length = rows.length := by rw [hM, oD, cY]
 have hMb : BdL (2 * β + 1) M := by rw [hM]; exact hbv.mid om hsp
 have hMw : Wid w M := by rw [hM]; exact (show Wid w (vX rows) by rw [hv]; exact GI.wid).mid (by rw [cY]; omega) (by rw [cY]; omega) c
 refine Rg 3 J <| Um J J <| Um J J <| aA (fV J J) J <| aY (fun h48 => ?_) (fun h48 => ?_)
 rotate_left
 ·refine Nk [6,7,8,9,10,11,12,18,19,30,31,32,33,34,35,36,37,38,48] J <| aV J <| aE ?_
  obtain ⟨rows1, hr1⟩ : ∃ z, z = rows := ⟨_, rfl⟩
  obtain ⟨d1, hd1e⟩ : ∃ z, z = d := ⟨_, rfl⟩
  have hae : a = leads.length := by omega
  have hd1 : d1.1 = d.1 := by rw [hd1e]
  have hv1 : vX rows1 = sw (vX rows) a leads.length := by rw [hr1, hae, sw_same (by rw [cY]; omega)]
  have hl1 : rows1.length = rows.length := by simp [hr1]
  have hp1 : ((rows1.getD leads.length default).2.getD c default).1 ≠ 0 := by rw [iI, hv1]; exact hsp
  have hb1 : BdL (β) (vX rows1) := by rw [hv1]; exact hbv.sw _ _
  have hbr : ∀ x, x ∈ (rows1.getD leads.length default).2 → Bd (β) x.1 := by
   intro x hx
   have := hb1.row leads.length
   rw [dC] at this
   exact this _ (List.mem_map.2 ⟨x, hx, rfl⟩)
  have hwr : (rows1.getD leads.length default).2.length = w := by
   have := ((show Wid w (vX rows) by rw [hv]; exact GI.wid).sw (i := a) (r := leads.length) (by rw [cY]; omega) (by rw [cY]; omega)).row (i := leads.length) (by rw [jT, cY]; omega)
   rw [← hv1, dC, List.length_map] at this; exact this
  have hbpp := hbr _ (bG (show c < (rows1.getD leads.length default).2.length by omega))
  have hb1p := Bd1.div hbpp hp1
  obtain ⟨p, hpe⟩ : ∃ p, p = (rows1.getD leads.length default).2.getD c default := ⟨_, rfl⟩
  have hpv1 : p.1 = ent (vX rows) a c := by rw [hpe, iI, hv1, lK (by rw [cY]; omega) (by rw [cY]; omega)]
  have hd1b : Bd (β) d1.1 := by rw [hd1]; exact hdb
  have hd2v : (xmul d1 p).1 = gjd (vX rows0) (c + 1) := by
   rw [nZ hpv hal, ← hv, ← hld]
   show d1.1 * p.1 = _
   rw [hpv1, hd1, if_neg om, hdv]
  refine fD (outH q 1 3 (leads.map d64) [((0 + 3 + 1), { cells := (rows1.map fX).flatten, sz := 1, elem := 104, st := 0 }), ((0 + 3 + 3 + 1), { cells := xc d1, sz := 4, elem := 102, st := 0 }), (2, { cells := [.v (.int .i64 0), .sl 0 [], .v (.int .i64 0), .sl 0 []], sz := 4, elem := 102, st := 0 })]) (dN dG (aH om (g0.trans (by rw [hr1]))) (aH om (g1 (by decide) (g0.trans (by rw [hd1e])))) (aH om (g1 (by decide) (g1 (by decide) g0)))) <| Rg 9 J <| Um J J <| Um J J <| aA (cG (j := leads.length) J J J J om om J) J <| aA (eL (f := fX) (us := rows1) (j := leads.length) J J (aH om g0) (fun _ => rfl) J (by decide) om J) J <| Um J J <| aA (bQ J J J J J om J) J <| aA (bN (b := lvX p) (dJ (l := .agg [_, _, _, _]) J J J) (by rw [hpe]; rfl)) J <| bD (eC J) J <| aZ (cB (cs' := xc p) J J J g0 J J J J) <| Nk [6,7,8,9,10,11,13,18,19,30,31,32,33,34,35,36,37,38] J <| Rg 4 J <| aA (aM (l := .agg [_, _, _, _]) J J (g1 om (g1 om (aH om (g1 (by decide) g0)))) J J) J <| aA (aM (l := lvX p) J J g0 J J) J <| aA (aK J (jH d1 p (hd1b.mono om) (by rw [hpe]; exact hbpp.mono om)) (by first | (simp [-cJ]; done) | simp)) J <| aZ (cB (cs' := [_, _, _, _]) J J J (g1 om (g1 om (aH om (g1 (by decide) g0)))) J J J J) <| Nk [6,7,8,9,10,11,13,18,19,30,31,32,33,34,35,36,37,38] J ?_
  obtain ⟨r, hr, np, rfl, hnp⟩ := qB (rows1.getD leads.length default).1 (rows1.getD leads.length default).2 (xdiv (xint 1) p) om (fun x hx => (hbr x hx).mono om) (by rw [hpe]; exact hb1p.mono om)
  refine bL (z := 12) J kR <| Dm J J <| Dm J J <| Dm J J <| Dm J J <| aC (cG (j := leads.length) J J J J om om J) J <| aC (eL (f := fX) (us := rows1) (j := leads.length) J J (g1 om (g1 om (g1 om (aH om g0)))) (fun _ => rfl) J (by decide) om J) J <| aC (aK J (iX 1 (by unfold I64; omega)) (by first | (simp [-cJ]; done) | simp)) J <| aC (aM (l := lvX p) J J (g1 om g0) J J) J <| aC (aK J (rdiv_run (xint 1) p (by rw [hpe]; exact hp1) (Bd1.mono om) (by rw [hpe]; exact hbpp.mono om)) (by first | (simp [-cJ]; done) | simp)) J <| aC (aK J (hr) (by first | (simp [-cJ]; done) | simp)) J <| aC (cG (j := leads.length) J J J J om om J) J <| cC (eJ (f := fX) (us := rows1) (1, np) J J J (g1 om (g1 om (g1 om (aH om g0)))) (fun _ => rfl) J J om J) <| bE (aQ kR) J <| Ck [6,7,8,9,10,11,18,19,30,31,32,33,34,35,36,37,38] J <| aB ?_
  obtain ⟨rowsM, hr2⟩ : ∃ z, z = rows1.set leads.length (1, np) := ⟨_, rfl⟩
  rw [← hr2]
  have hl2 : rowsM.length = rows.length := by rw [hr2, List.length_set]; exact hl1
  have hv2 : vX rowsM = M := by
   rw [hr2, pS, hv1, hM]; unfold mid
   rw [hnp, ← dC, hv1]
   have : (xdiv (xint 1) p).1 = 1 / ent (sw (vX rows) a leads.length) leads.length c := by show (1 : Rat) / p.1 = _; rw [hpv1, lK (by rw [cY]; omega) (by rw [cY]; omega)]
   rw [this]
  refine Rg 3 J <| Um J J <| aA (kA J J) J <| Um J J <| Nk [6,7,8,9,10,11,18,19,30,31,32,33,34,35,36,37,38,87,88] J <| aL <| bC (α := Nat × (List X1)) (fun ⟨j, rows2⟩ => [(6, .ptr (0 + (0 + 1 + 1)) 0), (7, .ref (0 + 3 + 1) 1 0 rows2.length), (8, .ptr (0 + 3 + 3 + 1) 0), (9, outV q 1 (leads.map d64)), (10, .v (.int .i64 (c : Int))), (11, .v (.int .i64 (leads.length : Int))), (18, .v (.int .i64 (cols : Int))), (19, .v (.int .i64 (c : Int))), (87, .v (.int .i64 (rows.length : Int))), (88, .v (.int .i64 (j : Int)))]) (fun ⟨j, rows2⟩ => outH q 1 3 (leads.map d64) [((0 + 3 + 1), { cells := (rows2.map fX).flatten, sz := 1, elem := 104, st := 0 }), ((0 + 3 + 3 + 1), { cells := xc (xmul d1 p), sz := 4, elem := 102, st := 0 }), (2, { cells := [.v (.int .i64 0), .sl 0 [], .v (.int .i64 0), .sl 0 []], sz := 4, elem := 102, st := 0 })]) (fun ⟨j, rows2⟩ n => j ≤ rows.length ∧ rows2.length = rows.length ∧ (∀ k, k < rows.length → (vX rows2).getD k default = if k < j then elr M leads.length c k else M.getD k default) ∧ q < n) (fun ⟨j, rows2⟩ => rows.length - j) (0, rowsM) ⟨rfl, congrArg some (by rw [hl2]), rfl, rfl, rfl, rfl, rfl, rfl, rfl, rfl, trivial⟩ (dN (fun hu => (g1 om (g1 om (g1 om (g1 om (dG hu)))))) g0 (g1 om g0) (g1 om (g1 om (g1 om (g1 om (aH om (g1 (by decide) (g1 (by decide) g0)))))))) ⟨Nat.zero_le _, hl2, by intro k hk; rw [if_neg om, hv2], om⟩ ?_
  rintro ⟨j, rows2⟩ n hJ
  change WC _ _ _ _ _ (_ :: _) (outH _ _ _ _ _) n _
  obtain ⟨hjl, hl4, hst, hqn4⟩ := hJ
  refine Rg 1 J <| aA (bP J J) J <| aY (fun h89 => ?_) (fun h89 => ?_)
  rotate_left
  ·refine Wn <| aV J <| aW <| aT <| aR J ?_
   have hfin : vX rows2 = elim M leads.length c := elim_eq (j := j) (by rw [cY]; omega) om (by rw [hMl]; exact hst)
   refine aI (z := 5) J <| Um J J <| Um J J <| aA (dA (cs := [_]) (rows := [[_]]) J J (by decide) J J J) J <| dE (te := ti3) (f := d64) (q := q) (us := leads) (u := c) J J J J J (fun _ => rfl) (by decide) (by show (2 * (leads.length + 1) + 256) * 8 ≤ _; omega) om (gN om (gN om (gN om J))) (gN om (gN om (gN om J))) J <| Ua J J <| Wn <| aG <| Ck [6,7,8,9,18,19] J <| aI (z := 2) J <| aA (cI (((c + 1 : Nat) : Int)) (aU J J om) om) J <| Um J J <| Wn <| aF <| ⟨⟨c + 1, _, rows2, leads ++ [c], xmul d1 p⟩, ⟨J, J, J, J, J, J, trivial⟩, (dN dG (aH om g0) (aH om (g1 (by decide) g0)) (aH om (g1 (by decide) (g1 (by decide) g0)))), ⟨om, by rw [hgy, hfin, hM, hv, hld], by rw [hgy, hld], om, om, hd2v⟩, by show cols - (c + 1) < cols - c; omega⟩
  refine Wn <| aS J <| aE <| aL <| Rg 2 J <| Um J J <| Ua J J <| cQ ?_
  have hrj : vX rows2 = vX rows2 := rfl
  have hj1 : (vX rows2).getD j default = M.getD j default := by rw [hst j om, if_neg om]
  have hj2 : (vX rows2).getD leads.length default = M.getD leads.length default := elim_row om (by rw [hMl]; exact hst)
  have hej : ent (vX rows2) j c = ent M j c := by unfold ent; rw [hj1]
  have hwj : (rows2.getD j default).2.length = w := by have := hMw.row (i := j) om; rw [← hj1, dC] at this; simpa using this
  have hwl : (rows2.getD leads.length default).2.length = w := by have := hMw.row (i := leads.length) om; rw [← hj2, dC] at this; simpa using this
  refine Rg 14 J <| Um J J <| Um J J <| aA (fV J J) J <| aY (fun h93 => ?_) (fun h93 => ?_)
  rotate_left
  ·refine Um J J <| K1 J J <| K1 J J <| K1 J J <| K1 J J <| K1 J J <| K1 J J <| K1 J J <| K1 J J <| K1 J J <| aA (bM J J) J <| Nk [6,7,8,9,10,11,14,18,19,87,88,95,96,97,98,99,100,101,102,103,104] J <| bX J <| cP <| aG <| Ck [6,7,8,9,10,11,18,19,87,88,95,96,97,98,99,100,101,102,103] J <| aI (z := 2) J <| aA (cI (((j + 1 : Nat) : Int)) (aU J J om) om) J <| Um J J <| Wn <| aF <| ⟨⟨j + 1, rows2⟩, ⟨J, J, J, J, J, J, J, J, J, J, trivial⟩, (dN dG (aH om g0) (aH om (g1 (by decide) g0)) (aH om (g1 (by decide) (g1 (by decide) g0)))), ⟨om, hl4, (by have := lY (A := vX rows2) (M := M) (j := j) om (by rw [hMl]; exact hst) (nW (.inl om)).symm; rwa [hMl] at this), om⟩, by show rows.length - (j + 1) < rows.length - j; omega⟩
  refine Um J J <| aJ J (eW J) J <| aJ J (eW J) J <| aJ J (cG (j := j) J J J J om om J) J <| aJ J (eL (f := fX) (us := rows2) (j := j) J J (aH om g0) (fun _ => rfl) J (by decide) om J) J <| aJ J (eW J) J <| aJ J (bQ J J J J J om J) J <| aJ J (dJ (l := .agg [_, _, _, _]) J J J) J <| aJ J (aK J (iV ((rows2.getD j default).2.getD c default)) (by first | (simp [-cJ]; done) | simp)) J <| aJ J (fV J J) J <| aY (fun h103 => ?_) (fun h103 => ?_)
  rotate_left
  ·refine aA (bK J J) J <| Nk [6,7,8,9,10,11,14,18,19,87,88,95,96,97,98,99,100,101,102,103,104] J <| bX J <| cP <| aG <| Ck [6,7,8,9,10,11,18,19,87,88,95,96,97,98,99,100,101,102,103] J <| aI (z := 2) J <| aA (cI (((j + 1 : Nat) : Int)) (aU J J om) om) J <| Um J J <| Wn <| aF <| ⟨⟨j + 1, rows2⟩, ⟨J, J, J, J, J, J, J, J, J, J, trivial⟩, (dN dG (aH om g0) (aH om (g1 (by decide) g0)) (aH om (g1 (by decide) (g1 (by decide) g0)))), ⟨om, hl4, (by have := lY (A := vX rows2) (M := M) (j := j) om (by rw [hMl]; exact hst) (nW (.inr (by rw [← hej, ← iI]; exact fY.1 om))).symm; rwa [hMl] at this), om⟩, by show rows.length - (j + 1) < rows.length - j; omega⟩
  refine aA (bK J J) J <| Nk [6,7,8,9,10,11,14,18,19,87,88,95,96,97,98,99,100,101,102,103,104] J <| bW J ?_
  have hen2 : ent M j c ≠ 0 := by rw [← hej, ← iI]; exact fun k => h103 (fY.2 k)
  have hbj : ∀ x, x ∈ (rows2.getD j default).2 → Bd (2 * β + 1) x.1 := by
   intro x hx
   have := hMb.row j
   rw [← hj1, dC] at this
   exact this _ (List.mem_map.2 ⟨x, hx, rfl⟩)
  have hbl : ∀ x, x ∈ (rows2.getD leads.length default).2 → Bd (2 * β + 1) x.1 := by
   intro x hx
   have := hMb.row leads.length
   rw [← hj2, dC] at this
   exact this _ (List.mem_map.2 ⟨x, hx, rfl⟩)
  have hbe := hbj _ (bG (show c < (rows2.getD j default).2.length by omega))
  obtain ⟨r, hr, nw, rfl, hnw⟩ := nA (rows2.getD j default).1 (rows2.getD leads.length default).1 (rows2.getD j default).2 (rows2.getD leads.length default).2 (xneg ((rows2.getD j default).2.getD c default)) om om (fun x hx => (hbj x hx).mono om) (fun x hx => (hbl x hx).mono om) (hbe.neg.mono om)
  refine dF (z := 21) J kR <| Dm J J <| Dm J J <| Dm J J <| Dm J J <| aC (cG (j := j) J J J J om om J) J <| aC (eL (f := fX) (us := rows2) (j := j) J J (aH om g0) (fun _ => rfl) J (by decide) om J) J <| Dm J J <| Dm J J <| aC (cG (j := j) J J J J om om J) J <| aC (eL (f := fX) (us := rows2) (j := j) J J (aH om g0) (fun _ => rfl) J (by decide) om J) J <| Dm J J <| aC (bQ J J J J J om J) J <| aC (dJ (l := .agg [_, _, _, _]) J J J) J <| aC (aK J (kC ((rows2.getD j default).2.getD c default)) (by first | (simp [-cJ]; done) | simp)) J <| Dm J J <| Dm J J <| aC (cG (j := leads.length) J J J J om om J) J <| aC (eL (f := fX) (us := rows2) (j := leads.length) J J (aH om g0) (fun _ => rfl) J (by decide) om J) J <| aC (aK J (hr) (by first | (simp [-cJ]; done) | simp)) J <| aC (cG (j := j) J J J J om om J) J <| cC (eJ (f := fX) (us := rows2) (1, nw) J J J (aH om g0) (fun _ => rfl) J J om J) <| bE (aQ kR) J <| aG ?_
  refine Ck [6,7,8,9,10,11,18,19,87,88,95,96,97,98,99,100,101,102,103] J <| aI (z := 2) J <| aA (cI (((j + 1 : Nat) : Int)) (aU J J om) om) J <| Um J J <| Wn <| aF <| ⟨⟨j + 1, rows2.set j (1, nw)⟩, ⟨rfl, congrArg some (by rw [List.length_set]), rfl, rfl, rfl, rfl, rfl, rfl, rfl, rfl, trivial⟩, dN (fun hu => g1 om (dG hu)) g0 (g1 (by decide) (aH om (g1 (by decide) g0))) (g1 (by decide) (aH om (g1 (by decide) (g1 (by decide) g0)))), ⟨om, by rw [List.length_set]; exact hl4, by rw [pS]; exact (by have := elim_next (A := vX rows2) (M := M) (j := j) (by rw [cY]; omega) om (by rw [hMl]; exact hst) (x := nw.map (·.1)) (by rw [elr_pos om hen2, ← hej, ← hj1, ← hj2, dC, dC, ← iI, hnw]; rfl); rwa [hMl] at this), om⟩, by show rows.length - (j + 1) < rows.length - j; omega⟩
 refine Nk [6,7,8,9,10,11,12,18,19,30,31,32,33,34,35,36,37,38,48] J <| aS J <| aB <| bL (z := 16) J kR <| Dm J J <| Dm J J <| Dm J J <| Dm J J <| Dm J J <| Dm J J <| aC (cG (j := leads.length) J J J J om om J) J <| aC (eL (f := fX) (us := rows) (j := leads.length) J J (aH om g0) (fun _ => rfl) J (by decide) om J) J <| Dm J J <| Dm J J <| aC (cG (j := a) J J J J om om J) J <| aC (eL (f := fX) (us := rows) (j := a) J J (aH om g0) (fun _ => rfl) J (by decide) om J) J <| aC (cG (j := a) J J J J om om J) J <| cC (eJ (f := fX) (us := rows) (rows.getD leads.length default) J J J (aH om g0) (fun _ => rfl) J J om J) <| aC (cG (j := leads.length) J J J J om om J) J <| cC (eJ (f := fX) (us := (rows.set a (rows.getD leads.length default))) (rows.getD a default) J J J g0 (fun _ => rfl) J J (by rw [List.length_set]; omega) J) <| bE (aQ kR) J <| Ck [6,7,8,9,10,11,18,19,30,31,32,33,34,35,36,37,38] J <| Rg 3 J ?_
 refine aA (aM (l := .agg [_, _, _, _]) J J (g1 om (g1 om (aH om (g1 (by decide) g0)))) J J) J <| aA (aK J (kC d) (by first | (simp [-cJ]; done) | simp)) J <| aZ (cB (cs' := [_, _, _, _]) J J J (g1 om (g1 om (aH om (g1 (by decide) g0)))) J J J J) <| Nk [6,7,8,9,10,11,18,19,30,31,32,33,34,35,36,37,38] J ?_
 obtain ⟨rows1, hr1⟩ : ∃ z, z = ((rows.set a (rows.getD leads.length default)).set leads.length (rows.getD a default)) := ⟨_, rfl⟩
 obtain ⟨d1, hd1e⟩ : ∃ z, z = xneg d := ⟨_, rfl⟩
 rw [← hr1]
 have hd1 : d1.1 = -d.1 := by rw [hd1e]; rfl
 have hv1 : vX rows1 = sw (vX rows) a leads.length := by rw [hr1, pS, pS, ← dC, ← dC]; exact sw_comm om
 have hl1 : rows1.length = rows.length := by simp [hr1]
 have hp1 : ((rows1.getD leads.length default).2.getD c default).1 ≠ 0 := by rw [iI, hv1]; exact hsp
 have hb1 : BdL (β) (vX rows1) := by rw [hv1]; exact hbv.sw _ _
 have hbr : ∀ x, x ∈ (rows1.getD leads.length default).2 → Bd (β) x.1 := by
  intro x hx
  have := hb1.row leads.length
  rw [dC] at this
  exact this _ (List.mem_map.2 ⟨x, hx, rfl⟩)
 have hwr : (rows1.getD leads.length default).2.length = w := by
  have := ((show Wid w (vX rows) by rw [hv]; exact GI.wid).sw (i := a) (r := leads.length) (by rw [cY]; omega) (by rw [cY]; omega)).row (i := leads.length) (by rw [jT, cY]; omega)
  rw [← hv1, dC, List.length_map] at this; exact this
 have hbpp := hbr _ (bG (show c < (rows1.getD leads.length default).2.length by omega))
 have hb1p := Bd1.div hbpp hp1
 obtain ⟨p, hpe⟩ : ∃ p, p = (rows1.getD leads.length default).2.getD c default := ⟨_, rfl⟩
 have hpv1 : p.1 = ent (vX rows) a c := by rw [hpe, iI, hv1, lK (by rw [cY]; omega) (by rw [cY]; omega)]
 have hd1b : Bd (β) d1.1 := by rw [hd1]; exact hdb.neg
 have hd2v : (xmul d1 p).1 = gjd (vX rows0) (c + 1) := by
  rw [nZ hpv hal, ← hv, ← hld]
  show d1.1 * p.1 = _
  rw [hpv1, hd1, if_pos om, hdv]
 refine fD (outH q 1 3 (leads.map d64) [((0 + 3 + 1), { cells := (rows1.map fX).flatten, sz := 1, elem := 104, st := 0 }), ((0 + 3 + 3 + 1), { cells := xc d1, sz := 4, elem := 102, st := 0 }), (2, { cells := [.v (.int .i64 0), .sl 0 [], .v (.int .i64 0), .sl 0 []], sz := 4, elem := 102, st := 0 })]) (dN (fun hu => (g1 om (g1 om (g1 om (dG hu))))) (g1 (by decide) g0) (g0.trans (by rw [hd1e]; rfl)) (g1 om (g1 om (g1 om (aH om (g1 (by decide) (g1 (by decide) g0))))))) <| Rg 9 J <| Um J J <| Um J J <| aA (cG (j := leads.length) J J J J om om J) J <| aA (eL (f := fX) (us := rows1) (j := leads.length) J J (aH om g0) (fun _ => rfl) J (by decide) om J) J <| Um J J <| aA (bQ J J J J J om J) J <| aA (bN (b := lvX p) (dJ (l := .agg [_, _, _, _]) J J J) (by rw [hpe]; rfl)) J <| bD (eC J) J <| aZ (cB (cs' := xc p) J J J g0 J J J J) <| Nk [6,7,8,9,10,11,13,18,19,30,31,32,33,34,35,36,37,38] J <| Rg 4 J <| aA (aM (l := .agg [_, _, _, _]) J J (g1 om (g1 om (aH om (g1 (by decide) g0)))) J J) J <| aA (aM (l := lvX p) J J g0 J J) J <| aA (aK J (jH d1 p (hd1b.mono om) (by rw [hpe]; exact hbpp.mono om)) (by first | (simp [-cJ]; done) | simp)) J <| aZ (cB (cs' := [_, _, _, _]) J J J (g1 om (g1 om (aH om (g1 (by decide) g0)))) J J J J) <| Nk [6,7,8,9,10,11,13,18,19,30,31,32,33,34,35,36,37,38] J ?_
 obtain ⟨r, hr, np, rfl, hnp⟩ := qB (rows1.getD leads.length default).1 (rows1.getD leads.length default).2 (xdiv (xint 1) p) om (fun x hx => (hbr x hx).mono om) (by rw [hpe]; exact hb1p.mono om)
 refine bL (z := 12) J kR <| Dm J J <| Dm J J <| Dm J J <| Dm J J <| aC (cG (j := leads.length) J J J J om om J) J <| aC (eL (f := fX) (us := rows1) (j := leads.length) J J (g1 om (g1 om (g1 om (aH om g0)))) (fun _ => rfl) J (by decide) om J) J <| aC (aK J (iX 1 (by unfold I64; omega)) (by first | (simp [-cJ]; done) | simp)) J <| aC (aM (l := lvX p) J J (g1 om g0) J J) J <| aC (aK J (rdiv_run (xint 1) p (by rw [hpe]; exact hp1) (Bd1.mono om) (by rw [hpe]; exact hbpp.mono om)) (by first | (simp [-cJ]; done) | simp)) J <| aC (aK J (hr) (by first | (simp [-cJ]; done) | simp)) J <| aC (cG (j := leads.length) J J J J om om J) J <| cC (eJ (f := fX) (us := rows1) (1, np) J J J (g1 om (g1 om (g1 om (aH om g0)))) (fun _ => rfl) J J om J) <| bE (aQ kR) J <| Ck [6,7,8,9,10,11,18,19,30,31,32,33,34,35,36,37,38] J <| aB ?_
 obtain ⟨rowsM, hr2⟩ : ∃ z, z = rows1.set leads.length (1, np) := ⟨_, rfl⟩
 rw [← hr2]
 have hl2 : rowsM.length = rows.length := by rw [hr2, List.length_set]; exact hl1
 have hv2 : vX rowsM = M := by
  rw [hr2, pS, hv1, hM]; unfold mid
  rw [hnp, ← dC, hv1]
  have : (xdiv (xint 1) p).1 = 1 / ent (sw (vX rows) a leads.length) leads.length c := by show (1 : Rat) / p.1 = _; rw [hpv1, lK (by rw [cY]; omega) (by rw [cY]; omega)]
  rw [this]
 refine Rg 3 J <| Um J J <| aA (kA J J) J <| Um J J <| Nk [6,7,8,9,10,11,18,19,30,31,32,33,34,35,36,37,38,87,88] J <| aL <| bC (α := Nat × (List X1)) (fun ⟨j, rows2⟩ => [(6, .ptr (0 + (0 + 1 + 1)) 0), (7, .ref (0 + 3 + 1) 1 0 rows2.length), (8, .ptr (0 + 3 + 3 + 1) 0), (9, outV q 1 (leads.map d64)), (10, .v (.int .i64 (c : Int))), (11, .v (.int .i64 (leads.length : Int))), (18, .v (.int .i64 (cols : Int))), (19, .v (.int .i64 (c : Int))), (87, .v (.int .i64 (rows.length : Int))), (88, .v (.int .i64 (j : Int)))]) (fun ⟨j, rows2⟩ => outH q 1 3 (leads.map d64) [((0 + 3 + 1), { cells := (rows2.map fX).flatten, sz := 1, elem := 104, st := 0 }), ((0 + 3 + 3 + 1), { cells := xc (xmul d1 p), sz := 4, elem := 102, st := 0 }), (2, { cells := [.v (.int .i64 0), .sl 0 [], .v (.int .i64 0), .sl 0 []], sz := 4, elem := 102, st := 0 })]) (fun ⟨j, rows2⟩ n => j ≤ rows.length ∧ rows2.length = rows.length ∧ (∀ k, k < rows.length → (vX rows2).getD k default = if k < j then elr M leads.length c k else M.getD k default) ∧ q < n) (fun ⟨j, rows2⟩ => rows.length - j) (0, rowsM) ⟨rfl, congrArg some (by rw [hl2]), rfl, rfl, rfl, rfl, rfl, rfl, rfl, rfl, trivial⟩ (dN (fun hu => (g1 om (g1 om (g1 om (g1 om (dG hu)))))) g0 (g1 om g0) (g1 om (g1 om (g1 om (g1 om (aH om (g1 (by decide) (g1 (by decide) g0)))))))) ⟨Nat.zero_le _, hl2, by intro k hk; rw [if_neg om, hv2], om⟩ ?_
 rintro ⟨j, rows2⟩ n hJ
 change WC _ _ _ _ _ (_ :: _) (outH _ _ _ _ _) n _
 obtain ⟨hjl, hl4, hst, hqn4⟩ := hJ
 refine Rg 1 J <| aA (bP J J) J <| aY (fun h89 => ?_) (fun h89 => ?_)
 rotate_left
 ·refine Wn <| aV J <| aW <| aT <| aR J ?_
  have hfin : vX rows2 = elim M leads.length c := elim_eq (j := j) (by rw [cY]; omega) om (by rw [hMl]; exact hst)
  refine aI (z := 5) J <| Um J J <| Um J J <| aA (dA (cs := [_]) (rows := [[_]]) J J (by decide) J J J) J <| dE (te := ti3) (f := d64) (q := q) (us := leads) (u := c) J J J J J (fun _ => rfl) (by decide) (by show (2 * (leads.length + 1) + 256) * 8 ≤ _; omega) om (gN om (gN om (gN om J))) (gN om (gN om (gN om J))) J <| Ua J J <| Wn <| aG <| Ck [6,7,8,9,18,19] J <| aI (z := 2) J <| aA (cI (((c + 1 : Nat) : Int)) (aU J J om) om) J <| Um J J <| Wn <| aF <| ⟨⟨c + 1, _, rows2, leads ++ [c], xmul d1 p⟩, ⟨J, J, J, J, J, J, trivial⟩, (dN dG (aH om g0) (aH om (g1 (by decide) g0)) (aH om (g1 (by decide) (g1 (by decide) g0)))), ⟨om, by rw [hgy, hfin, hM, hv, hld], by rw [hgy, hld], om, om, hd2v⟩, by show cols - (c + 1) < cols - c; omega⟩
 refine Wn <| aS J <| aE <| aL <| Rg 2 J <| Um J J <| Ua J J <| cQ ?_
 have hrj : vX rows2 = vX rows2 := rfl
 have hj1 : (vX rows2).getD j default = M.getD j default := by rw [hst j om, if_neg om]
 have hj2 : (vX rows2).getD leads.length default = M.getD leads.length default := elim_row om (by rw [hMl]; exact hst)
 have hej : ent (vX rows2) j c = ent M j c := by unfold ent; rw [hj1]
 have hwj : (rows2.getD j default).2.length = w := by have := hMw.row (i := j) om; rw [← hj1, dC] at this; simpa using this
 have hwl : (rows2.getD leads.length default).2.length = w := by have := hMw.row (i := leads.length) om; rw [← hj2, dC] at this; simpa using this
 refine Rg 14 J <| Um J J <| Um J J <| aA (fV J J) J <| aY (fun h93 => ?_) (fun h93 => ?_)
 rotate_left
 ·refine Um J J <| K1 J J <| K1 J J <| K1 J J <| K1 J J <| K1 J J <| K1 J J <| K1 J J <| K1 J J <| K1 J J <| aA (bM J J) J <| Nk [6,7,8,9,10,11,14,18,19,87,88,95,96,97,98,99,100,101,102,103,104] J <| bX J <| cP <| aG <| Ck [6,7,8,9,10,11,18,19,87,88,95,96,97,98,99,100,101,102,103] J <| aI (z := 2) J <| aA (cI (((j + 1 : Nat) : Int)) (aU J J om) om) J <| Um J J <| Wn <| aF <| ⟨⟨j + 1, rows2⟩, ⟨J, J, J, J, J, J, J, J, J, J, trivial⟩, (dN dG (aH om g0) (aH om (g1 (by decide) g0)) (aH om (g1 (by decide) (g1 (by decide) g0)))), ⟨om, hl4, (by have := lY (A := vX rows2) (M := M) (j := j) om (by rw [hMl]; exact hst) (nW (.inl om)).symm; rwa [hMl] at this), om⟩, by show rows.length - (j + 1) < rows.length - j; omega⟩
 refine Um J J <| aJ J (eW J) J <| aJ J (eW J) J <| aJ J (cG (j := j) J J J J om om J) J <| aJ J (eL (f := fX) (us := rows2) (j := j) J J (aH om g0) (fun _ => rfl) J (by decide) om J) J <| aJ J (eW J) J <| aJ J (bQ J J J J J om J) J <| aJ J (dJ (l := .agg [_, _, _, _]) J J J) J <| aJ J (aK J (iV ((rows2.getD j default).2.getD c default)) (by first | (simp [-cJ]; done) | simp)) J <| aJ J (fV J J) J <| aY (fun h103 => ?_) (fun h103 => ?_)
 rotate_left
 ·refine aA (bK J J) J <| Nk [6,7,8,9,10,11,14,18,19,87,88,95,96,97,98,99,100,101,102,103,104] J <| bX J <| cP <| aG <| Ck [6,7,8,9,10,11,18,19,87,88,95,96,97,98,99,100,101,102,103] J <| aI (z := 2) J <| aA (cI (((j + 1 : Nat) : Int)) (aU J J om) om) J <| Um J J <| Wn <| aF <| ⟨⟨j + 1, rows2⟩, ⟨J, J, J, J, J, J, J, J, J, J, trivial⟩, (dN dG (aH om g0) (aH om (g1 (by decide) g0)) (aH om (g1 (by decide) (g1 (by decide) g0)))), ⟨om, hl4, (by have := lY (A := vX rows2) (M := M) (j := j) om (by rw [hMl]; exact hst) (nW (.inr (by rw [← hej, ← iI]; exact fY.1 om))).symm; rwa [hMl] at this), om⟩, by show rows.length - (j + 1) < rows.length - j; omega⟩
 refine aA (bK J J) J <| Nk [6,7,8,9,10,11,14,18,19,87,88,95,96,97,98,99,100,101,102,103,104] J <| bW J ?_
 have hen2 : ent M j c ≠ 0 := by rw [← hej, ← iI]; exact fun k => h103 (fY.2 k)
 have hbj : ∀ x, x ∈ (rows2.getD j default).2 → Bd (2 * β + 1) x.1 := by
  intro x hx
  have := hMb.row j
  rw [← hj1, dC] at this
  exact this _ (List.mem_map.2 ⟨x, hx, rfl⟩)
 have hbl : ∀ x, x ∈ (rows2.getD leads.length default).2 → Bd (2 * β + 1) x.1 := by
  intro x hx
  have := hMb.row leads.length
  rw [← hj2, dC] at this
  exact this _ (List.mem_map.2 ⟨x, hx, rfl⟩)
 have hbe := hbj _ (bG (show c < (rows2.getD j default).2.length by omega))
 obtain ⟨r, hr, nw, rfl, hnw⟩ := nA (rows2.getD j default).1 (rows2.getD leads.length default).1 (rows2.getD j default).2 (rows2.getD leads.length default).2 (xneg ((rows2.getD j default).2.getD c default)) om om (fun x hx => (hbj x hx).mono om) (fun x hx => (hbl x hx).mono om) (hbe.neg.mono om)
 refine dF (z := 21) J kR <| Dm J J <| Dm J J <| Dm J J <| Dm J J <| aC (cG (j := j) J J J J om om J) J <| aC (eL (f := fX) (us := rows2) (j := j) J J (aH om g0) (fun _ => rfl) J (by decide) om J) J <| Dm J J <| Dm J J <| aC (cG (j := j) J J J J om om J) J <| aC (eL (f := fX) (us := rows2) (j := j) J J (aH om g0) (fun _ => rfl) J (by decide) om J) J <| Dm J J <| aC (bQ J J J J J om J) J <| aC (dJ (l := .agg [_, _, _, _]) J J J) J <| aC (aK J (kC ((rows2.getD j default).2.getD c default)) (by first | (simp [-cJ]; done) | simp)) J <| Dm J J <| Dm J J <| aC (cG (j := leads.length) J J J J om om J) J <| aC (eL (f := fX) (us := rows2) (j := leads.length) J J (aH om g0) (fun _ => rfl) J (by decide) om J) J <| aC (aK J (hr) (by first | (simp [-cJ]; done) | simp)) J <| aC (cG (j := j) J J J J om om J) J <| cC (eJ (f := fX) (us := rows2) (1, nw) J J J (aH om g0) (fun _ => rfl) J J om J) <| bE (aQ kR) J <| aG ?_
 refine Ck [6,7,8,9,10,11,18,19,87,88,95,96,97,98,99,100,101,102,103] J <| aI (z := 2) J <| aA (cI (((j + 1 : Nat) : Int)) (aU J J om) om) J <| Um J J <| Wn <| aF <| ⟨⟨j + 1, rows2.set j (1, nw)⟩, ⟨rfl, congrArg some (by rw [List.length_set]), rfl, rfl, rfl, rfl, rfl, rfl, rfl, rfl, trivial⟩, dN (fun hu => g1 om (dG hu)) g0 (g1 (by decide) (aH om (g1 (by decide) g0))) (g1 (by decide) (aH om (g1 (by decide) (g1 (by decide) g0)))), ⟨om, by rw [List.length_set]; exact hl4, by rw [pS]; exact (by have := elim_next (A := vX rows2) (M := M) (j := j) (by rw [cY]; omega) om (by rw [hMl]; exact hst) (x := nw.map (·.1)) (by rw [elr_pos om hen2, ← hej, ← hj1, ← hj2, dC, dC, ← iI, hnw]; rfl); rwa [hMl] at this), om⟩, by show rows.length - (j + 1) < rows.length - j; omega⟩
theorem mreduced_runB (rows0 : List X1) (cols w : Nat) (hne : 0 < rows0.length) (ln : rows0.length < 1000000) (hw : Wid w (vX rows0)) (hcw : cols ≤ w) (lw : w < 1000000) (β : Nat) (hβ : β ≤ 268435456) (hgb : GB (vX rows0) cols β) : ∃ r, Run Tryz.prog T E0 (.call 129 [.sl 1 (rows0.map fX), .v (.int .i64 (cols : Int))] r) ∧ ∃ (rows : List X1) (d : X), r = .tup [.sl 1 (rows.map fX), .sl (kd (gjn (vX rows0) cols).2.length) ((gjn (vX rows0) cols).2.map d64), lvX d] ∧ vX rows = (gjn (vX rows0) cols).1 ∧ d.1 = gjd (vX rows0) cols := by
 refine eU Tryz.func129 J J (dL J) ((mreduced_wcB rows0 cols w hne ln hw hcw lw β hβ hgb).mono ?_)
 rintro x e h n ⟨hx, q, rows, d, h1, h2, h3, h4, h5⟩
 refine ⟨.tup [.sl 1 (rows.map fX), .sl (kd (gjn (vX rows0) cols).2.length) ((gjn (vX rows0) cols).2.map d64), lvX d], ⟨rows, d, rfl, h1, h2⟩, ?_⟩
 rw [← oI]
 exact postRO (n := n) hx h3 (by simp) h4 (by show (0 : Nat) ≠ 2; decide) J (by decide) J (cU (n := 1) (fun _ => rfl)) (cL dfX) h5 (by decide) (cU (n := 1) (fun _ => rfl)) cZ (by simp)
theorem oE (al : List X1) (kb : Nat) (bl : List X) (w : Nat) (hne : 0 < al.length) (ln : al.length < 100000) (hw : ∀ r, r ∈ al → r.2.length = w) (hk : ∀ r, r ∈ al → r.1 = kd r.2.length) (hbl : bl.length = al.length) (hw9 : w ≤ 60) (β : Nat) (hβ : β ≤ 268435456) (hgb : GB (wR (vX al) (bl.map (·.1))) w β) : ∃ r, Run Tryz.prog T E0 (.call 108 [.sl 1 (al.map fX), .sl kb (bl.map xc), .v (.int .i64 (w : Int))] r) ∧ (if nosol (gjn (wR (vX al) (bl.map (·.1))) w) w = true then r = .tup [.v (.int .i64 0), .sl 0 []] else ∃ xs : List X, r = .tup [.v (.int .i64 (solk (gjn (wR (vX al) (bl.map (·.1))) w) w)), .sl 1 (xs.map xc)] ∧ xs.map (·.1) = solv (gjn (wR (vX al) (bl.map (·.1))) w) w (gjn (wR (vX al) (bl.map (·.1))) w).2.length) := by
 refine eU Tryz.func108 J J (dL J) <| Rg 2 J <| Ua J J <| Ua J J <| Wn <| Rg 1 J <| Ua J J <| Wn <| aB <| Rg 3 J <| Um J J <| aA (bB J J) J <| Um J J <| Wn <| aL <| bC (α := Nat × Nat × (List X1)) (fun ⟨i, q, ds⟩ => [(1, .sl kb (bl.map xc)), (2, .v (.int .i64 (w : Int))), (8, outV q 1 (ds.map fX)), (19, .sl 1 (al.map fX)), (20, .v (.int .i64 (al.length : Int))), (21, .v (.int .i64 (i : Int)))]) (fun ⟨i, q, ds⟩ => outH q 1 104 (ds.map fX) []) (fun ⟨i, q, ds⟩ n => i ≤ al.length ∧ ds = (List.range i).map (wX al bl) ∧ ds.length = i ∧ q < n) (fun ⟨i, q, ds⟩ => al.length - i) (0, 0, []) ⟨J, J, J, J, J, J, trivial⟩ trivial ⟨Nat.zero_le _, rfl, rfl, om⟩ ?_
 rintro ⟨i, q, ds⟩ n hF
 change WC _ _ _ _ _ (_ :: _) (outH _ _ _ _ _) n _
 obtain ⟨hi, hds, hdl, hq⟩ := hF
 refine Rg 1 J <| aA (bP J J) J <| aY (fun h22 => ?_) (fun h22 => ?_)
 ·refine Wn <| aS J <| aE <| aL <| Rg 5 J <| Um J J <| aA (bQ J J J J J om J) J <| aA (dJ J J J) J <| Ua J J <| Ua J J <| cQ ?_
  have hm := bG (us := al) (i := i) om
  have hrw := hw _ hm
  have hrk := hk _ hm
  have hc0 : ((al.getD i default).2.map xc) = [] → Run Tryz.prog T E0 (.call 128 [.sl (al.getD i default).1 ((al.getD i default).2.map xc)] (.sl 0 [])) := fun h => by
   rw [hrk, xc_nil h]; exact clone1_nil
  have hc1 : ((al.getD i default).2.map xc) ≠ [] → Run Tryz.prog T E0 (.callO 128 [.sl (al.getD i default).1 ((al.getD i default).2.map xc)] (.ref 0 4 0 ((al.getD i default).2.map xc).length) { cells := ((al.getD i default).2.map xc).flatten, sz := 4, elem := 102, st := 0 }) := fun h => by
   have h2 : 0 < (al.getD i default).2.length := by
    rcases Nat.eq_zero_or_pos (al.getD i default).2.length with h3 | h3
    ·exact absurd (by rw [List.length_eq_zero_iff.1 h3]; rfl) h
    ·exact h3
   obtain ⟨_, _, _, h4, rfl, rfl, rfl⟩ := clone1_own (al.getD i default).1 (al.getD i default).2 (by rw [hrk, kd, if_neg om]; decide) h2 om
   rw [List.length_map]; exact h4
  refine lV (z := 12) J kR <| Dm J J <| Dm J J <| WD.callV (us := (al.getD i default).2.map xc) (sz := 4) (el := 102) J hc0 hc1 dD J <| Dm J J <| Dm J J <| aC (bQ J J J J J om J) J <| aC (dJ (l := .agg [_, _, _, _]) J J J) J <| aC (dA (cs := [_, _, _, _]) (rows := [[_, _, _, _]]) J J (by decide) J J J) J <| rM (te := ti102) (k0 := 0) (us := (al.getD i default).2.map xc) (rows := [xc (bl.getD i default)]) (.inl J) J J J J J (by decide) (by intro r hr; rw [List.mem_singleton] at hr; subst hr; rfl) (cU (n := 4) (fun _ => rfl)) (by simp) (by rw [List.length_map, hrw]; show (2 * (w + 1) + 256) * 64 ≤ _; omega) (by rw [List.length_map, hrw]; show w + 1 < _; omega) (aH om J) J <| aC (dA (cs := [_]) (rows := [[_]]) J J (by decide) J J J) J <| jA _ (outH_swap om) <| rM (te := ti104) (k0 := 0) (us := ds.map fX) (rows := [[_]]) (.inl J) J J J (by rw [iT]; rfl) J (by decide) (by intro r hr; rw [List.mem_singleton] at hr; subst hr; rfl) (cU (n := 1) (fun _ => rfl)) (by simp) (by rw [List.length_map]; show (2 * (ds.length + 1) + 256) * 24 ≤ _; omega) (by rw [List.length_map]; show ds.length + 1 < _; omega) (g1 om J) J <| aC (jJ J) J <| bE (gB (rn n) (by simp only [List.reverse_cons, List.reverse_nil, List.nil_append, List.cons_append, List.map_cons, List.map_nil, ren, Nat.add_assoc, pN, qF hq]; kernel_rfl)) J <| Fz.rows (d := 8) ds (wX al bl i) (ys := ((al.getD i default).2 ++ [bl.getD i default]).map xc) [(1, _), (2, _), (19, _), (20, _), (21, _)] ⟨J, J, J, J, J, trivial⟩ J (by simp) J om (by simp) (by decide) (by simp) (cU (n := 4) (fun _ => rfl)) (cL dxc) <| aG <| aI (z := 2) J <| aA (cI (((i + 1 : Nat) : Int)) (aU J J om) om) J <| Um J J <| Wn <| aF <| ⟨⟨i + 1, _, ds ++ [wX al bl i]⟩, ⟨J, J, J, J, J, J, trivial⟩, cS, ⟨om, by rw [List.range_succ, List.map_append, hds]; rfl, by simp; omega, om⟩, by show al.length - (i + 1) < al.length - i; omega⟩
 refine Wn <| aV J <| aW <| aT <| aR J ?_
 obtain ⟨d0, dt, rfl⟩ : ∃ d0 dt, ds = d0 :: dt := by
  cases ds with
  | nil => simp at hdl; omega
  | cons d dt => exact ⟨d, dt, rfl⟩
 obtain rfl : i = al.length := by omega
 have hvw : vX (d0 :: dt) = (wR (vX al) (bl.map (·.1))) := by rw [hds]; exact vX_w al bl
 have hwid : Wid (w + 1) (wR (vX al) (bl.map (·.1))) := wR_wid (fun r hr => by obtain ⟨s, hs, rfl⟩ := List.mem_map.1 hr; rw [List.length_map]; exact hw s hs)
 obtain ⟨r, hr, rows, d, rfl, hrows, _⟩ := mreduced_runB (d0 :: dt) w (w + 1) (by simp) om (by rw [hvw]; exact hwid) om om β hβ (by rw [hvw]; exact hgb)
 rw [hvw] at hr hrows
 obtain ⟨_, gw, gl, gc⟩ := hgb.all hwid om w (Nat.le_refl _)
 have hrl : rows.length = al.length := by
  have := congrArg List.length hrows
  rw [cW, nM] at this; simpa [vX] using this
 rw [nM] at gl
 have gl : (gjn (wR (vX al) (bl.map (·.1))) w).2.length ≤ rows.length := by simpa [vX, hrl] using gl
 generalize gjn (wR (vX al) (bl.map (·.1))) w = S at *
 have hwr := wid_vX gw hrows
 refine Rg 11 J <| Um J J <| Um J J <| bD (jR [.sl 1 ((d0 :: dt).map fX), .v (.int .i64 (w : Int))] [(q, { cells := ((d0 :: dt).map fX).flatten, sz := 1, elem := 104, st := 1 })] J hr (.own (ob := { cells := ((d0 :: dt).map fX).flatten, sz := 1, elem := 104, st := 0 }) ((d0 :: dt).map fX) (by simp) g0 (by show (0 : Nat) ≠ 2; decide) J (by decide) (by simp [keys]) J (cU (n := 1) (fun _ => rfl)) (cL dfX) (.data (.v _) .nil)) (by intro p hp; rw [List.mem_singleton] at hp; subst hp; exact ⟨_, g0, by show (0 : Nat) ≠ 2; decide, rfl⟩)) J <| Um J J <| aA (dX J J) J <| aA (dX J J) J <| aA (dX J J) J <| bD (eC J) J <| Ua J J <| Ua J J <| aZ (cB (cs' := [_, _, _, _]) J J J g0 J J J J) <| Nk [2,11,12] J <| aB <| Rg 6 J <| Um J J <| Um J J <| aA (bB J J) J <| aA (bN (b := .sl 1 ((rows.drop S.2.length).map fX)) (oSlLo (i := S.2.length) J J J (cU (f := fX) (n := 1) (fun _ => rfl)) J J (by rw [List.length_map]; omega)) (by rw [List.map_drop])) J <| aA (bB J J) J <| Um J J <| Wn <| aL ?_
 refine bC (α := Nat) (fun i => [(2, .v (.int .i64 (w : Int))), (11, .sl 1 (rows.map fX)), (12, .sl (kd S.2.length) (S.2.map d64)), (48, .sl 1 ((rows.drop S.2.length).map fX)), (49, .v (.int .i64 ((rows.drop S.2.length).length : Int))), (50, .v (.int .i64 (i : Int)))]) (fun i => []) (fun i n => i ≤ (rows.drop S.2.length).length ∧ ∀ k, S.2.length ≤ k → k < S.2.length + i → ent S.1 k w = 0) (fun i => (rows.drop S.2.length).length - i) (0) ⟨J, J, J, J, J, J, trivial⟩ trivial ⟨Nat.zero_le _, by intro k h1 h2; omega⟩ ?_
 rintro i n hF
 change WC _ _ _ _ _ (_ :: _) ([]) n _
 obtain ⟨hi2, hz⟩ := hF
 refine Rg 1 J <| aA (bP J J) J <| aY (fun h51 => ?_) (fun h51 => ?_)
 ·refine Wn <| aS J <| aE <| aL <| Rg 3 J <| aA (bQ J J J J J om J) J <| aA (dJ J J J) J <| Ua J J <| cQ ?_
  have hdm : S.2.length + i < rows.length := by rw [List.length_drop] at h51; omega
  have hrl2 : (((rows.drop S.2.length).getD i default).2).length = w + 1 := by rw [dropD]; exact hwr _ (bG hdm)
  have he : ent S.1 (S.2.length + i) w = (((rows.drop S.2.length).getD i default).2.getD w default).1 := by rw [← hrows, ent_vX hdm, dropD]
  refine Rg 6 J <| Um J J <| Um J J <| aA (bQ (j := w) J J J J om om J) J <| aA (dJ (l := .agg [_, _, _, _]) J J J) J <| aA (aK J (iV (((rows.drop S.2.length).getD i default).2.getD w default)) dD) J <| aA (fV J J) J <| aY (fun h59 => ?_) (fun h59 => ?_)
  ·refine Nk [2,11,12,48,49,50,59] J <| bW J <| Rg 2 J <| Ua J J <| Ua J J <| Wn <| aP <| aN <| bJ <| aN ?_
   have hsl : S.1.length = rows.length := by rw [← hrows]; simp [vX]
   have hns : nosol S w = true := nosol_yes (k := S.2.length + i) om om (by rw [he]; intro h0; exact h59 (fY.2 h0))
   exact ⟨.tup [.v (.int .i64 0), .sl 0 []], by rw [if_pos hns], post (n := 0) (.inr J) J J dD⟩
  refine Nk [2,11,12,48,49,50,59] J <| bX J <| cP <| aG <| aI (z := 2) J <| aA (cI (((i + 1 : Nat) : Int)) (aU J J om) om) J <| Um J J <| Wn <| aF <| ⟨i + 1, ⟨J, J, J, J, J, J, trivial⟩, trivial, ⟨om, fun k h1 h2 => ?_⟩, by show (rows.drop S.2.length).length - (i + 1) < (rows.drop S.2.length).length - i; omega⟩
  by_cases hk : k < S.2.length + i
  ·exact hz k h1 hk
  ·obtain rfl : k = S.2.length + i := by omega
   rw [he]; exact fY.1 om
 refine Wn <| aV J <| aW <| aT <| aR J ?_
 have hns : nosol S w = false := by
  have hsl : S.1.length = rows.length := by rw [← hrows]; simp [vX]
  rw [List.length_drop] at h51 hi2
  exact nosol_no om (fun k h1 h2 => hz k h1 om)
 refine Rg 3 J <| Um J J <| bD (oMk (a := w) (b := w) J J J J om om (by decide) om (by show 64 * w ≤ _; omega) om) J <| Ua J J <| Wn <| aB <| Rg 3 J <| Um J J <| aA (bB J J) J <| Um J J <| Wn <| aL <| bC (α := Nat × Nat × (List X)) (fun ⟨i, q2, xs⟩ => [(2, .v (.int .i64 (w : Int))), (11, .sl 1 (rows.map fX)), (12, .sl (kd S.2.length) (S.2.map d64)), (16, .ref q2 4 0 w), (63, .sl (kd S.2.length) (S.2.map d64)), (64, .v (.int .i64 (S.2.length : Int))), (65, .v (.int .i64 (i : Int)))]) (fun ⟨i, q2, xs⟩ => [(q2, { cells := (xs.map xc).flatten, sz := 4, elem := 102, st := 0 })]) (fun ⟨i, q2, xs⟩ n => i ≤ S.2.length ∧ xs.length = w ∧ xs.map (·.1) = solv S w i) (fun ⟨i, q2, xs⟩ => S.2.length - i) (0, _, List.replicate w x0) ⟨J, J, J, J, J, J, J, trivial⟩ ⟨g0.trans (by rw [List.map_replicate]; rfl), trivial⟩ ⟨Nat.zero_le _, by simp, by rw [List.map_replicate]; rfl⟩ ?_
 rintro ⟨i, q2, xs⟩ n hF
 change WC _ _ _ _ _ (_ :: _) (_ :: _) n _
 obtain ⟨hi4, hxl, hxs⟩ := hF
 refine Rg 1 J <| aA (bP J J) J <| aY (fun h66 => ?_) (fun h66 => ?_)
 ·refine Wn <| aS J <| aE <| aL <| Rg 5 J <| Um J J <| aA (bQ J J J J J om J) J <| aA (dJ J J J) J <| Ua J J <| Ua J J <| cQ ?_
  have hld := gc _ (bG (us := S.2) (i := i) om)
  have hrl4 : ((rows.getD i default).2).length = w + 1 := hwr _ (bG om)
  have he4 : ent S.1 i w = ((rows.getD i default).2.getD w default).1 := by rw [← hrows, ent_vX om]
  refine aI (z := 11) J <| Um J J <| Um J J <| Um J J <| Um J J <| aA (bQ J J J J J om J) J <| aA (dJ J J J) J <| Um J J <| aA (bQ (j := w) J J J J om om J) J <| aA (dJ (l := .agg [_, _, _, _]) J J J) J <| aA (cG J J J J J om J) J <| aZ (eJ (f := xc) (us := xs) ((rows.getD i default).2.getD w default) J J J g0 (fun _ => rfl) J J om J) <| Wn <| aG <| Ck [2,11,12,16,63,64,65] J <| aI (z := 2) J <| aA (cI (((i + 1 : Nat) : Int)) (aU J J om) om) J <| Um J J <| Wn <| aF <| ⟨⟨i + 1, _, xs.set (S.2.getD i default) ((rows.getD i default).2.getD w default)⟩, ⟨J, J, J, J, J, J, J, trivial⟩, ⟨g0, trivial⟩, ⟨om, by rw [List.length_set]; exact hxl, ?_⟩, by show S.2.length - (i + 1) < S.2.length - i; omega⟩
  rw [List.map_set, hxs, solv, he4]
 refine Wn <| aV J <| aW <| aT <| aR J <| aB ?_
 have hxs' : xs.map (·.1) = solv S w S.2.length := by rw [hxs, show i = S.2.length by omega]
 refine Rg 4 J <| Um J J <| aA (bB J J) J <| Um J J <| aA (bP J J) J <| aY (fun h84 => ?_) (fun h84 => ?_)
 ·refine Wn <| aS J <| aB <| Rg 3 J <| Um J J <| Ua J J <| Ua J J <| Nk [6,7] J <| aX <| ⟨.tup [.v (.int .i64 2), .sl 1 (xs.map xc)], by rw [if_neg (by rw [hns]; decide)]; exact ⟨xs, by unfold solk; rw [if_pos om], hxs'⟩, ?_⟩
  exact lQ (n := 0) [(q2, { cells := (xs.map xc).flatten, sz := 4, elem := 102, st := 1 })] (.inr J) J (.data (.v _) (.own (ob := { cells := (xs.map xc).flatten, sz := 4, elem := 102, st := 0 }) _ (by rw [List.length_map, hxl]) g0 (by show (0 : Nat) ≠ 2; decide) J (by decide) (List.mem_singleton.2 J) J (cU (n := 4) (fun _ => rfl)) (cL dxc) .nil)) (by intro p hp; rw [List.mem_singleton] at hp; subst hp; exact ⟨_, g0, by show (0 : Nat) ≠ 2; decide, rfl⟩)
 refine Wn <| aV J <| aE <| Rg 3 J <| Um J J <| Ua J J <| Ua J J <| Nk [6,7] J <| aP <| ⟨.tup [.v (.int .i64 1), .sl 1 (xs.map xc)], by rw [if_neg (by rw [hns]; decide)]; exact ⟨xs, by unfold solk; rw [if_neg om], hxs'⟩, ?_⟩
 exact lQ (n := 0) [(q2, { cells := (xs.map xc).flatten, sz := 4, elem := 102, st := 1 })] (.inr J) J (.data (.v _) (.own (ob := { cells := (xs.map xc).flatten, sz := 4, elem := 102, st := 0 }) _ (by rw [List.length_map, hxl]) g0 (by show (0 : Nat) ≠ 2; decide) J (by decide) (List.mem_singleton.2 J) J (cU (n := 4) (fun _ => rfl)) (cL dxc) .nil)) (by intro p hp; rw [List.mem_singleton] at hp; subst hp; exact ⟨_, g0, by show (0 : Nat) ≠ 2; decide, rfl⟩)
end Go.Proofs.YtahljdjhhapngaaGreat
namespace Go.Proofs.YtahljdjhhapngaaGreat
open Go.Ab Go.RowKit
theorem mean_run (c : CH) (kv : Nat) (vx : List X) (n0 : Nat) (hc : VB n0 c.2.2) (hl : vx.length = n0) (β : Nat) (h1β : 1 ≤ β) (hβ : β ≤ 2147483648) (hv : ∀ x, x ∈ vx → Bd β x.1) : Run Tryz.prog T E0 (.call 113 [lvC c, .sl kv (vx.map xc)] (lvX (xmean c.2.2 vx c.2.2.length))) := by
 have hcl := hc.len
 refine bH Tryz.func113 J J (dL J) <| Rg 2 J <| bD (dW J J) J <| bD (eC J) J <| Wn <| Rg 1 J <| bD (eC J) J <| Wn <| aB <| Rg 4 J <| aA (bA J J J J J) J <| aA (aM J J gG J J) J ?_
 refine aA (bB J J) J <| Um J J <| Wn <| aL <| bC (α := Nat) (fun i => [(1, .sl kv (vx.map xc)), (4, .ptr (0 + 1) 0), (5, .ptr (0 + 2) 0), (9, .sl c.2.1 (c.2.2.map brc)), (10, .v (.int .i64 (c.2.2.length : Int))), (11, .v (.int .i64 (i : Int)))]) (fun i => [((0 + 2), { cells := xc ((xmean c.2.2 vx i)), sz := 4, elem := (102), st := 0 }), ((0 + 1), { cells := xc (x0), sz := 4, elem := (102), st := 0 })]) (fun i n => i ≤ c.2.2.length ∧ 4 ≤ n) (fun i => c.2.2.length - i) (0) ⟨J, J, J, J, J, J, trivial⟩ ⟨gG, gG, trivial⟩ ⟨Nat.zero_le _, om⟩ ?_
 rintro i n hF
 change WC _ _ _ _ _ (_ :: _) (_ :: _) n _
 obtain ⟨hi, hn⟩ := hF
 refine Rg 1 J <| aA (bP J J) J <| aY (fun h12 => ?_) (fun h12 => ?_)
 rotate_left
 ·refine Wn <| aV J <| aW <| aT <| aR J <| Rg 2 J <| aA (aM (l := lvX (xmean c.2.2 vx i)) J J gG J J) J ?_
  refine aZ (cB (cs' := xc (xmean c.2.2 vx i)) J J J gG J J J J) ?_
  refine Wn <| aP ?_
  have hin : i = c.2.2.length := by omega
  rw [← hin]
  refine post (n := 0) (.inr J) J ?_ dD
  rfl
 refine Wn <| aS J <| aE <| aL ?_
 have hto := hc.to i om
 have hvn := hc.vn i om
 have hi3 := hvn.all3
 have hm1 := oU hc h1β hv i hi
 have hm2 : i * (β + 3) ≤ 8 * (β + 3) := Nat.mul_le_mul_right _ om
 have hg := nY h1β hv (c.2.2.getD i default).1.toNat
 refine Rg 4 J <| aA (bQ J J J J J om J) J <| aA (dJ (l := .agg (brc (c.2.2.getD i default))) J J J) J <| bD (eC J) J <| aZ (cB (cs' := brc (c.2.2.getD i default)) J J J g0 J J J J) <| Wn <| dF (z := 12) J kR <| aC (aM (l := lvX (xmean c.2.2 vx i)) J J gG J J) J ?_
 refine aC (bA J J J J J) J <| aC (aM (l := lvM (c.2.2.getD i default).2) J J gG J J) J ?_
 refine aC (bN (b := lvX (nx (c.2.2.getD i default).2)) (aK J (iB (c.2.2.getD i default).2 hi3.1 hi3.2.1 hi3.2.2) dD) J) J <| Dm J J <| aC (bA J J J J J) J <| aC (aM J J gG J J) J ?_
 refine aC (bQ (j := (c.2.2.getD i default).1.toNat) J J J J om om J) J <| aC (dJ (l := lvX (vx.getD (c.2.2.getD i default).1.toNat default)) J J J) J <| aC (aK J (jH (nx (c.2.2.getD i default).2) (vx.getD (c.2.2.getD i default).1.toNat default) (hvn.bd.mono om) (hg.mono om)) dD) J <| aC (bN (b := lvX (xmean c.2.2 vx (i + 1))) (aK J (jG (xmean c.2.2 vx i) (xmul (nx (c.2.2.getD i default).2) (vx.getD (c.2.2.getD i default).1.toNat default)) (hm1.mono om) ((hvn.bd.mul hg).mono om)) dD) J) J <| cC (cB (cs' := xc (xmean c.2.2 vx (i + 1))) J J J gG J J J J) ?_
 refine bE (aQ kR) J <| aG <| Ck [1,4,5,9,10,11] J <| aI (z := 2) J <| aA (cI (((i + 1 : Nat) : Int)) (aU J J om) om) J <| Um J J <| Wn <| aF <| ⟨i + 1, ⟨J, J, J, J, J, J, trivial⟩, ⟨gG, gG, trivial⟩, ⟨om, om⟩, by show c.2.2.length - (i + 1) < c.2.2.length - i; omega⟩
theorem pT (c : CH) (d : X) (kv : Nat) (vx : List X) (n0 : Nat) (hr : VN c.1) (hc : VB n0 c.2.2) (hd : Bd 2 d.1) (hl : vx.length = n0) (β : Nat) (h1β : 1 ≤ β) (hβ : β ≤ 2147483648) (hv : ∀ x, x ∈ vx → Bd β x.1) : Run Tryz.prog T E0 (.call 80 [lvC c, lvX d, .sl kv (vx.map xc)] (lvX (xyl c d vx))) := by
 have hcl := hc.len
 have hi3 := hr.all3
 have hm1 := oU hc h1β hv c.2.2.length (Nat.le_refl _)
 have hm2 : c.2.2.length * (β + 3) ≤ 8 * (β + 3) := Nat.mul_le_mul_right _ om
 refine bH Tryz.func80 J J (dL J) <| Rg 3 J <| bD (dW J J) J <| bD (dW J J) J <| bD (eC J) J <| Wn <| bL (z := 10) J kR <| aC (bA J J J J J) J <| aC (aM (l := lvM c.1) J J gG J J) J ?_
 refine aC (bN (b := lvX (nx c.1)) (aK J (iB c.1 hi3.1 hi3.2.1 hi3.2.2) dD) J) J <| aC (aM (l := lvX d) J J gG J J) J ?_
 refine aC (aM (l := lvC c) J J gG J J) J ?_
 refine Dm J J <| aC (aK J (mean_run c kv vx n0 hc hl β h1β hβ hv) (bY (by intro c hc; simp only [List.mem_cons, List.not_mem_nil, or_false] at hc; rcases hc with rfl | rfl; exact dc1; exact (.sl _ _ fun row hr => cL dxc row hr)))) J <| aC (aK J (jH d (xmean c.2.2 vx c.2.2.length) (hd.mono om) (hm1.mono om)) dD) J <| aC (bN (b := lvX (xyl c d vx)) (aK J (jG (nx c.1) (xmul d (xmean c.2.2 vx c.2.2.length)) (hr.bd.mono om) ((hd.mul hm1).mono om)) dD) J) J <| cC (cB (cs' := xc (xyl c d vx)) J J J gG J J J J) ?_
 refine bE (aQ kR) J <| Ck [6] J <| aP <| post (n := 0) (.inr J) J ?_ dD
 rfl
theorem wants1_run (a b : X) (ha : Bd 34359738368 a.1) (hb : Bd 34359738368 b.1) : Run Tryz.prog T E0 (.call 122 [lvX a, lvX b] (.v (.int .i64 (b.1 - a.1).num.sign))) := by
 refine bH Tryz.func122 J J (dL J) <| Rg 3 J <| bD (dW J J) J <| bD (dW J J) J <| Ua J J <| Wn <| Rg 4 J <| aA (aM (l := lvX b) J J gG J J) J ?_
 refine aA (aM (l := lvX a) J J gG J J) J ?_
 refine aA (aK J (rcmp_run b a hb ha) dD) J <| Ua J J <| Wn <| aP <| post (n := 0) (.inr J) J ?_ dD
 rfl
theorem wants_run (pl : Int) : Run Tryz.prog T E0 (.call 98 [.v (.int .i64 pl)] (.fn (.func (if pl = 1 then 122 else 76)) [] [])) := by
 refine bH Tryz.func98 J J (dL J) <| Rg 1 J <| Ua J J <| Wn <| Rg 1 J <| Um J J <| Wn <| cA <| Rg 2 J <| aA (fJ J J) J <| aY (fun h5 => ?_) (fun h5 => ?_)
 ·refine Ua J J <| Wn <| bW J <| Rg 1 J <| Ua J J <| Wn <| aP <| dQ ?_
  rw [if_pos (show pl = 1 by omega)]
  refine post (n := 0) (.inr J) J ?_ dD
  rfl
 refine Ua J J <| Wn <| bX J <| Rg 1 J <| Ua J J <| Wn <| aP <| dQ ?_
 rw [if_neg (show ¬ pl = 1 by omega)]
 refine post (n := 0) (.inr J) J ?_ dD
 rfl
theorem cmpf_run (pl : Int) (a b : X) (ha : Bd 34359738368 a.1) (hb : Bd 34359738368 b.1) : Run Tryz.prog T E0 (.call (if pl = 1 then 122 else 76) [lvX a, lvX b] (.v (.int .i64 (sgnF pl a.1 b.1)))) := by
 unfold sgnF
 by_cases h : pl = 1
 ·rw [if_pos h, if_pos h]; exact wants1_run a b ha hb
 ·rw [if_neg h, if_neg h]; exact rcmp_run a b ha hb
end Go.Proofs.YtahljdjhhapngaaGreat
namespace Go.Proofs.YtahljdjhhapngaaGreat
open Go.Ab Go.RowKit
theorem lM (n0 : Nat) (H : Hp) (k kv : Nat) (ss : List Go.Ab.ST) (d : X) (vx : List X) (st : List Int) (pl : Int) (qs : Nat) (hnd : subsM H H) (hlt : ∀ q o, getH H q = some o → q < n0) (hq : getH H qs = some { cells := ((st).map ic).flatten, sz := 1, elem := (3), st := 0 }) (hV : VMo ss = true) (hd : Bd 2 d.1) (hl : vx.length = ss.length) (hst : st.length = ss.length) (β : Nat) (h1β : 1 ≤ β) (hβ : β ≤ 2147483648) (hv : ∀ x, x ∈ vx → Bd β x.1) : WC Tryz.prog T E0 Tryz.f97.ntmps (codeOf Tryz.f97) (argsEnv 0 [lvMo k ss, lvX d, .sl kv (vx.map xc), .ref qs 1 0 ss.length, .v (.int .i64 pl)]) H n0 (fun x e' h' n' => (x = .normal ∨ x = .ret) ∧ n0 ≤ n' ∧ ((resE e' T h' Tryz.f97.results.toList = some [.v (.bool false)] ∧ NoImp ss d.1 pl (vl vx) ∧ ∀ q o, getH H q = some o → getH h' q = some o) ∨ ∃ i j, resE e' T h' Tryz.f97.results.toList = some [.v (.bool true)] ∧ i < ss.length ∧ (ss.getD i default).1.1 = pl ∧ j < (ss.getD i default).2.2.length ∧ btr pl (yl d.1 (ch ss i j) (vl vx)) (vl vx i) ∧ getH h' qs = some { cells := ((st.set i (j : Int)).map ic).flatten, sz := 1, elem := (3), st := 0 } ∧ ∀ q o, q ≠ qs → getH H q = some o → getH h' q = some o)) := by
 have hV1 := iZ hV
 have hn40 := hV1.wt.len
 have hql := hlt qs _ hq
 change WC _ _ _ _ _ [(0, lvMo k ss), (1, lvX d), (2, .sl kv (vx.map xc)), (3, .ref qs 1 0 ss.length), (4, .v (.int .i64 pl))] _ _ _
 refine Rg 3 J <| bD (dW J J) J <| bD (dW J J) J <| Ua J J <| Wn <| Rg 3 J <| Um J J <| aA (aK J (wants_run pl) (bY (by intro c hc; simp only [List.mem_cons, List.not_mem_nil, or_false] at hc; rcases hc with rfl; exact .v _))) J <| Ua J J <| Wn <| aB <| Rg 4 J <| aA (bA J J J J J) J <| aA (aM J J gG J J) J ?_
 refine aA (bB J J) J <| Um J J <| Nk [2,3,4,6,11,19,20,21] J <| aL <| bC (α := Nat) (fun i => [(2, .sl kv (vx.map xc)), (3, .ref qs 1 0 ss.length), (4, .v (.int .i64 pl)), (6, .ptr (n0 + 1) 0), (11, .fn (.func (if pl = 1 then 122 else 76)) [] []), (19, .sl k (ss.map stc)), (20, .v (.int .i64 (ss.length : Int))), (21, .v (.int .i64 (i : Int)))]) (fun i => (n0 + 1, { cells := xc (d), sz := 4, elem := (102), st := 0 }) :: H) (fun i n => i ≤ ss.length ∧ (∀ a, a < i → (ss.getD a default).1.1 = pl → ∀ b, b < (ss.getD a default).2.2.length → ¬ btr pl (yl d.1 (ch ss a b) (vl vx)) (vl vx a)) ∧ n0 + 3 ≤ n) (fun i => ss.length - i) (0) ⟨J, J, J, J, J, J, J, J, trivial⟩ ⟨gG, cR hnd (by intro q o hq'; have := hlt q o hq'; repeat (first | exact hq' | refine g1 om ?_))⟩ ⟨Nat.zero_le _, fun a ha => absurd ha om, om⟩ ?_
 rintro i n hF
 change WC _ _ _ _ _ [(2, .sl kv (vx.map xc)), (3, .ref qs 1 0 ss.length), (4, .v (.int .i64 pl)), (6, .ptr (n0 + 1) 0), (11, .fn (.func (if pl = 1 then 122 else 76)) [] []), (19, .sl k (ss.map stc)), (20, .v (.int .i64 (ss.length : Int))), (21, .v (.int .i64 (i : Int)))] ((n0 + 1, { cells := xc (d), sz := 4, elem := (102), st := 0 }) :: H) n _
 obtain ⟨hi, hA, hn⟩ := hF
 refine Rg 1 J <| aA (bP J J) J <| aY (fun h22 => ?_) (fun h22 => ?_)
 rotate_left
 ·refine Wn <| aV J <| aW <| aT <| aR J <| Rg 1 J <| Ua J J <| Wn <| aP <| ⟨.inr J, om, .inl ⟨rfl, fun a ha ho b hb => hA a om ho b hb, (by intro q o hq'; have := hlt q o hq'; repeat (first | exact hq' | refine g1 om ?_))⟩⟩
 refine Wn <| aS J <| aE <| aL ?_
 have hm := bG (us := ss) (i := i) om
 have hcl := hV1.cs _ hm
 refine Rg 6 J <| Um J J <| aA (bQ J J J J J om J) J <| aA (dJ (l := .agg (stc (ss.getD i default))) J J J) J <| bD (eC J) J <| Ua J J <| aZ (cB (cs' := stc (ss.getD i default)) J J J g0 J J J J) <| Wn <| aB <| Rg 4 J <| aA (bA J J J J J) J <| aA (aM J J gG J J) J ?_
 refine Um J J <| aA (fV J J) J <| aY (fun h29 => ?_) (fun h29 => ?_)
 ·refine Nk [2,3,4,6,11,12,13,19,20,21,29] J <| aS J <| aW <| aR J <| aI (z := 2) J <| aA (cI (((i + 1 : Nat) : Int)) (aU J J om) om) J <| Um J J <| Wn <| aF <| ⟨i + 1, ⟨J, J, J, J, J, J, J, J, trivial⟩, ⟨gG, cR hnd (by intro q o hq'; have := hlt q o hq'; repeat (first | exact hq' | refine g1 om ?_))⟩, ⟨om, fun a ha ho => ?_, om⟩, by show ss.length - (i + 1) < ss.length - i; omega⟩
  by_cases e : a = i
  ·subst e; exact absurd ho om
  ·exact hA a om ho
 refine Nk [2,3,4,6,11,12,13,19,20,21,29] J <| aV J <| aE <| Rg 4 J <| aA (bA J J J J J) J <| aA (aM J J gG J J) J ?_
 refine aA (bB J J) J <| Um J J <| Nk [2,3,4,6,11,12,19,20,21,31,32,33] J <| cA <| bC (α := Nat) (fun j => [(2, .sl kv (vx.map xc)), (3, .ref qs 1 0 ss.length), (4, .v (.int .i64 pl)), (6, .ptr (n0 + 1) 0), (11, .fn (.func (if pl = 1 then 122 else 76)) [] []), (12, .v (.int .i64 (i : Int))), (19, .sl k (ss.map stc)), (20, .v (.int .i64 (ss.length : Int))), (21, .v (.int .i64 (i : Int))), (31, .sl (ss.getD i default).2.1 ((ss.getD i default).2.2.map chc)), (32, .v (.int .i64 ((ss.getD i default).2.2.length : Int))), (33, .v (.int .i64 (j : Int)))]) (fun j => (n0 + 1, { cells := xc (d), sz := 4, elem := (102), st := 0 }) :: H) (fun j n => j ≤ (ss.getD i default).2.2.length ∧ (∀ b, b < j → ¬ btr pl (yl d.1 (ch ss i b) (vl vx)) (vl vx i)) ∧ n0 + 3 ≤ n) (fun j => (ss.getD i default).2.2.length - j) (0) ⟨J, J, J, J, J, J, J, J, J, J, J, J, trivial⟩ ⟨gG, cR hnd (by intro q o hq'; have := hlt q o hq'; repeat (first | exact hq' | refine g1 om ?_))⟩ ⟨Nat.zero_le _, fun a ha => absurd ha om, om⟩ ?_
 rintro j n hF
 change WC _ _ _ _ _ [(2, .sl kv (vx.map xc)), (3, .ref qs 1 0 ss.length), (4, .v (.int .i64 pl)), (6, .ptr (n0 + 1) 0), (11, .fn (.func (if pl = 1 then 122 else 76)) [] []), (12, .v (.int .i64 (i : Int))), (19, .sl k (ss.map stc)), (20, .v (.int .i64 (ss.length : Int))), (21, .v (.int .i64 (i : Int))), (31, .sl (ss.getD i default).2.1 ((ss.getD i default).2.2.map chc)), (32, .v (.int .i64 ((ss.getD i default).2.2.length : Int))), (33, .v (.int .i64 (j : Int)))] ((n0 + 1, { cells := xc (d), sz := 4, elem := (102), st := 0 }) :: H) n _
 obtain ⟨hj, hB, hn2⟩ := hF
 refine Rg 1 J <| aA (bP J J) J <| aY (fun h34 => ?_) (fun h34 => ?_)
 rotate_left
 ·refine Wn <| aV J <| aW <| aT <| fE J <| aG <| aI (z := 2) J <| aA (cI (((i + 1 : Nat) : Int)) (aU J J om) om) J <| Um J J <| Wn <| aF <| ⟨i + 1, ⟨J, J, J, J, J, J, J, J, trivial⟩, ⟨gG, cR hnd (by intro q o hq'; have := hlt q o hq'; repeat (first | exact hq' | refine g1 om ?_))⟩, ⟨om, fun a ha ho b hb => ?_, om⟩, by show ss.length - (i + 1) < ss.length - i; omega⟩
  by_cases e : a = i
  ·subst e; exact hB b om
  ·exact hA a om ho b hb
 refine Wn <| aS J <| aE <| aL ?_
 have hmc := bG (us := (ss.getD i default).2.2) (i := j) om
 obtain ⟨hrw, hvb⟩ := oV hV hm hmc
 have hyb := xyl_bd hrw hvb hd h1β hv
 have hgb := nY h1β hv i
 refine Rg 6 J <| Um J J <| aA (bQ J J J J J om J) J <| aA (dJ (l := lvC ((ss.getD i default).2.2.getD j default)) J J J) J <| bD (eC J) J <| Ua J J <| aZ (cB (cs' := chc ((ss.getD i default).2.2.getD j default)) J J J g0 J J J J) <| Nk [2,3,4,6,11,12,14,15,19,20,21,31,32,33] J <| bL (z := 11) J kR <| Dm J J <| aC (aM (l := lvC ((ss.getD i default).2.2.getD j default)) J J g0 J J) J <| aC (aM (l := lvX d) J J gG J J) J ?_
 refine Dm J J <| aC (aK J (pT ((ss.getD i default).2.2.getD j default) d kv vx ss.length hrw hvb hd hl β h1β hβ hv) (bY (by intro c hc; simp only [List.mem_cons, List.not_mem_nil, or_false] at hc; rcases hc with rfl | rfl | rfl; exact dc1; exact dc1; exact (.sl _ _ fun row hr => cL dxc row hr)))) J <| Dm J J <| Dm J J <| aC (bQ (j := i) J J J J om om J) J <| aC (dJ (l := lvX (vx.getD i default)) J J J) J <| aC (oCallVD J J (cmpf_run pl (xyl ((ss.getD i default).2.2.getD j default) d vx) (vx.getD i default) (hyb.mono om) (hgb.mono om)) (data3 d0 (by intro c hc; simp only [List.mem_cons, List.not_mem_nil, or_false] at hc; rcases hc with rfl | rfl; exact dc1; exact dc1) d0)) J <| aC (dY J J) J <| mQ (fun h48 => ?_) (fun h48 => ?_)
 rotate_left
 ·refine bE (aQ kR) J <| Ck [2,3,4,6,11,12,14,19,20,21,31,32,33,48] J <| bX J <| cP <| aG <| aI (z := 2) J <| aA (cI (((j + 1 : Nat) : Int)) (aU J J om) om) J <| Um J J <| Wn <| aF <| ⟨j + 1, ⟨J, J, J, J, J, J, J, J, J, J, J, J, trivial⟩, ⟨gG, cR hnd (by intro q o hq'; have := hlt q o hq'; repeat (first | exact hq' | refine g1 om ?_))⟩, ⟨om, fun b hb => ?_, om⟩, by show (ss.getD i default).2.2.length - (j + 1) < (ss.getD i default).2.2.length - j; omega⟩
  by_cases e : b = j
  ·subst e; exact fun hb2 => h48 (oN.2 (by rw [xyl_v, nL]; exact hb2))
  ·exact hB b om
 refine bE (aQ kR) J <| Ck [2,3,4,6,11,12,14,19,20,21,31,32,33,48] J <| bW J <| Rg 5 J <| Um J J <| Um J J <| Um J J <| aA (cG (j := i) J J J J om om J) J <| aZ (eJ (f := ic) (us := st) (j : Int) J J J (by have := hlt qs _ hq; repeat (first | exact hq | refine g1 om ?_)) (fun _ => rfl) J J om J) ?_
 refine Nk [] J <| Rg 1 J <| Ua J J <| Wn <| aP <| aN <| bJ <| dQ <| aN <| bJ <| aN <| ⟨.inr J, om, .inr ⟨i, j, rfl, om, om, om, by have := oN.1 h48; rwa [xyl_v, nL] at this, g0, fun q o hne hq' => ?_⟩⟩
 have := hlt q o hq'
 repeat (first | exact hq' | refine g1 om ?_)
end Go.Proofs.YtahljdjhhapngaaGreat
namespace Go.Proofs.YtahljdjhhapngaaGreat
open Go.Ab Go.RowKit
theorem worth_share (n0 : Nat) (H : Hp) (k : Nat) (ss : List Go.Ab.ST) (d : X) (st : List Int) (qs : Nat) (hnd : subsM H H) (hlt : ∀ q o, getH H q = some o → q < n0) (hq : getH H qs = some { cells := ((st).map ic).flatten, sz := 1, elem := (3), st := 0 }) (hV : VMo ss = true) (hd : Bd 2 d.1) (hd0 : 0 < d.1) (hd1 : d.1 < 1) (hst : vSt ss st = true) : WC Tryz.prog T E0 Tryz.f71.ntmps (codeOf Tryz.f71) (argsEnv 0 [lvMo k ss, lvX d, .ref qs 1 0 ss.length]) H n0 (fun x e' h' n' => (x = .normal ∨ x = .ret) ∧ n0 ≤ n' ∧ ∃ xs : List X, resE e' T h' Tryz.f71.results.toList = some [.sl 1 (xs.map xc)] ∧ xs.length = ss.length ∧ WV ss d.1 st (vl xs) ∧ (∀ x, x ∈ xs → Bd 268435456 x.1) ∧ ∀ q o, getH H q = some o → getH h' q = some o) := by
 have hV1 := iZ hV
 have hn40 := hV1.wt.len
 have hpos := hV1.pos
 have hsl := gW hst
 have hD := kG hV hd0 hd1
 have hql := hlt qs _ hq
 have hfr : ∀ q, n0 ≤ q → getH H q = none := fun q hq => by
  cases h : getH H q with
  | none => rfl
  | some o => have := hlt q o h; omega
 change WC _ _ _ _ _ [(0, lvMo k ss), (1, lvX d), (2, .ref qs 1 0 ss.length)] _ _ _
 refine Rg 3 J <| bD (dW J J) J <| bD (dW J J) J <| Ua J J <| Wn <| Rg 4 J <| aA (bA J J J J J) J <| aA (aM J J gG J J) J ?_
 refine aA (bB J J) J <| Ua J J <| Wn <| Rg 1 J <| Ua J J <| Wn <| Rg 1 J <| Ua J J <| Wn <| aB <| Rg 4 J <| aA (bA J J J J J) J <| aA (aM J J gG J J) J ?_
 refine aA (bB J J) J <| Um J J <| Nk [2,4,7,8,9,22,23,24] J <| aL <| bC (α := Nat × Nat × Nat × (List X1) × (List X)) (fun ⟨i, qa, qb, al, bl⟩ => [(2, .ref qs 1 0 ss.length), (4, .ptr (n0 + 1) 0), (7, .v (.int .i64 (ss.length : Int))), (8, outV qa 1 (al.map fX)), (9, outV qb 4 (bl.map xc)), (22, .sl k (ss.map stc)), (23, .v (.int .i64 (ss.length : Int))), (24, .v (.int .i64 (i : Int)))]) (fun ⟨i, qa, qb, al, bl⟩ => outH qa 1 104 (al.map fX) (outH qb 4 102 (bl.map xc) ((n0 + 1, { cells := xc (d), sz := 4, elem := (102), st := 0 }) :: H))) (fun ⟨i, qa, qb, al, bl⟩ n => i ≤ ss.length ∧ al.length = i ∧ bl.length = i ∧ (∀ a, a < i → RowOk ss.length d.1 (ch ss a (st.getD a default).toNat).2.2 a ((al.getD a default).2.map (·.1)) ∧ (al.getD a default).1 = kd (al.getD a default).2.length ∧ (bl.getD a default).1 = nq (ch ss a (st.getD a default).toNat).1) ∧ (∀ r, r ∈ al → ∀ x, x ∈ r.2 → Bd 8 x.1) ∧ (∀ x, x ∈ bl → Bd 8 x.1) ∧ n0 + 1 < qa ∧ n0 + 1 < qb ∧ qa ≠ qb ∧ qa < n ∧ qb < n ∧ n0 + 6 ≤ n) (fun ⟨i, qa, qb, al, bl⟩ => ss.length - i) (0, n0 + 2, n0 + 3, [], []) ⟨J, J, J, J, J, J, J, J, trivial⟩ ⟨gG, cR hnd (by intro q o hq'; have := hlt q o hq'; repeat (first | exact hq' | refine g1 om ?_))⟩ ⟨Nat.zero_le _, rfl, rfl, fun a ha => absurd ha om, by simp, by simp, om, om, om, om, om, om⟩ ?_
 rintro ⟨i, qa, qb, al, bl⟩ n hF
 change WC _ _ _ _ _ (_ :: _) (outH _ _ _ _ _) n _
 obtain ⟨hi, hal, hbl, hrows, hba, hbb, hqa, hqb, hqab, hqa3, hqb3, hn⟩ := hF
 obtain ⟨nK, hnK⟩ : ∃ z, z = n := ⟨n, rfl⟩
 subst hnK
 refine Rg 1 J <| aA (bP J J) J <| aY (fun h25 => ?_) (fun h25 => ?_)
 rotate_left
 ·refine Wn <| aV J <| aW <| aT <| aR J ?_
  obtain ⟨a0, at', rfl⟩ : ∃ a t, al = a :: t := by
   cases al with
   | nil => simp at hal; omega
   | cons a t => exact ⟨a, t, rfl⟩
  obtain ⟨b0, bt, rfl⟩ : ∃ a t, bl = a :: t := by
   cases bl with
   | nil => simp at hbl; omega
   | cons a t => exact ⟨a, t, rfl⟩
  obtain rfl : i = ss.length := by omega
  obtain ⟨hg1, _, hns, hsvl, hwv, hsb⟩ := worth_sys hD hn40 hst (A := vX (a0 :: at')) (b := (b0 :: bt).map (·.1)) (by rw [cY]; exact hal) (by rw [List.length_map]; exact hbl) (fun a ha => by rw [dC]; exact (hrows a ha).1) (fun a ha => by show fn_ ((b0 :: bt).map (·.1)) a = _; exact (nL (b0 :: bt) a).symm.trans (hrows a ha).2.2) (fun r hr x hx => by obtain ⟨y, hy, rfl⟩ := List.mem_map.1 hr; obtain ⟨z, hz, rfl⟩ := List.mem_map.1 hx; exact hba y hy z hz) (fun x hx => by obtain ⟨y, hy, rfl⟩ := List.mem_map.1 hx; exact hbb y hy)
  have hrow2 : ∀ r, r ∈ a0 :: at' → r.2.length = ss.length ∧ r.1 = kd r.2.length := fun r hr => by
   obtain ⟨a, ha, rfl⟩ := List.getElem_of_mem hr
   have h1 := hrows a om
   rw [show (a0 :: at').getD a default = (a0 :: at')[a] by rw [List.getD_eq_getElem?_getD, List.getElem?_eq_getElem ha]; rfl] at h1
   have h2 := h1.1.1
   rw [List.length_map] at h2
   exact ⟨h2, h1.2.1⟩
  obtain ⟨r, hr, hphi⟩ := oE (a0 :: at') 1 (b0 :: bt) ss.length (by simp) om (fun r hr => (hrow2 r hr).1) (fun r hr => (hrow2 r hr).2) om om 268435456 (Nat.le_refl _) hg1
  rw [if_neg (by rw [hns]; decide)] at hphi
  obtain ⟨xs, rfl, hxs⟩ := hphi
  have hxl : xs.length = ss.length := by have := congrArg List.length hxs; rw [hsvl, List.length_map] at this; exact this
  refine Rg 9 J <| Um J J <| Um J J <| Um J J <| bD (jR [.sl 1 ((a0 :: at').map fX), .sl 1 ((b0 :: bt).map xc), .v (.int .i64 (ss.length : Int))] [(qa, { cells := ((a0 :: at').map fX).flatten, sz := 1, elem := 104, st := 1 }), (qb, { cells := ((b0 :: bt).map xc).flatten, sz := 4, elem := 102, st := 1 })] J hr (.own (ob := { cells := ((a0 :: at').map fX).flatten, sz := 1, elem := 104, st := 0 }) ((a0 :: at').map fX) (by simp) g0 (by show (0 : Nat) ≠ 2; decide) J (by decide) (by simp [keys]) J (cU (f := fX) (n := 1) (fun _ => rfl)) (cL dfX) (.own (ob := { cells := ((b0 :: bt).map xc).flatten, sz := 4, elem := 102, st := 0 }) ((b0 :: bt).map xc) (by simp) (g1 om g0) (by show (0 : Nat) ≠ 2; decide) J (by decide) (by simp [keys]) J (cU (f := xc) (n := 4) (fun _ => rfl)) (cL dxc) (.data (.v _) .nil))) (by intro p hp; simp only [List.mem_cons, List.not_mem_nil, or_false] at hp; rcases hp with rfl | rfl; exact ⟨_, g0, (by show (0 : Nat) ≠ 2; decide), rfl⟩; exact ⟨_, g1 om g0, (by show (0 : Nat) ≠ 2; decide), rfl⟩)) J <| Um J J <| aA (dX J J) J <| aA (dX J J) J <| Ua J J <| Ua J J <| Nk [17] J <| Rg 2 J <| Um J J <| Ua J J <| Wn <| aP <| ⟨.inr J, om, xs, rfl, hxl, by unfold vl; rw [hxs]; exact hwv, fun x hx => hsb _ (by rw [← hxs]; exact List.mem_map.2 ⟨x, hx, rfl⟩), (by intro q o hq'; have := hlt q o hq'; repeat (first | exact hq' | refine g1 om ?_))⟩
 refine Wn <| aS J <| aE <| aL ?_
 have hm := bG (us := ss) (i := i) om
 obtain ⟨hs0, hs1⟩ := nJ hst (i := i) om
 have hmc := bG (us := (ss.getD i default).2.2) (i := (st.getD i default).toNat) om
 obtain ⟨hrw, hvb⟩ : VN (ch ss i (st.getD i default).toNat).1 ∧ VB ss.length (ch ss i (st.getD i default).toNat).2.2 := oV hV hm hmc
 have hr3 := hrw.all3
 have hcl := hV1.cs _ hm
 have hqsn : qs < nK := by omega
 refine Rg 6 J <| Um J J <| aA (bQ J J J J J om J) J <| aA (dJ (l := .agg (stc (ss.getD i default))) J J J) J <| bD (eC J) J <| Ua J J <| aZ (cB (cs' := stc (ss.getD i default)) J J J g0 J J J J) <| Wn <| bL (z := 10) J kR <| aC (bA J J J J J) J <| aC (aM J J gG J J) J ?_
 refine Dm J J <| Dm J J <| aC (cG (j := i) J J J J om om J) J <| aC (eL (f := ic) (us := st) (j := i) J J (by have := hlt qs _ hq; repeat (first | exact hq | refine g1 om ?_ | refine aH om ?_)) (fun _ => rfl) J (by decide) om J) J ?_
 refine aC (bQ (j := (st.getD i default).toNat) J J J J om om J) J <| aC (dJ (l := lvC (ch ss i (st.getD i default).toNat)) J J J) J <| qM (eC J) J <| cC (cB (cs' := chc (ch ss i (st.getD i default).toNat)) J J J g0 J J J J) <| bE (gB (rn nK) (by simp only [List.reverse_cons, List.reverse_nil, List.nil_append, List.cons_append, List.map_cons, List.map_nil, ren, keys, Nat.add_assoc, pN, qF hqsn]; kernel_rfl)) J <| Ck [2,4,7,8,9,10,12,22,23,24] J <| Rg 3 J <| Um J J <| bD (oMk (a := ss.length) (b := ss.length) J J J J om om (by decide) om (by show 64 * ss.length ≤ _; omega) om) J <| Ua J J <| Wn <| aB <| Rg 4 J <| aA (bA J J J J J) J <| aA (aM J J gG J J) J ?_
 refine aA (bB J J) J <| Um J J <| Nk [2,4,7,8,9,10,12,13,22,23,24,40,41,42] J <| aL <| bC (α := Nat × (List X)) (fun ⟨j, row⟩ => [(2, .ref qs 1 0 ss.length), (4, .ptr (n0 + 1) 0), (7, .v (.int .i64 (ss.length : Int))), (8, outV qa 1 (al.map fX)), (9, outV qb 4 (bl.map xc)), (10, .v (.int .i64 (i : Int))), (12, .ptr (nK + 1 + 6 + 8) 0), (13, .ref (nK + 1 + 6 + 10 + 1) 4 0 ss.length), (22, .sl k (ss.map stc)), (23, .v (.int .i64 (ss.length : Int))), (24, .v (.int .i64 (i : Int))), (40, .sl (ch ss i (st.getD i default).toNat).2.1 ((ch ss i (st.getD i default).toNat).2.2.map brc)), (41, .v (.int .i64 ((ch ss i (st.getD i default).toNat).2.2.length : Int))), (42, .v (.int .i64 (j : Int)))]) (fun ⟨j, row⟩ => ((nK + 1 + 6 + 10 + 1), { cells := (row.map xc).flatten, sz := 4, elem := (102), st := 0 }) :: ((nK + 1 + 6 + 8), { cells := chc (ch ss i (st.getD i default).toNat), sz := 3, elem := (57), st := 0 }) :: outH qa 1 104 (al.map fX) (outH qb 4 102 (bl.map xc) ((n0 + 1, { cells := xc (d), sz := 4, elem := (102), st := 0 }) :: H))) (fun ⟨j, row⟩ n => j ≤ (ch ss i (st.getD i default).toNat).2.2.length ∧ RowP ss.length d.1 (ch ss i (st.getD i default).toNat).2.2 j (row.map (·.1)) ∧ nK + 24 ≤ n) (fun ⟨j, row⟩ => (ch ss i (st.getD i default).toNat).2.2.length - j) (0, List.replicate ss.length x0) ⟨J, J, J, J, J, J, J, J, J, J, J, J, J, J, trivial⟩ ⟨g0.trans (by rw [List.map_replicate]; rfl), gG, bV (fun hne => by rw [dB hne]; repeat (first | exact g0 | refine g1 om ?_ | refine aH om ?_)) (bV (fun hne => by rw [dB hne]; repeat (first | exact g0 | refine g1 om ?_ | refine aH om ?_)) ⟨(by repeat (first | exact g0 | refine g1 om ?_ | refine aH om ?_)), cR hnd (by intro q o hq'; have := hlt q o hq'; repeat (first | exact hq' | refine g1 om ?_ | refine aH om ?_))⟩)⟩ ⟨Nat.zero_le _, by rw [List.map_replicate]; exact RowP.init _ _ _, om⟩ ?_
 rintro ⟨j, row⟩ n hF
 change WC _ _ _ _ _ [(2, .ref qs 1 0 ss.length), (4, .ptr (n0 + 1) 0), (7, .v (.int .i64 (ss.length : Int))), (8, outV qa 1 (al.map fX)), (9, outV qb 4 (bl.map xc)), (10, .v (.int .i64 (i : Int))), (12, .ptr (nK + 1 + 6 + 8) 0), (13, .ref (nK + 1 + 6 + 10 + 1) 4 0 ss.length), (22, .sl k (ss.map stc)), (23, .v (.int .i64 (ss.length : Int))), (24, .v (.int .i64 (i : Int))), (40, .sl (ch ss i (st.getD i default).toNat).2.1 ((ch ss i (st.getD i default).toNat).2.2.map brc)), (41, .v (.int .i64 ((ch ss i (st.getD i default).toNat).2.2.length : Int))), (42, .v (.int .i64 (j : Int)))] (((nK + 1 + 6 + 10 + 1), { cells := (row.map xc).flatten, sz := 4, elem := (102), st := 0 }) :: ((nK + 1 + 6 + 8), { cells := chc (ch ss i (st.getD i default).toNat), sz := 3, elem := (57), st := 0 }) :: outH qa 1 104 (al.map fX) (outH qb 4 102 (bl.map xc) ((n0 + 1, { cells := xc (d), sz := 4, elem := (102), st := 0 }) :: H))) n _
 obtain ⟨hj, hR, hn2⟩ := hF
 have hrl : row.length = ss.length := by have := hR.1; rwa [List.length_map] at this
 refine Rg 1 J <| aA (bP J J) J <| aY (fun h43 => ?_) (fun h43 => ?_)
 ·refine Nk [2,4,7,8,9,10,12,13,22,23,24,40,41,42,43] J <| aS J <| aE <| aL ?_
  have hto := hvb.to j om
  have hvn := hvb.vn j om
  have hi3 := hvn.all3
  have hbl8 := hvb.len
  refine Rg 4 J <| aA (bQ J J J J J om J) J <| aA (dJ (l := .agg (brc ((ch ss i (st.getD i default).toNat).2.2.getD j default))) J J J) J <| bD (eC J) J <| aZ (cB (cs' := brc ((ch ss i (st.getD i default).toNat).2.2.getD j default)) J J J g0 J J J J) <| Nk [2,4,7,8,9,10,12,13,15,22,23,24,40,41,42] J <| dF (z := 11) J kR <| Dm J J <| aC (bA J J J J J) J <| aC (aM J J gG J J) J ?_
  refine aC (aM (l := lvX d) J J (by repeat (first | exact g0 | refine g1 om ?_ | refine aH om ?_)) J J) J ?_
  refine aC (bA J J J J J) J <| aC (aM (l := lvM ((ch ss i (st.getD i default).toNat).2.2.getD j default).2) J J gG J J) J ?_
  refine aC (bN (b := lvX (nx ((ch ss i (st.getD i default).toNat).2.2.getD j default).2)) (aK J (iB ((ch ss i (st.getD i default).toNat).2.2.getD j default).2 hi3.1 hi3.2.1 hi3.2.2) dD) J) J <| aC (aK J (jH d (nx ((ch ss i (st.getD i default).toNat).2.2.getD j default).2) (hd.mono om) (hvn.bd.mono om)) dD) J <| aC (aK J (kC (xmul d (nx ((ch ss i (st.getD i default).toNat).2.2.getD j default).2))) dD) J <| aC (cG (j := ((ch ss i (st.getD i default).toNat).2.2.getD j default).1.toNat) J J J J om om J) J <| cC (eJ (f := xc) (us := row) (xneg (xmul d (nx ((ch ss i (st.getD i default).toNat).2.2.getD j default).2))) J J J gG (fun _ => rfl) J J om J) ?_
  refine bE (aQ kR) J <| aG <| Ck [2,4,7,8,9,10,12,13,22,23,24,40,41,42] J <| aI (z := 2) J <| aA (cI (((j + 1 : Nat) : Int)) (aU J J om) om) J <| Um J J <| Wn <| aF <| ⟨⟨j + 1, row.set ((ch ss i (st.getD i default).toNat).2.2.getD j default).1.toNat (xneg (xmul d (nx ((ch ss i (st.getD i default).toNat).2.2.getD j default).2)))⟩, ⟨J, J, J, J, J, J, J, J, J, J, J, J, J, J, trivial⟩, ⟨gG, gG, bV (fun hne => by rw [dB hne]; repeat (first | exact g0 | refine g1 om ?_ | refine aH om ?_)) (bV (fun hne => by rw [dB hne]; repeat (first | exact g0 | refine g1 om ?_ | refine aH om ?_)) ⟨(by repeat (first | exact g0 | refine g1 om ?_ | refine aH om ?_)), cR hnd (by intro q o hq'; have := hlt q o hq'; repeat (first | exact hq' | refine g1 om ?_ | refine aH om ?_))⟩)⟩, ⟨om, by rw [List.map_set]; exact hR.step hvb om hd, om⟩, by show (ch ss i (st.getD i default).toNat).2.2.length - (j + 1) < (ch ss i (st.getD i default).toNat).2.2.length - j; omega⟩
 refine Nk [2,4,7,8,9,10,12,13,22,23,24,40,41,42,43] J <| aV J <| aW <| aT <| aR J <| Ck [2,4,7,8,9,10,12,13,22,23,24] J ?_
 have hjn : j = (ch ss i (st.getD i default).toNat).2.2.length := by have := hvb.len; omega
 subst hjn
 have hgi : Bd 4 (row.getD i default).1 := nY (by decide) (fun x hx => hR.2.2.2 _ (List.mem_map.2 ⟨x, hx, rfl⟩)) i
 have hrowok := hR.done (i := i) om
 rw [show (row.map (·.1)).set i ((row.map (·.1)).getD i default + 1) = (row.set i (xadd (row.getD i default) (xint 1))).map (·.1) by rw [List.map_set]; congr 1; show _ = (row.getD i default).1 + 1; rw [nL]; rfl] at hrowok
 have hov : outV (nK + 1 + 6 + 10 + 1) 4 ((row.set i (xadd (row.getD i default) (xint 1))).map xc) = .ref (nK + 1 + 6 + 10 + 1) 4 0 ss.length := by
  rw [kX (fun h => by have := congrArg List.length h; rw [List.length_map, List.length_set, List.length_nil] at this; omega), List.length_map, List.length_set, hrl]
 have hqa2 : qa < n := by omega
 have hqb2 : qb < n := by omega
 have h12 : nK + (1 + (6 + 8)) < n := by omega
 have h12b : nK + (1 + (6 + 8)) ≠ qb := by omega
 have h12a : nK + (1 + (6 + 8)) ≠ qa := by omega
 have hqba : qb ≠ qa := by omega
 refine bL (z := 10) J kR <| Dm J J <| Dm J J <| Dm J J <| Dm J J <| aC (cG (j := i) J J J J om om J) J <| aC (eL (f := xc) (us := row) (j := i) (l := lvX (row.getD i default)) J J gG (fun _ => rfl) J (by decide) om J) J ?_
 refine aC (aK J (iX 1 (by unfold I64; omega)) dD) J <| aC (aK J (jG (row.getD i default) (xint 1) (hgi.mono om) (Bd1.mono om)) dD) J <| aC (cG (j := i) J J J J om om J) J <| cC (eJ (f := xc) (us := row) (xadd (row.getD i default) (xint 1)) J J J gG (fun _ => rfl) J J om J) ?_
 refine bE (aQ kR) J <| Ck [2,4,7,8,9,12,13,22,23,24] J <| lV (z := 12) J kR <| Dm J J <| Dm J J <| aC (dA (cs := [_]) (rows := [[_]]) J J (by decide) J J J) J <| jA _ (subsM.get (bV (q := qa) (sz := 1) (el := 104) (us := al.map fX) (h := ((nK + 1 + 6 + 10 + 1), { cells := ((row.set i (xadd (row.getD i default) (xint 1))).map xc).flatten, sz := 4, elem := (102), st := 0 }) :: ((nK + 1 + 6 + 8), { cells := chc (ch ss i (st.getD i default).toNat), sz := 3, elem := (57), st := 0 }) :: outH qb 4 102 (bl.map xc) ((n0 + 1, { cells := xc (d), sz := 4, elem := (102), st := 0 }) :: H)) (fun hne => by rw [dB hne]; repeat (first | exact g0 | refine g1 om ?_ | refine aH om ?_)) ⟨(by repeat (first | exact g0 | refine g1 om ?_ | refine aH om ?_)), (by repeat (first | exact g0 | refine g1 om ?_ | refine aH om ?_)), bV (fun hne => by rw [dB hne]; repeat (first | exact g0 | refine g1 om ?_ | refine aH om ?_)) ⟨(by repeat (first | exact g0 | refine g1 om ?_ | refine aH om ?_)), cR hnd (by intro q o hq'; have := hlt q o hq'; repeat (first | exact hq' | refine g1 om ?_ | refine aH om ?_))⟩⟩)) ?_
 refine rM (te := ti104) (k0 := 0) (us := al.map fX) (rows := [[_]]) (.inl J) J J J (by rw [iT]; rfl) J (by decide) (by intro r hr; rw [List.mem_singleton] at hr; subst hr; rfl) (cU (f := fX) (n := 1) fun _ => rfl) (by simp) (by rw [List.length_map]; show (2 * (al.length + 1) + 256) * 24 ≤ _; omega) (by rw [List.length_map]; show al.length + 1 < _; omega) (gN om (gN om (fB om (gN om (hfr qa om))))) J <| Dm J J <| aC (bA J J J J J) J <| aC (aM (l := lvM (ch ss i (st.getD i default).toNat).1) J J (by repeat (first | exact g0 | refine g1 om ?_ | refine aH om ?_)) J J) J ?_
 refine aC (bN (b := lvX (nx (ch ss i (st.getD i default).toNat).1)) (aK J (iB (ch ss i (st.getD i default).toNat).1 hr3.1 hr3.2.1 hr3.2.2) dD) J) J <| aC (dA (cs := [_, _, _, _]) (rows := [[_, _, _, _]]) J J (by decide) J J J) J <| jA _ (subsM.get (bV (q := qb) (sz := 4) (el := 102) (us := bl.map xc) (h := ((n + 1 + 10 + 3), { cells := (al.map fX).flatten ++ [[LV.ref (nK + 1 + 6 + 10 + 1) 4 0 ss.length]].flatten, sz := 1, elem := 104, st := 0 }) :: ((nK + 1 + 6 + 10 + 1), { cells := ((row.set i (xadd (row.getD i default) (xint 1))).map xc).flatten, sz := 4, elem := (102), st := 0 }) :: (n0 + 1, { cells := xc (d), sz := 4, elem := (102), st := 0 }) :: H) (fun hne => by rw [dB hne]; repeat (first | exact g0 | refine g1 om ?_ | refine aH om ?_)) ⟨(by repeat (first | exact g0 | refine g1 om ?_ | refine aH om ?_)), (by repeat (first | exact g0 | refine g1 om ?_ | refine aH om ?_)), (by repeat (first | exact g0 | refine g1 om ?_ | refine aH om ?_)), cR hnd (by intro q o hq'; have := hlt q o hq'; repeat (first | exact hq' | refine g1 om ?_ | refine aH om ?_))⟩)) ?_
 refine rM (te := ti102) (k0 := 0) (us := bl.map xc) (rows := [xc (nx (ch ss i (st.getD i default).toNat).1)]) (.inl J) J J J (by rw [iT]; rfl) J (by decide) (by intro r hr; rw [List.mem_singleton] at hr; subst hr; rfl) (cU (f := xc) (n := 4) fun _ => rfl) (by simp) (by rw [List.length_map]; show (2 * (bl.length + 1) + 256) * 64 ≤ _; omega) (by rw [List.length_map]; show bl.length + 1 < _; omega) (gN om (gN om (gN om (hfr qb om)))) J <| aC (jJ J) J <| aC (jJ J) J <| bE (gB (rq2 qa qb n) (by simp only [List.reverse_cons, List.reverse_nil, List.nil_append, List.cons_append, List.map_cons, List.map_nil, ren, keys, Nat.add_assoc, rq2_a, rq2_b hqba, rq2_lt h12 h12a h12b, rq2_add hqa2 hqb2]; kernel_rfl)) J <| Fz.weakH (outH (nK + 1 + 6 + 10 + 1) 4 (102) ((row.set i (xadd (row.getD i default) (xint 1))).map xc) (((n + 1 + 10 + 3), { cells := (al.map fX).flatten ++ [outV (nK + 1 + 6 + 10 + 1) 4 ((row.set i (xadd (row.getD i default) (xint 1))).map xc)], sz := 1, elem := 104, st := 0 }) :: ((n + 1 + 10 + 9), { cells := (bl.map xc).flatten ++ [xc (nx (ch ss i (st.getD i default).toNat).1)].flatten, sz := 4, elem := 102, st := 0 }) :: (n0 + 1, { cells := xc (d), sz := 4, elem := (102), st := 0 }) :: H)) (subsM.get (bV (fun _ => (by repeat (first | exact g0 | refine g1 om ?_ | refine aH om ?_))) ⟨by rw [hov]; exact (by repeat (first | exact g0 | refine g1 om ?_ | refine aH om ?_)), (by repeat (first | exact g0 | refine g1 om ?_ | refine aH om ?_)), (by repeat (first | exact g0 | refine g1 om ?_ | refine aH om ?_)), cR hnd (by intro q o hq'; have := hlt q o hq'; repeat (first | exact hq' | refine g1 om ?_ | refine aH om ?_))⟩)) ?_
 refine Fz.cellR [(2, _), (4, _), (7, _), (8, _), (9, _), (22, _), (23, _), (24, _)] ⟨J, J, J, J, J, J, J, J, trivial⟩ om (by decide) (cU (f := xc) (n := 4) fun _ => rfl) (cL dxc) (gN om (gN om (hfr _ om))) ?_
 rw [oI]
 refine aG <| aI (z := 2) J <| aA (cI (((i + 1 : Nat) : Int)) (aU J J om) om) J <| Um J J <| Wn <| aF <| ⟨⟨i + 1, (n + 1 + 10 + 3), (n + 1 + 10 + 9), al ++ [(kd (row.set i (xadd (row.getD i default) (xint 1))).length, (row.set i (xadd (row.getD i default) (xint 1))))], bl ++ [nx (ch ss i (st.getD i default).toNat).1]⟩, ⟨rfl, rfl, rfl, congrArg some (by rw [List.map_append]; exact outV_snoc.symm), congrArg some (by rw [List.map_append]; exact outV_snoc.symm), rfl, rfl, rfl, trivial⟩, by dsimp only; rw [List.map_append, List.map_append]; simp only [List.map_cons, List.map_nil]; rw [iS, iS]; exact ⟨gG, gG, gG, cR hnd (by intro q o hq'; have := hlt q o hq'; repeat (first | exact hq' | refine g1 om ?_))⟩, ⟨om, by rw [List.length_append]; show al.length + 1 = _; omega, by rw [List.length_append]; show bl.length + 1 = _; omega, fun a ha => ?_, fun r hr => ?_, fun x hx => ?_, om, om, om, om, om, om⟩, by show ss.length - (i + 1) < ss.length - i; omega⟩
 ·by_cases e : a = i
  ·subst e
   rw [show (al ++ [(kd (row.set a (xadd (row.getD a default) (xint 1))).length, (row.set a (xadd (row.getD a default) (xint 1))))]).getD a default = (kd (row.set a (xadd (row.getD a default) (xint 1))).length, (row.set a (xadd (row.getD a default) (xint 1)))) by rw [← hal]; simp [List.getD_eq_getElem?_getD], show (bl ++ [nx (ch ss a (st.getD a default).toNat).1]).getD a default = nx (ch ss a (st.getD a default).toNat).1 by rw [← hbl]; simp [List.getD_eq_getElem?_getD]]
   exact ⟨hrowok.1, rfl, rfl⟩
  ·rw [show (al ++ [(kd (row.set i (xadd (row.getD i default) (xint 1))).length, (row.set i (xadd (row.getD i default) (xint 1))))]).getD a default = al.getD a default by simp only [List.getD_eq_getElem?_getD]; rw [List.getElem?_append_left om], show (bl ++ [nx (ch ss i (st.getD i default).toNat).1]).getD a default = bl.getD a default by simp only [List.getD_eq_getElem?_getD]; rw [List.getElem?_append_left om]]
   exact hrows a om
 ·rcases List.mem_append.1 hr with h | h
  ·exact hba r h
  ·rw [List.mem_singleton] at h; subst h
   exact fun x hx => hrowok.2 _ (List.mem_map.2 ⟨x, hx, rfl⟩)
 ·rcases List.mem_append.1 hx with h | h
  ·exact hbb x h
  ·rw [List.mem_singleton] at h; subst h
   exact hrw.bd.mono (by decide)
theorem worth_wc (n0 : Nat) (H : Hp) (k ks : Nat) (ss : List Go.Ab.ST) (d : X) (st : List Int) (hnd : subsM H H) (hlt : ∀ q o, getH H q = some o → q < n0) (hV : VMo ss = true) (hd : Bd 2 d.1) (hd0 : 0 < d.1) (hd1 : d.1 < 1) (hst : vSt ss st = true) : WC Tryz.prog T E0 Tryz.f71.ntmps (codeOf Tryz.f71) (argsEnv 0 [lvMo k ss, lvX d, .sl ks (st.map ic)]) H n0 (fun x e' h' n' => (x = .normal ∨ x = .ret) ∧ n0 ≤ n' ∧ ∃ xs : List X, resE e' T h' Tryz.f71.results.toList = some [.sl 1 (xs.map xc)] ∧ xs.length = ss.length ∧ WV ss d.1 st (vl xs) ∧ (∀ x, x ∈ xs → Bd 268435456 x.1) ∧ ∀ q o, getH H q = some o → getH h' q = some o) := by
 have hV1 := iZ hV
 have hn40 := hV1.wt.len
 have hpos := hV1.pos
 have hsl := gW hst
 have hD := kG hV hd0 hd1
 have hfr : ∀ q, n0 ≤ q → getH H q = none := fun q hq => by
  cases h : getH H q with
  | none => rfl
  | some o => have := hlt q o h; omega
 change WC _ _ _ _ _ [(0, lvMo k ss), (1, lvX d), (2, .sl ks (st.map ic))] _ _ _
 refine Rg 3 J <| bD (dW J J) J <| bD (dW J J) J <| Ua J J <| Wn <| Rg 4 J <| aA (bA J J J J J) J <| aA (aM J J gG J J) J ?_
 refine aA (bB J J) J <| Ua J J <| Wn <| Rg 1 J <| Ua J J <| Wn <| Rg 1 J <| Ua J J <| Wn <| aB <| Rg 4 J <| aA (bA J J J J J) J <| aA (aM J J gG J J) J ?_
 refine aA (bB J J) J <| Um J J <| Nk [2,4,7,8,9,22,23,24] J <| aL <| bC (α := Nat × Nat × Nat × (List X1) × (List X)) (fun ⟨i, qa, qb, al, bl⟩ => [(2, .sl ks (st.map ic)), (4, .ptr (n0 + 1) 0), (7, .v (.int .i64 (ss.length : Int))), (8, outV qa 1 (al.map fX)), (9, outV qb 4 (bl.map xc)), (22, .sl k (ss.map stc)), (23, .v (.int .i64 (ss.length : Int))), (24, .v (.int .i64 (i : Int)))]) (fun ⟨i, qa, qb, al, bl⟩ => outH qa 1 104 (al.map fX) (outH qb 4 102 (bl.map xc) ((n0 + 1, { cells := xc (d), sz := 4, elem := (102), st := 0 }) :: H))) (fun ⟨i, qa, qb, al, bl⟩ n => i ≤ ss.length ∧ al.length = i ∧ bl.length = i ∧ (∀ a, a < i → RowOk ss.length d.1 (ch ss a (st.getD a default).toNat).2.2 a ((al.getD a default).2.map (·.1)) ∧ (al.getD a default).1 = kd (al.getD a default).2.length ∧ (bl.getD a default).1 = nq (ch ss a (st.getD a default).toNat).1) ∧ (∀ r, r ∈ al → ∀ x, x ∈ r.2 → Bd 8 x.1) ∧ (∀ x, x ∈ bl → Bd 8 x.1) ∧ n0 + 1 < qa ∧ n0 + 1 < qb ∧ qa ≠ qb ∧ qa < n ∧ qb < n ∧ n0 + 6 ≤ n) (fun ⟨i, qa, qb, al, bl⟩ => ss.length - i) (0, n0 + 2, n0 + 3, [], []) ⟨J, J, J, J, J, J, J, J, trivial⟩ ⟨gG, cR hnd (by intro q o hq'; have := hlt q o hq'; repeat (first | exact hq' | refine g1 om ?_))⟩ ⟨Nat.zero_le _, rfl, rfl, fun a ha => absurd ha om, by simp, by simp, om, om, om, om, om, om⟩ ?_
 rintro ⟨i, qa, qb, al, bl⟩ n hF
 change WC _ _ _ _ _ (_ :: _) (outH _ _ _ _ _) n _
 obtain ⟨hi, hal, hbl, hrows, hba, hbb, hqa, hqb, hqab, hqa3, hqb3, hn⟩ := hF
 obtain ⟨nK, hnK⟩ : ∃ z, z = n := ⟨n, rfl⟩
 subst hnK
 refine Rg 1 J <| aA (bP J J) J <| aY (fun h25 => ?_) (fun h25 => ?_)
 rotate_left
 ·refine Wn <| aV J <| aW <| aT <| aR J ?_
  obtain ⟨a0, at', rfl⟩ : ∃ a t, al = a :: t := by
   cases al with
   | nil => simp at hal; omega
   | cons a t => exact ⟨a, t, rfl⟩
  obtain ⟨b0, bt, rfl⟩ : ∃ a t, bl = a :: t := by
   cases bl with
   | nil => simp at hbl; omega
   | cons a t => exact ⟨a, t, rfl⟩
  obtain rfl : i = ss.length := by omega
  obtain ⟨hg1, _, hns, hsvl, hwv, hsb⟩ := worth_sys hD hn40 hst (A := vX (a0 :: at')) (b := (b0 :: bt).map (·.1)) (by rw [cY]; exact hal) (by rw [List.length_map]; exact hbl) (fun a ha => by rw [dC]; exact (hrows a ha).1) (fun a ha => by show fn_ ((b0 :: bt).map (·.1)) a = _; exact (nL (b0 :: bt) a).symm.trans (hrows a ha).2.2) (fun r hr x hx => by obtain ⟨y, hy, rfl⟩ := List.mem_map.1 hr; obtain ⟨z, hz, rfl⟩ := List.mem_map.1 hx; exact hba y hy z hz) (fun x hx => by obtain ⟨y, hy, rfl⟩ := List.mem_map.1 hx; exact hbb y hy)
  have hrow2 : ∀ r, r ∈ a0 :: at' → r.2.length = ss.length ∧ r.1 = kd r.2.length := fun r hr => by
   obtain ⟨a, ha, rfl⟩ := List.getElem_of_mem hr
   have h1 := hrows a om
   rw [show (a0 :: at').getD a default = (a0 :: at')[a] by rw [List.getD_eq_getElem?_getD, List.getElem?_eq_getElem ha]; rfl] at h1
   have h2 := h1.1.1
   rw [List.length_map] at h2
   exact ⟨h2, h1.2.1⟩
  obtain ⟨r, hr, hphi⟩ := oE (a0 :: at') 1 (b0 :: bt) ss.length (by simp) om (fun r hr => (hrow2 r hr).1) (fun r hr => (hrow2 r hr).2) om om 268435456 (Nat.le_refl _) hg1
  rw [if_neg (by rw [hns]; decide)] at hphi
  obtain ⟨xs, rfl, hxs⟩ := hphi
  have hxl : xs.length = ss.length := by have := congrArg List.length hxs; rw [hsvl, List.length_map] at this; exact this
  refine Rg 9 J <| Um J J <| Um J J <| Um J J <| bD (jR [.sl 1 ((a0 :: at').map fX), .sl 1 ((b0 :: bt).map xc), .v (.int .i64 (ss.length : Int))] [(qa, { cells := ((a0 :: at').map fX).flatten, sz := 1, elem := 104, st := 1 }), (qb, { cells := ((b0 :: bt).map xc).flatten, sz := 4, elem := 102, st := 1 })] J hr (.own (ob := { cells := ((a0 :: at').map fX).flatten, sz := 1, elem := 104, st := 0 }) ((a0 :: at').map fX) (by simp) g0 (by show (0 : Nat) ≠ 2; decide) J (by decide) (by simp [keys]) J (cU (f := fX) (n := 1) (fun _ => rfl)) (cL dfX) (.own (ob := { cells := ((b0 :: bt).map xc).flatten, sz := 4, elem := 102, st := 0 }) ((b0 :: bt).map xc) (by simp) (g1 om g0) (by show (0 : Nat) ≠ 2; decide) J (by decide) (by simp [keys]) J (cU (f := xc) (n := 4) (fun _ => rfl)) (cL dxc) (.data (.v _) .nil))) (by intro p hp; simp only [List.mem_cons, List.not_mem_nil, or_false] at hp; rcases hp with rfl | rfl; exact ⟨_, g0, (by show (0 : Nat) ≠ 2; decide), rfl⟩; exact ⟨_, g1 om g0, (by show (0 : Nat) ≠ 2; decide), rfl⟩)) J <| Um J J <| aA (dX J J) J <| aA (dX J J) J <| Ua J J <| Ua J J <| Nk [17] J <| Rg 2 J <| Um J J <| Ua J J <| Wn <| aP <| ⟨.inr J, om, xs, rfl, hxl, by unfold vl; rw [hxs]; exact hwv, fun x hx => hsb _ (by rw [← hxs]; exact List.mem_map.2 ⟨x, hx, rfl⟩), (by intro q o hq'; have := hlt q o hq'; repeat (first | exact hq' | refine g1 om ?_))⟩
 refine Wn <| aS J <| aE <| aL ?_
 have hm := bG (us := ss) (i := i) om
 obtain ⟨hs0, hs1⟩ := nJ hst (i := i) om
 have hmc := bG (us := (ss.getD i default).2.2) (i := (st.getD i default).toNat) om
 obtain ⟨hrw, hvb⟩ : VN (ch ss i (st.getD i default).toNat).1 ∧ VB ss.length (ch ss i (st.getD i default).toNat).2.2 := oV hV hm hmc
 have hr3 := hrw.all3
 have hcl := hV1.cs _ hm
 refine Rg 6 J <| Um J J <| aA (bQ J J J J J om J) J <| aA (dJ (l := .agg (stc (ss.getD i default))) J J J) J <| bD (eC J) J <| Ua J J <| aZ (cB (cs' := stc (ss.getD i default)) J J J g0 J J J J) <| Wn <| bL (z := 10) J kR <| aC (bA J J J J J) J <| aC (aM J J gG J J) J ?_
 refine Dm J J <| Dm J J <| aC (bQ (j := i) J J J J om om J) J <| aC (dJ J J J) J <| aC (bQ (j := (st.getD i default).toNat) J J J J om om J) J <| aC (dJ (l := lvC (ch ss i (st.getD i default).toNat)) J J J) J <| qM (eC J) J <| cC (cB (cs' := chc (ch ss i (st.getD i default).toNat)) J J J g0 J J J J) <| bE (gB (rn nK) (by simp only [List.reverse_cons, List.reverse_nil, List.nil_append, List.cons_append, List.map_cons, List.map_nil, ren, keys, Nat.add_assoc, pN]; kernel_rfl)) J <| Ck [2,4,7,8,9,10,12,22,23,24] J <| Rg 3 J <| Um J J <| bD (oMk (a := ss.length) (b := ss.length) J J J J om om (by decide) om (by show 64 * ss.length ≤ _; omega) om) J <| Ua J J <| Wn <| aB <| Rg 4 J <| aA (bA J J J J J) J <| aA (aM J J gG J J) J ?_
 refine aA (bB J J) J <| Um J J <| Nk [2,4,7,8,9,10,12,13,22,23,24,40,41,42] J <| aL <| bC (α := Nat × (List X)) (fun ⟨j, row⟩ => [(2, .sl ks (st.map ic)), (4, .ptr (n0 + 1) 0), (7, .v (.int .i64 (ss.length : Int))), (8, outV qa 1 (al.map fX)), (9, outV qb 4 (bl.map xc)), (10, .v (.int .i64 (i : Int))), (12, .ptr (nK + 1 + 6 + 8) 0), (13, .ref (nK + 1 + 6 + 10 + 1) 4 0 ss.length), (22, .sl k (ss.map stc)), (23, .v (.int .i64 (ss.length : Int))), (24, .v (.int .i64 (i : Int))), (40, .sl (ch ss i (st.getD i default).toNat).2.1 ((ch ss i (st.getD i default).toNat).2.2.map brc)), (41, .v (.int .i64 ((ch ss i (st.getD i default).toNat).2.2.length : Int))), (42, .v (.int .i64 (j : Int)))]) (fun ⟨j, row⟩ => ((nK + 1 + 6 + 10 + 1), { cells := (row.map xc).flatten, sz := 4, elem := (102), st := 0 }) :: ((nK + 1 + 6 + 8), { cells := chc (ch ss i (st.getD i default).toNat), sz := 3, elem := (57), st := 0 }) :: outH qa 1 104 (al.map fX) (outH qb 4 102 (bl.map xc) ((n0 + 1, { cells := xc (d), sz := 4, elem := (102), st := 0 }) :: H))) (fun ⟨j, row⟩ n => j ≤ (ch ss i (st.getD i default).toNat).2.2.length ∧ RowP ss.length d.1 (ch ss i (st.getD i default).toNat).2.2 j (row.map (·.1)) ∧ nK + 24 ≤ n) (fun ⟨j, row⟩ => (ch ss i (st.getD i default).toNat).2.2.length - j) (0, List.replicate ss.length x0) ⟨J, J, J, J, J, J, J, J, J, J, J, J, J, J, trivial⟩ ⟨g0.trans (by rw [List.map_replicate]; rfl), gG, bV (fun hne => by rw [dB hne]; repeat (first | exact g0 | refine g1 om ?_ | refine aH om ?_)) (bV (fun hne => by rw [dB hne]; repeat (first | exact g0 | refine g1 om ?_ | refine aH om ?_)) ⟨(by repeat (first | exact g0 | refine g1 om ?_ | refine aH om ?_)), cR hnd (by intro q o hq'; have := hlt q o hq'; repeat (first | exact hq' | refine g1 om ?_ | refine aH om ?_))⟩)⟩ ⟨Nat.zero_le _, by rw [List.map_replicate]; exact RowP.init _ _ _, om⟩ ?_
 rintro ⟨j, row⟩ n hF
 change WC _ _ _ _ _ [(2, .sl ks (st.map ic)), (4, .ptr (n0 + 1) 0), (7, .v (.int .i64 (ss.length : Int))), (8, outV qa 1 (al.map fX)), (9, outV qb 4 (bl.map xc)), (10, .v (.int .i64 (i : Int))), (12, .ptr (nK + 1 + 6 + 8) 0), (13, .ref (nK + 1 + 6 + 10 + 1) 4 0 ss.length), (22, .sl k (ss.map stc)), (23, .v (.int .i64 (ss.length : Int))), (24, .v (.int .i64 (i : Int))), (40, .sl (ch ss i (st.getD i default).toNat).2.1 ((ch ss i (st.getD i default).toNat).2.2.map brc)), (41, .v (.int .i64 ((ch ss i (st.getD i default).toNat).2.2.length : Int))), (42, .v (.int .i64 (j : Int)))] (((nK + 1 + 6 + 10 + 1), { cells := (row.map xc).flatten, sz := 4, elem := (102), st := 0 }) :: ((nK + 1 + 6 + 8), { cells := chc (ch ss i (st.getD i default).toNat), sz := 3, elem := (57), st := 0 }) :: outH qa 1 104 (al.map fX) (outH qb 4 102 (bl.map xc) ((n0 + 1, { cells := xc (d), sz := 4, elem := (102), st := 0 }) :: H))) n _
 obtain ⟨hj, hR, hn2⟩ := hF
 have hrl : row.length = ss.length := by have := hR.1; rwa [List.length_map] at this
 refine Rg 1 J <| aA (bP J J) J <| aY (fun h43 => ?_) (fun h43 => ?_)
 ·refine Nk [2,4,7,8,9,10,12,13,22,23,24,40,41,42,43] J <| aS J <| aE <| aL ?_
  have hto := hvb.to j om
  have hvn := hvb.vn j om
  have hi3 := hvn.all3
  have hbl8 := hvb.len
  refine Rg 4 J <| aA (bQ J J J J J om J) J <| aA (dJ (l := .agg (brc ((ch ss i (st.getD i default).toNat).2.2.getD j default))) J J J) J <| bD (eC J) J <| aZ (cB (cs' := brc ((ch ss i (st.getD i default).toNat).2.2.getD j default)) J J J g0 J J J J) <| Nk [2,4,7,8,9,10,12,13,15,22,23,24,40,41,42] J <| dF (z := 11) J kR <| Dm J J <| aC (bA J J J J J) J <| aC (aM J J gG J J) J ?_
  refine aC (aM (l := lvX d) J J (by repeat (first | exact g0 | refine g1 om ?_ | refine aH om ?_)) J J) J ?_
  refine aC (bA J J J J J) J <| aC (aM (l := lvM ((ch ss i (st.getD i default).toNat).2.2.getD j default).2) J J gG J J) J ?_
  refine aC (bN (b := lvX (nx ((ch ss i (st.getD i default).toNat).2.2.getD j default).2)) (aK J (iB ((ch ss i (st.getD i default).toNat).2.2.getD j default).2 hi3.1 hi3.2.1 hi3.2.2) dD) J) J <| aC (aK J (jH d (nx ((ch ss i (st.getD i default).toNat).2.2.getD j default).2) (hd.mono om) (hvn.bd.mono om)) dD) J <| aC (aK J (kC (xmul d (nx ((ch ss i (st.getD i default).toNat).2.2.getD j default).2))) dD) J <| aC (cG (j := ((ch ss i (st.getD i default).toNat).2.2.getD j default).1.toNat) J J J J om om J) J <| cC (eJ (f := xc) (us := row) (xneg (xmul d (nx ((ch ss i (st.getD i default).toNat).2.2.getD j default).2))) J J J gG (fun _ => rfl) J J om J) ?_
  refine bE (aQ kR) J <| aG <| Ck [2,4,7,8,9,10,12,13,22,23,24,40,41,42] J <| aI (z := 2) J <| aA (cI (((j + 1 : Nat) : Int)) (aU J J om) om) J <| Um J J <| Wn <| aF <| ⟨⟨j + 1, row.set ((ch ss i (st.getD i default).toNat).2.2.getD j default).1.toNat (xneg (xmul d (nx ((ch ss i (st.getD i default).toNat).2.2.getD j default).2)))⟩, ⟨J, J, J, J, J, J, J, J, J, J, J, J, J, J, trivial⟩, ⟨gG, gG, bV (fun hne => by rw [dB hne]; repeat (first | exact g0 | refine g1 om ?_ | refine aH om ?_)) (bV (fun hne => by rw [dB hne]; repeat (first | exact g0 | refine g1 om ?_ | refine aH om ?_)) ⟨(by repeat (first | exact g0 | refine g1 om ?_ | refine aH om ?_)), cR hnd (by intro q o hq'; have := hlt q o hq'; repeat (first | exact hq' | refine g1 om ?_ | refine aH om ?_))⟩)⟩, ⟨om, by rw [List.map_set]; exact hR.step hvb om hd, om⟩, by show (ch ss i (st.getD i default).toNat).2.2.length - (j + 1) < (ch ss i (st.getD i default).toNat).2.2.length - j; omega⟩
 refine Nk [2,4,7,8,9,10,12,13,22,23,24,40,41,42,43] J <| aV J <| aW <| aT <| aR J <| Ck [2,4,7,8,9,10,12,13,22,23,24] J ?_
 have hjn : j = (ch ss i (st.getD i default).toNat).2.2.length := by have := hvb.len; omega
 subst hjn
 have hgi : Bd 4 (row.getD i default).1 := nY (by decide) (fun x hx => hR.2.2.2 _ (List.mem_map.2 ⟨x, hx, rfl⟩)) i
 have hrowok := hR.done (i := i) om
 rw [show (row.map (·.1)).set i ((row.map (·.1)).getD i default + 1) = (row.set i (xadd (row.getD i default) (xint 1))).map (·.1) by rw [List.map_set]; congr 1; show _ = (row.getD i default).1 + 1; rw [nL]; rfl] at hrowok
 have hov : outV (nK + 1 + 6 + 10 + 1) 4 ((row.set i (xadd (row.getD i default) (xint 1))).map xc) = .ref (nK + 1 + 6 + 10 + 1) 4 0 ss.length := by
  rw [kX (fun h => by have := congrArg List.length h; rw [List.length_map, List.length_set, List.length_nil] at this; omega), List.length_map, List.length_set, hrl]
 have hqa2 : qa < n := by omega
 have hqb2 : qb < n := by omega
 have h12 : nK + (1 + (6 + 8)) < n := by omega
 have h12b : nK + (1 + (6 + 8)) ≠ qb := by omega
 have h12a : nK + (1 + (6 + 8)) ≠ qa := by omega
 have hqba : qb ≠ qa := by omega
 refine bL (z := 10) J kR <| Dm J J <| Dm J J <| Dm J J <| Dm J J <| aC (cG (j := i) J J J J om om J) J <| aC (eL (f := xc) (us := row) (j := i) (l := lvX (row.getD i default)) J J gG (fun _ => rfl) J (by decide) om J) J ?_
 refine aC (aK J (iX 1 (by unfold I64; omega)) dD) J <| aC (aK J (jG (row.getD i default) (xint 1) (hgi.mono om) (Bd1.mono om)) dD) J <| aC (cG (j := i) J J J J om om J) J <| cC (eJ (f := xc) (us := row) (xadd (row.getD i default) (xint 1)) J J J gG (fun _ => rfl) J J om J) ?_
 refine bE (aQ kR) J <| Ck [2,4,7,8,9,12,13,22,23,24] J <| lV (z := 12) J kR <| Dm J J <| Dm J J <| aC (dA (cs := [_]) (rows := [[_]]) J J (by decide) J J J) J <| jA _ (subsM.get (bV (q := qa) (sz := 1) (el := 104) (us := al.map fX) (h := ((nK + 1 + 6 + 10 + 1), { cells := ((row.set i (xadd (row.getD i default) (xint 1))).map xc).flatten, sz := 4, elem := (102), st := 0 }) :: ((nK + 1 + 6 + 8), { cells := chc (ch ss i (st.getD i default).toNat), sz := 3, elem := (57), st := 0 }) :: outH qb 4 102 (bl.map xc) ((n0 + 1, { cells := xc (d), sz := 4, elem := (102), st := 0 }) :: H)) (fun hne => by rw [dB hne]; repeat (first | exact g0 | refine g1 om ?_ | refine aH om ?_)) ⟨(by repeat (first | exact g0 | refine g1 om ?_ | refine aH om ?_)), (by repeat (first | exact g0 | refine g1 om ?_ | refine aH om ?_)), bV (fun hne => by rw [dB hne]; repeat (first | exact g0 | refine g1 om ?_ | refine aH om ?_)) ⟨(by repeat (first | exact g0 | refine g1 om ?_ | refine aH om ?_)), cR hnd (by intro q o hq'; have := hlt q o hq'; repeat (first | exact hq' | refine g1 om ?_ | refine aH om ?_))⟩⟩)) ?_
 refine rM (te := ti104) (k0 := 0) (us := al.map fX) (rows := [[_]]) (.inl J) J J J (by rw [iT]; rfl) J (by decide) (by intro r hr; rw [List.mem_singleton] at hr; subst hr; rfl) (cU (f := fX) (n := 1) fun _ => rfl) (by simp) (by rw [List.length_map]; show (2 * (al.length + 1) + 256) * 24 ≤ _; omega) (by rw [List.length_map]; show al.length + 1 < _; omega) (gN om (gN om (fB om (gN om (hfr qa om))))) J <| Dm J J <| aC (bA J J J J J) J <| aC (aM (l := lvM (ch ss i (st.getD i default).toNat).1) J J (by repeat (first | exact g0 | refine g1 om ?_ | refine aH om ?_)) J J) J ?_
 refine aC (bN (b := lvX (nx (ch ss i (st.getD i default).toNat).1)) (aK J (iB (ch ss i (st.getD i default).toNat).1 hr3.1 hr3.2.1 hr3.2.2) dD) J) J <| aC (dA (cs := [_, _, _, _]) (rows := [[_, _, _, _]]) J J (by decide) J J J) J <| jA _ (subsM.get (bV (q := qb) (sz := 4) (el := 102) (us := bl.map xc) (h := ((n + 1 + 10 + 3), { cells := (al.map fX).flatten ++ [[LV.ref (nK + 1 + 6 + 10 + 1) 4 0 ss.length]].flatten, sz := 1, elem := 104, st := 0 }) :: ((nK + 1 + 6 + 10 + 1), { cells := ((row.set i (xadd (row.getD i default) (xint 1))).map xc).flatten, sz := 4, elem := (102), st := 0 }) :: (n0 + 1, { cells := xc (d), sz := 4, elem := (102), st := 0 }) :: H) (fun hne => by rw [dB hne]; repeat (first | exact g0 | refine g1 om ?_ | refine aH om ?_)) ⟨(by repeat (first | exact g0 | refine g1 om ?_ | refine aH om ?_)), (by repeat (first | exact g0 | refine g1 om ?_ | refine aH om ?_)), (by repeat (first | exact g0 | refine g1 om ?_ | refine aH om ?_)), cR hnd (by intro q o hq'; have := hlt q o hq'; repeat (first | exact hq' | refine g1 om ?_ | refine aH om ?_))⟩)) ?_
 refine rM (te := ti102) (k0 := 0) (us := bl.map xc) (rows := [xc (nx (ch ss i (st.getD i default).toNat).1)]) (.inl J) J J J (by rw [iT]; rfl) J (by decide) (by intro r hr; rw [List.mem_singleton] at hr; subst hr; rfl) (cU (f := xc) (n := 4) fun _ => rfl) (by simp) (by rw [List.length_map]; show (2 * (bl.length + 1) + 256) * 64 ≤ _; omega) (by rw [List.length_map]; show bl.length + 1 < _; omega) (gN om (gN om (gN om (hfr qb om)))) J <| aC (jJ J) J <| aC (jJ J) J <| bE (gB (rq2 qa qb n) (by simp only [List.reverse_cons, List.reverse_nil, List.nil_append, List.cons_append, List.map_cons, List.map_nil, ren, keys, Nat.add_assoc, rq2_a, rq2_b hqba, rq2_lt h12 h12a h12b, rq2_add hqa2 hqb2]; kernel_rfl)) J <| Fz.weakH (outH (nK + 1 + 6 + 10 + 1) 4 (102) ((row.set i (xadd (row.getD i default) (xint 1))).map xc) (((n + 1 + 10 + 3), { cells := (al.map fX).flatten ++ [outV (nK + 1 + 6 + 10 + 1) 4 ((row.set i (xadd (row.getD i default) (xint 1))).map xc)], sz := 1, elem := 104, st := 0 }) :: ((n + 1 + 10 + 9), { cells := (bl.map xc).flatten ++ [xc (nx (ch ss i (st.getD i default).toNat).1)].flatten, sz := 4, elem := 102, st := 0 }) :: (n0 + 1, { cells := xc (d), sz := 4, elem := (102), st := 0 }) :: H)) (subsM.get (bV (fun _ => (by repeat (first | exact g0 | refine g1 om ?_ | refine aH om ?_))) ⟨by rw [hov]; exact (by repeat (first | exact g0 | refine g1 om ?_ | refine aH om ?_)), (by repeat (first | exact g0 | refine g1 om ?_ | refine aH om ?_)), (by repeat (first | exact g0 | refine g1 om ?_ | refine aH om ?_)), cR hnd (by intro q o hq'; have := hlt q o hq'; repeat (first | exact hq' | refine g1 om ?_ | refine aH om ?_))⟩)) ?_
 refine Fz.cellR [(2, _), (4, _), (7, _), (8, _), (9, _), (22, _), (23, _), (24, _)] ⟨J, J, J, J, J, J, J, J, trivial⟩ om (by decide) (cU (f := xc) (n := 4) fun _ => rfl) (cL dxc) (gN om (gN om (hfr _ om))) ?_
 rw [oI]
 refine aG <| aI (z := 2) J <| aA (cI (((i + 1 : Nat) : Int)) (aU J J om) om) J <| Um J J <| Wn <| aF <| ⟨⟨i + 1, (n + 1 + 10 + 3), (n + 1 + 10 + 9), al ++ [(kd (row.set i (xadd (row.getD i default) (xint 1))).length, (row.set i (xadd (row.getD i default) (xint 1))))], bl ++ [nx (ch ss i (st.getD i default).toNat).1]⟩, ⟨rfl, rfl, rfl, congrArg some (by rw [List.map_append]; exact outV_snoc.symm), congrArg some (by rw [List.map_append]; exact outV_snoc.symm), rfl, rfl, rfl, trivial⟩, by dsimp only; rw [List.map_append, List.map_append]; simp only [List.map_cons, List.map_nil]; rw [iS, iS]; exact ⟨gG, gG, gG, cR hnd (by intro q o hq'; have := hlt q o hq'; repeat (first | exact hq' | refine g1 om ?_))⟩, ⟨om, by rw [List.length_append]; show al.length + 1 = _; omega, by rw [List.length_append]; show bl.length + 1 = _; omega, fun a ha => ?_, fun r hr => ?_, fun x hx => ?_, om, om, om, om, om, om⟩, by show ss.length - (i + 1) < ss.length - i; omega⟩
 ·by_cases e : a = i
  ·subst e
   rw [show (al ++ [(kd (row.set a (xadd (row.getD a default) (xint 1))).length, (row.set a (xadd (row.getD a default) (xint 1))))]).getD a default = (kd (row.set a (xadd (row.getD a default) (xint 1))).length, (row.set a (xadd (row.getD a default) (xint 1)))) by rw [← hal]; simp [List.getD_eq_getElem?_getD], show (bl ++ [nx (ch ss a (st.getD a default).toNat).1]).getD a default = nx (ch ss a (st.getD a default).toNat).1 by rw [← hbl]; simp [List.getD_eq_getElem?_getD]]
   exact ⟨hrowok.1, rfl, rfl⟩
  ·rw [show (al ++ [(kd (row.set i (xadd (row.getD i default) (xint 1))).length, (row.set i (xadd (row.getD i default) (xint 1))))]).getD a default = al.getD a default by simp only [List.getD_eq_getElem?_getD]; rw [List.getElem?_append_left om], show (bl ++ [nx (ch ss i (st.getD i default).toNat).1]).getD a default = bl.getD a default by simp only [List.getD_eq_getElem?_getD]; rw [List.getElem?_append_left om]]
   exact hrows a om
 ·rcases List.mem_append.1 hr with h | h
  ·exact hba r h
  ·rw [List.mem_singleton] at h; subst h
   exact fun x hx => hrowok.2 _ (List.mem_map.2 ⟨x, hx, rfl⟩)
 ·rcases List.mem_append.1 hx with h | h
  ·exact hbb x h
  ·rw [List.mem_singleton] at h; subst h
   exact hrw.bd.mono (by decide)
theorem worth_run (k ks : Nat) (ss : List Go.Ab.ST) (d : X) (st : List Int) (hV : VMo ss = true) (hd : Bd 2 d.1) (hd0 : 0 < d.1) (hd1 : d.1 < 1) (hst : vSt ss st = true) :
  ∃ r, Run Tryz.prog T E0 (.call 71 [lvMo k ss, lvX d, .sl ks (st.map ic)] r) ∧ ∃ xs : List X, r = .sl 1 (xs.map xc) ∧ xs.length = ss.length ∧ WV ss d.1 st (vl xs) ∧ ∀ x, x ∈ xs → Bd 268435456 x.1 := by
 refine eU Tryz.func71 J J (dL J) <| (worth_wc 0 [] k ks ss d st trivial (by intro q o hq; simp [getH] at hq) hV hd hd0 hd1 hst).mono ?_
 rintro x e h n ⟨hx, _, xs, hr, hl, hw, hb, _⟩
 exact ⟨.sl 1 (xs.map xc), ⟨xs, rfl, hl, hw, hb⟩, post (n := n) hx hr J (.sl _ _ fun row hr => cL dxc row hr)⟩
end Go.Proofs.YtahljdjhhapngaaGreat
namespace Go.Proofs.YtahljdjhhapngaaGreat
open Go.Ab Go.RowKit
theorem g0' {h : Hp} {q : Nat} {a b : Ob} (h1 : getH h q = some a) (h2 : a = b) : getH h q = some b := by rw [h1, h2]
theorem four_set {a b c d : Nat} {o1 o2 o2' o3 o4 : Ob} {h' : Hp} (hq : getH h' b = some o2') (hf : ∀ q o, q ≠ b → getH [(a, o1), (b, o2), (c, o3), (d, o4)] q = some o → getH h' q = some o) (h1 : a ≠ b) (h3 : c ≠ b) (h4 : d ≠ b) : ∀ q o, getH [(a, o1), (b, o2'), (c, o3), (d, o4)] q = some o → getH h' q = some o := by
 intro q o h
 by_cases e : b = q
 ·subst e
  rw [g1 h1 g0] at h
  rw [hq]; exact h
 ·refine hf q o (fun h => e h.symm) ?_
  by_cases e1 : a = q
  ·subst e1; rw [g0] at h ⊢; exact h
  ·rw [g1 e1 rfl, g1 e rfl] at h ⊢; exact h
theorem answer_share (n0 : Nat) (hn0 : 9 ≤ n0) (k : Nat) (ss : List Go.Ab.ST) (d : X) (st : List Int) (hV : VMo ss = true) (hd : Bd 2 d.1) (hd0 : 0 < d.1) (hd1 : d.1 < 1) (hst : vSt ss st = true) : WC Tryz.prog T E0 Tryz.f96.ntmps (codeOf Tryz.f96) (argsEnv 0 ([] ++ [] ++ [.ptr 0 0, .ptr (0 + 1) 0, .ptr (0 + 3 + 4) 0])) [((0 + 3 + 4), { cells := [.ref (0 + 3 + 3) 1 0 ss.length], sz := 1, elem := (33), st := 0 }), ((0 + 3 + 3), { cells := ((st).map ic).flatten, sz := 1, elem := (3), st := 0 }), ((0 + 1), { cells := xc (d), sz := 4, elem := (102), st := 0 }), (0, { cells := [.sl k (ss.map stc)], sz := 1, elem := (24), st := 0 })] n0 (fun x e' h' n' => (x = .normal ∨ x = .ret) ∧ n0 ≤ n' ∧ ∃ (s' : List Int) (xs : List X), resE e' T h' Tryz.f96.results.toList = some [.sl 1 (xs.map xc)] ∧ vSt ss s' = true ∧ xs.length = ss.length ∧ WV ss d.1 s' (vl xs) ∧ NoImp ss d.1 1 (vl xs) ∧ (∀ j, j < ss.length → (ss.getD j default).1.1 ≠ 1 → s'.getD j default = st.getD j default) ∧ (∀ x, x ∈ xs → Bd 268435456 x.1) ∧ ∀ q o, getH [((0 + 3 + 4), { cells := [.ref (0 + 3 + 3) 1 0 ss.length], sz := 1, elem := (33), st := 0 }), ((0 + 3 + 3), { cells := ((s').map ic).flatten, sz := 1, elem := (3), st := 0 }), ((0 + 1), { cells := xc (d), sz := 4, elem := (102), st := 0 }), (0, { cells := [.sl k (ss.map stc)], sz := 1, elem := (24), st := 0 })] q = some o → getH h' q = some o) := by
 have hD := kG hV hd0 hd1
 have hn40 := (iZ hV).wt.len
 obtain ⟨μ, M, hM, hμ⟩ := rank1 hD
 change WC _ _ _ _ _ [(0, .ptr 0 0), (1, .ptr (0 + 1) 0), (2, .ptr (0 + 3 + 4) 0)] _ _ _
 refine Rg 1 J <| Ua J J <| Wn <| cA <| bC (α := (List Int)) (fun s => [(0, .ptr 0 0), (1, .ptr (0 + 1) 0), (2, .ptr (0 + 3 + 4) 0)]) (fun s => [((0 + 3 + 4), { cells := [.ref (0 + 3 + 3) 1 0 ss.length], sz := 1, elem := (33), st := 0 }), ((0 + 3 + 3), { cells := ((s).map ic).flatten, sz := 1, elem := (3), st := 0 }), ((0 + 1), { cells := xc (d), sz := 4, elem := (102), st := 0 }), (0, { cells := [.sl k (ss.map stc)], sz := 1, elem := (24), st := 0 })]) (fun s n => vSt ss s = true ∧ (∀ j, j < ss.length → (ss.getD j default).1.1 ≠ 1 → s.getD j default = st.getD j default) ∧ n0 ≤ n) (fun s => μ s) (st) ⟨J, J, J, trivial⟩ ⟨gG, gG, gG, gG, trivial⟩ ⟨hst, fun _ _ _ => rfl, om⟩ ?_
 rintro s n hF
 change WC _ _ _ _ _ (_ :: _) (_ :: _) n _
 obtain ⟨hs, hsame, hn⟩ := hF
 refine cA <| lW (z := 5) J <| gO (aM (l := lvMo k ss) J J gG J J) J ?_
 refine gO (aM (l := lvX d) J J gG J J) J ?_
 refine gO (aM (l := .ref (0 + 3 + 3) 1 0 ss.length) J J gG J J) J ?_
 refine WN.G (ls := [lvMo k ss, lvX d, .ref (0 + 3 + 3) 1 0 ss.length]) (Φ := fun r h' n' => ∃ xs : List X, r = .sl 1 (xs.map xc) ∧ xs.length = ss.length ∧ WV ss d.1 s (vl xs) ∧ (∀ x, x ∈ xs → Bd 268435456 x.1) ∧ n + 5 ≤ n' ∧ ∀ q o, getH [((0 + 3 + 4), { cells := [.ref (0 + 3 + 3) 1 0 ss.length], sz := 1, elem := (33), st := 0 }), ((0 + 3 + 3), { cells := ((s).map ic).flatten, sz := 1, elem := (3), st := 0 }), ((0 + 1), { cells := xc (d), sz := 4, elem := (102), st := 0 }), (0, { cells := [.sl k (ss.map stc)], sz := 1, elem := (24), st := 0 })] q = some o → getH h' q = some o) J Tryz.func71 J J (dL J) J ((worth_share (n + 5) [((0 + 3 + 4), { cells := [.ref (0 + 3 + 3) 1 0 ss.length], sz := 1, elem := (33), st := 0 }), ((0 + 3 + 3), { cells := ((s).map ic).flatten, sz := 1, elem := (3), st := 0 }), ((0 + 1), { cells := xc (d), sz := 4, elem := (102), st := 0 }), (0, { cells := [.sl k (ss.map stc)], sz := 1, elem := (24), st := 0 })] k ss d s (0 + 3 + 3) ⟨gG, gG, gG, gG, trivial⟩ (qW om om om om) gG hV hd hd0 hd1 hs).mono (by rintro x e h n' ⟨hx, h1, xs, hr, h2, h3, h4, h5⟩; exact ⟨hx, _, hr, xs, rfl, h2, h3, h4, h1, h5⟩)) ?_
 rintro r' h' n' ⟨xs, rfl, hxl, hwv, hxb, hn', hH⟩
 refine nO [((0 + 3 + 4), { cells := [.ref (0 + 3 + 3) 1 0 ss.length], sz := 1, elem := (33), st := 0 }), ((0 + 3 + 3), { cells := ((s).map ic).flatten, sz := 1, elem := (3), st := 0 }), ((0 + 1), { cells := xc (d), sz := 4, elem := (102), st := 0 }), (0, { cells := [.sl k (ss.map stc)], sz := 1, elem := (24), st := 0 })] ⟨hH _ _ gG, hH _ _ gG, hH _ _ gG, hH _ _ gG, trivial⟩ ?_
 refine gO (jJ J) J <| lF <| lW (z := 6) J <| gO (aM (l := lvMo k ss) J J gG J J) J ?_
 refine gO (aM (l := lvX d) J J gG J J) J ?_
 refine gO (eW J) J <| gO (aM (l := .ref (0 + 3 + 3) 1 0 ss.length) J J gG J J) J ?_
 refine WN.G (ls := [lvMo k ss, lvX d, .sl 1 (xs.map xc), .ref (0 + 3 + 3) 1 0 ss.length, .v (.int .i64 1)]) (Φ := fun r h' m' => ∃ (b : Bool) (s2 : List Int), r = .v (.bool b) ∧ (∀ q o, getH [((0 + 3 + 4), { cells := [.ref (0 + 3 + 3) 1 0 ss.length], sz := 1, elem := (33), st := 0 }), ((0 + 3 + 3), { cells := ((s2).map ic).flatten, sz := 1, elem := (3), st := 0 }), ((0 + 1), { cells := xc (d), sz := 4, elem := (102), st := 0 }), (0, { cells := [.sl k (ss.map stc)], sz := 1, elem := (24), st := 0 })] q = some o → getH h' q = some o) ∧ m' ≥ n' + 6 ∧ (b = false → s2 = s ∧ NoImp ss d.1 1 (vl xs)) ∧ (b = true → ∃ i j : Nat, i < ss.length ∧ (ss.getD i default).1.1 = 1 ∧ j < (ss.getD i default).2.2.length ∧ btr 1 (yl d.1 (ch ss i j) (vl xs)) (vl xs i) ∧ s2 = s.set i (j : Int))) J Tryz.func97 J J (dL J) J ((lM (n' + 6) [((0 + 3 + 4), { cells := [.ref (0 + 3 + 3) 1 0 ss.length], sz := 1, elem := (33), st := 0 }), ((0 + 3 + 3), { cells := ((s).map ic).flatten, sz := 1, elem := (3), st := 0 }), ((0 + 1), { cells := xc (d), sz := 4, elem := (102), st := 0 }), (0, { cells := [.sl k (ss.map stc)], sz := 1, elem := (24), st := 0 })] k 1 ss d xs s 1 (0 + 3 + 3) ⟨gG, gG, gG, gG, trivial⟩ (qW om om om om) gG hV hd hxl (gW hs) 268435456 (by decide) (by decide) hxb).mono (by
  rintro x e h n' ⟨hx, h1, (⟨hr, hni, h2⟩ | ⟨i, j, hr, hi, ho, hj, hb, hq, h2⟩)⟩
  ·exact ⟨hx, _, hr, false, s, rfl, h2, h1, fun _ => ⟨rfl, hni⟩, fun h => by cases h⟩
  ·exact ⟨hx, _, hr, true, _, rfl, four_set hq (fun q o hq => h2 q o hq) om om om, h1, fun h => (by cases h), fun _ => ⟨i, j, hi, ho, hj, hb, rfl⟩⟩)) ?_
 rintro r' h' m' ⟨b, s2, rfl, hH, hm', hbF, hbT⟩
 refine nO [((0 + 3 + 4), { cells := [.ref (0 + 3 + 3) 1 0 ss.length], sz := 1, elem := (33), st := 0 }), ((0 + 3 + 3), { cells := ((s2).map ic).flatten, sz := 1, elem := (3), st := 0 }), ((0 + 1), { cells := xc (d), sz := 4, elem := (102), st := 0 }), (0, { cells := [.sl k (ss.map stc)], sz := 1, elem := (24), st := 0 })] ⟨hH _ _ gG, hH _ _ gG, hH _ _ gG, hH _ _ gG, trivial⟩ ?_
 refine WN.B (fun h13 => ?_) (fun h13 => ?_)
 rotate_left
 ·refine gO (eG J) J <| lF <| bW J <| Rg 2 J <| Um J J <| Ua J J <| Nk [3] J <| aP <| dQ <| bJ <| dQ ?_
  obtain ⟨rfl, hni⟩ := hbF h13
  exact ⟨.inr J, om, s2, xs, rfl, hs, hxl, hwv, hni, hsame, hxb, fun q o hq => hq⟩
 refine gO (eG J) J <| lF <| bX J <| cP <| cE <| aF ?_
 obtain ⟨i, j, hi, ho, hj, hb, rfl⟩ := hbT h13
 unfold btr at hb
 rw [if_pos rfl] at hb
 have hs2 := vSt_set hs hj
 obtain ⟨_, _, ys, _, _, hys, _⟩ := worth_run k 0 ss d _ hV hd hd0 hd1 hs2
 obtain ⟨h5, h6⟩ := imp1 hD hs hi hj hwv hb hys
 refine ⟨s.set i (j : Int), ⟨J, J, J, trivial⟩, ⟨gG, gG, gG, gG, trivial⟩, ⟨hs2, fun a ha hoa => ?_, om⟩, hμ _ _ _ _ i hs2 hs hys hwv h5 hi h6⟩
 rw [lR (by rw [gW hs]; exact hi), if_neg (fun e => hoa (by rw [← e]; exact ho))]
 exact hsame a ha hoa
theorem values_run (k : Nat) (ss : List Go.Ab.ST) (d : X) (hV : VMo ss = true) (hd : Bd 2 d.1) (hd0 : 0 < d.1) (hd1 : d.1 < 1) : ∃ r, Run Tryz.prog T E0 (.call 60 [lvMo k ss, lvX d] r) ∧ ∃ (st : List Int) (xs : List X), r = .sl 1 (xs.map xc) ∧ vSt ss st = true ∧ xs.length = ss.length ∧ WV ss d.1 st (vl xs) ∧ Val ss d.1 (vl xs) ∧ ∀ x, x ∈ xs → Bd 268435456 x.1 := by
 have hD := kG hV hd0 hd1
 have hV1 := iZ hV
 have hn40 := hV1.wt.len
 obtain ⟨μ, M, hM, hμ⟩ := rank0 hD
 have hz0 : vSt ss (List.replicate ss.length 0) = true := by
  unfold vSt
  rw [decide_eq_true (by simp), Bool.true_and]
  refine jS fun i hi => ?_
  rw [List.length_replicate] at hi
  have := hV1.cs _ (bG (us := ss) hi)
  rw [show (List.replicate ss.length (0 : Int)).getD i default = 0 by rw [List.getD_eq_getElem?_getD, List.getElem?_replicate, if_pos hi]; rfl, decide_eq_true (by decide), decide_eq_true om]; rfl
 refine eU Tryz.func60 J J (dL J) <| Rg 3 J <| bD (dW J J) J <| bD (dW J J) J <| Ua J J <| Wn <| Rg 6 J <| aA (bA J J J J J) J <| aA (aM J J gG J J) J ?_
 refine aA (bB J J) J <| bD (oMk (a := ss.length) (b := ss.length) J J J J (by simp) (by simp) (by decide) om (by show 8 * ss.length ≤ _; omega) om) J <| bD (eC J) J <| aZ (cB (cs' := [_]) J J J g0 J J J J) <| Wn <| Rg 2 J <| aA (oMf J) J <| Ua J J <| Wn <| cA <| bC (α := (List Int) × Nat) (fun ⟨s, g⟩ => [(2, .ptr 0 0), (3, .ptr (0 + 1) 0), (5, .ptr (0 + 3 + 4) 0), (6, .fn (.func 96) [] [.ptr 0 0, .ptr (0 + 1) 0, .ptr (0 + 3 + 4) 0])]) (fun ⟨s, g⟩ => [((0 + 3 + 4), { cells := [.ref (0 + 3 + 3) 1 0 ss.length], sz := 1, elem := (33), st := 0 }), ((0 + 3 + 3), { cells := ((s).map ic).flatten, sz := 1, elem := (3), st := 0 }), ((0 + 1), { cells := xc (d), sz := 4, elem := (102), st := 0 }), (0, { cells := [.sl k (ss.map stc)], sz := 1, elem := (24), st := 0 })]) (fun ⟨s, g⟩ n => vSt ss s = true ∧ (∀ (s2 : List Int) (u : Nat → Rat), vSt ss s2 = true → WV ss d.1 s2 u → NoImp ss d.1 1 u → (∀ j, j < ss.length → (ss.getD j default).1.1 ≠ 1 → s2.getD j default = s.getD j default) → μ s2 < g) ∧ 9 ≤ n) (fun ⟨s, g⟩ => g) (List.replicate ss.length 0, M) ⟨J, J, J, J, trivial⟩ ⟨gG, g0' gG (by rw [List.map_replicate]; rfl), gG, gG, trivial⟩ ⟨hz0, fun s2 _ _ _ _ _ => hM s2, om⟩ ?_
 rintro ⟨s, g⟩ n hF
 change WC _ _ _ _ _ (_ :: _) (_ :: _) n _
 obtain ⟨hs, hfu, hn⟩ := hF
 refine cA <| lW (z := 3) J <| gO (eW J) J <| WN.Gv (first := []) (cap := [.ptr 0 0, .ptr (0 + 1) 0, .ptr (0 + 3 + 4) 0]) (ls := []) (Φ := fun r h' n' => ∃ (s' : List Int) (xs : List X), r = .sl 1 (xs.map xc) ∧ vSt ss s' = true ∧ xs.length = ss.length ∧ WV ss d.1 s' (vl xs) ∧ NoImp ss d.1 1 (vl xs) ∧ (∀ j, j < ss.length → (ss.getD j default).1.1 ≠ 1 → s'.getD j default = s.getD j default) ∧ (∀ x, x ∈ xs → Bd 268435456 x.1) ∧ n + 3 ≤ n' ∧ ∀ q o, getH [((0 + 3 + 4), { cells := [.ref (0 + 3 + 3) 1 0 ss.length], sz := 1, elem := (33), st := 0 }), ((0 + 3 + 3), { cells := ((s').map ic).flatten, sz := 1, elem := (3), st := 0 }), ((0 + 1), { cells := xc (d), sz := 4, elem := (102), st := 0 }), (0, { cells := [.sl k (ss.map stc)], sz := 1, elem := (24), st := 0 })] q = some o → getH h' q = some o) J J Tryz.func96 J J (dL J) J ((answer_share (n + 3) om k ss d s hV hd hd0 hd1 hs).mono (by rintro x e h n' ⟨hx, h1, s', xs, hr, h2, h3, h4, h5, h6, h7, h8⟩; exact ⟨hx, _, hr, s', xs, rfl, h2, h3, h4, h5, h6, h7, h1, h8⟩)) ?_
 rintro r' h' n' ⟨s', xs, rfl, hs', hxl, hwv, hn1, hsame, hxb, hn', hH⟩
 refine nO [((0 + 3 + 4), { cells := [.ref (0 + 3 + 3) 1 0 ss.length], sz := 1, elem := (33), st := 0 }), ((0 + 3 + 3), { cells := ((s').map ic).flatten, sz := 1, elem := (3), st := 0 }), ((0 + 1), { cells := xc (d), sz := 4, elem := (102), st := 0 }), (0, { cells := [.sl k (ss.map stc)], sz := 1, elem := (24), st := 0 })] ⟨hH _ _ gG, hH _ _ gG, hH _ _ gG, hH _ _ gG, trivial⟩ ?_
 refine gO (jJ J) J <| lF <| lW (z := 6) J <| gO (aM (l := lvMo k ss) J J gG J J) J ?_
 refine gO (aM (l := lvX d) J J gG J J) J ?_
 refine gO (eW J) J <| gO (aM (l := .ref (0 + 3 + 3) 1 0 ss.length) J J gG J J) J ?_
 refine WN.G (ls := [lvMo k ss, lvX d, .sl 1 (xs.map xc), .ref (0 + 3 + 3) 1 0 ss.length, .v (.int .i64 0)]) (Φ := fun r h' m' => ∃ (b : Bool) (s2 : List Int), r = .v (.bool b) ∧ (∀ q o, getH [((0 + 3 + 4), { cells := [.ref (0 + 3 + 3) 1 0 ss.length], sz := 1, elem := (33), st := 0 }), ((0 + 3 + 3), { cells := ((s2).map ic).flatten, sz := 1, elem := (3), st := 0 }), ((0 + 1), { cells := xc (d), sz := 4, elem := (102), st := 0 }), (0, { cells := [.sl k (ss.map stc)], sz := 1, elem := (24), st := 0 })] q = some o → getH h' q = some o) ∧ m' ≥ n' + 6 ∧ (b = false → s2 = s' ∧ NoImp ss d.1 0 (vl xs)) ∧ (b = true → ∃ i j : Nat, i < ss.length ∧ (ss.getD i default).1.1 = 0 ∧ j < (ss.getD i default).2.2.length ∧ btr 0 (yl d.1 (ch ss i j) (vl xs)) (vl xs i) ∧ s2 = s'.set i (j : Int))) J Tryz.func97 J J (dL J) J ((lM (n' + 6) [((0 + 3 + 4), { cells := [.ref (0 + 3 + 3) 1 0 ss.length], sz := 1, elem := (33), st := 0 }), ((0 + 3 + 3), { cells := ((s').map ic).flatten, sz := 1, elem := (3), st := 0 }), ((0 + 1), { cells := xc (d), sz := 4, elem := (102), st := 0 }), (0, { cells := [.sl k (ss.map stc)], sz := 1, elem := (24), st := 0 })] k 1 ss d xs s' 0 (0 + 3 + 3) ⟨gG, gG, gG, gG, trivial⟩ (qW om om om om) gG hV hd hxl (gW hs') 268435456 (by decide) (by decide) hxb).mono (by
  rintro x e h n' ⟨hx, h1, (⟨hr, hni, h2⟩ | ⟨i, j, hr, hi, ho, hj, hb, hq, h2⟩)⟩
  ·exact ⟨hx, _, hr, false, s', rfl, h2, h1, fun _ => ⟨rfl, hni⟩, fun h => by cases h⟩
  ·exact ⟨hx, _, hr, true, _, rfl, four_set hq (fun q o hq => h2 q o hq) om om om, h1, fun h => (by cases h), fun _ => ⟨i, j, hi, ho, hj, hb, rfl⟩⟩)) ?_
 rintro r' h' m' ⟨b, s2, rfl, hH, hm', hbF, hbT⟩
 refine nO [((0 + 3 + 4), { cells := [.ref (0 + 3 + 3) 1 0 ss.length], sz := 1, elem := (33), st := 0 }), ((0 + 3 + 3), { cells := ((s2).map ic).flatten, sz := 1, elem := (3), st := 0 }), ((0 + 1), { cells := xc (d), sz := 4, elem := (102), st := 0 }), (0, { cells := [.sl k (ss.map stc)], sz := 1, elem := (24), st := 0 })] ⟨hH _ _ gG, hH _ _ gG, hH _ _ gG, hH _ _ gG, trivial⟩ ?_
 refine WN.B (fun h19 => ?_) (fun h19 => ?_)
 ·refine gO (eG J) J <| lF <| bX J <| cP <| cE <| aF ?_
  obtain ⟨i, j, hi, ho, hj, hb, rfl⟩ := hbT h19
  unfold btr at hb
  rw [if_neg (by decide)] at hb
  refine ⟨⟨s'.set i (j : Int), μ s'⟩, ⟨J, J, J, J, trivial⟩, ⟨gG, gG, gG, gG, trivial⟩, ⟨vSt_set hs' hj, fun s2 u h1 h2 h3 h4 => ?_, om⟩, hfu s' _ hs' hwv hn1 hsame⟩
  obtain ⟨h5, h6⟩ := imp0 hD hs' h1 hi om hj hwv hn1 hb h4 h2
  exact hμ _ _ _ _ i h1 hs' h2 hwv h5 hi h6
 refine gO (eG J) J <| lF <| bW J <| Rg 2 J <| Um J J <| Ua J J <| Nk [4] J <| aP <| dQ <| bJ <| dQ ?_
 obtain ⟨rfl, hn0⟩ := hbF h19
 exact ⟨.sl 1 (xs.map xc), ⟨s2, xs, rfl, hs', hxl, hwv, val_of (fun x hx => by have := hV1.own x hx; omega) hs' hwv hn0 hn1, hxb⟩, post (n := 0) (.inr J) J J (.sl _ _ fun row hr => cL dxc row hr)⟩
end Go.Proofs.YtahljdjhhapngaaGreat
namespace Go.Proofs.YtahljdjhhapngaaGreat
open Go.Ab Go.RowKit
theorem mW {ns : List NM} (h : (ns.any fun a => !vn a) = false) : ns.all vn = true := by
 rw [← any_not, h]; rfl
theorem xyl_v' {x : Go.Ab.ST} {d : X} {vx : List X} {k : Nat} : (xyl (x.2.2.getD k default) d vx).1 = ysF x d.1 (vl vx) k := xyl_v _ _ _
theorem e86 {h : Hp} {q : Nat} {a b : Ob} (h1 : getH h q = some a) (h2 : a = b) : getH h q = some b := by rw [h1, h2]
theorem best_run (x : Go.Ab.ST) (d : X) (kv : Nat) (vx : List X) (n0 : Nat) (hcs : 1 ≤ x.2.2.length ∧ x.2.2.length ≤ 8) (hvb : ∀ c, c ∈ x.2.2 → VN c.1 ∧ VB n0 c.2.2) (hd : Bd 2 d.1) (hl : vx.length = n0) (β : Nat) (h1β : 1 ≤ β) (hβ : β ≤ 2147483648) (hv : ∀ x, x ∈ vx → Bd β x.1) : Run Tryz.prog T E0 (.call 62 [.agg (stc x), lvX d, .sl kv (vx.map xc)] (.tup [lvX (xyl (x.2.2.getD (bsK x d.1 (vl vx)) default) d vx), .v (.int .i64 ((bsK x d.1 (vl vx) : Nat) : Int))])) := by
 refine bH Tryz.func62 J J (dL J) <| Rg 4 J <| bD (dW J J) J <| bD (dW J J) J <| bD (eC J) J <| Ua J J <| Wn <| Rg 4 J <| aA (bA J J J J J) J <| aA (aM J J gG J J) J ?_
 refine aA (aK J (wants_run x.1.1) (bY (by intro c hc; simp only [List.mem_cons, List.not_mem_nil, or_false] at hc; rcases hc with rfl; exact .v _))) J <| Ua J J <| cQ ?_
 have h0m := bG (us := x.2.2) (i := 0) om
 obtain ⟨hr0, hb0⟩ := hvb _ h0m
 refine bL (z := 10) J kR <| aC (bA J J J J J) J <| aC (aM J J gG J J) J ?_
 refine aC (bQ (j := 0) J J J J J om J) J <| aC (dJ (l := lvC (x.2.2.getD 0 default)) J J J) J <| aC (aM (l := lvX d) J J gG J J) J ?_
 refine Dm J J <| aC (aK J (pT (x.2.2.getD 0 default) d kv vx n0 hr0 hb0 hd hl β h1β hβ hv) (bY (by intro c hc; simp only [List.mem_cons, List.not_mem_nil, or_false] at hc; rcases hc with rfl | rfl | rfl; exact dc1; exact dc1; exact (.sl _ _ fun row hr => cL dxc row hr)))) J <| qM (eC J) J <| cC (cB (cs' := xc (xyl (x.2.2.getD 0 default) d vx)) J J J g0 J J J J) <| aC (jJ J) J <| bE (aQ kR) J <| Ck [2,3,4,6,8,9,10] J <| aB <| Rg 4 J <| aA (bA J J J J J) J <| aA (aM J J gG J J) J ?_
 refine aA (bB J J) J <| Um J J <| Wn <| aL <| bC (α := Nat) (fun i => [(2, .sl kv (vx.map xc)), (4, .ptr (0 + 1) 0), (6, .ptr (0 + 2) 0), (8, .fn (.func (if x.1.1 = 1 then 122 else 76)) [] []), (9, .ptr (0 + 4 + 4 + 7) 0), (10, .v (.int .i64 (((bkF x.1.1 (ysF x d.1 (vl vx)) i) : Nat) : Int))), (26, .sl x.2.1 (x.2.2.map chc)), (27, .v (.int .i64 (x.2.2.length : Int))), (28, .v (.int .i64 (i : Int)))]) (fun i => [((0 + 4 + 4 + 7), { cells := xc (xyl (x.2.2.getD (bkF x.1.1 (ysF x d.1 (vl vx)) i) default) d vx), sz := 4, elem := (102), st := 0 }), ((0 + 2), { cells := xc (x0), sz := 4, elem := (102), st := 0 }), ((0 + 1), { cells := xc (d), sz := 4, elem := (102), st := 0 })]) (fun i n => i ≤ x.2.2.length ∧ 20 ≤ n) (fun i => x.2.2.length - i) (0) ⟨J, J, J, J, J, J, J, J, J, trivial⟩ ⟨gG, gG, gG, trivial⟩ ⟨Nat.zero_le _, om⟩ ?_
 rintro i n hF
 change WC _ _ _ _ _ (_ :: _) (_ :: _) n _
 obtain ⟨hi, hn⟩ := hF
 refine Rg 1 J <| aA (bP J J) J <| aY (fun h29 => ?_) (fun h29 => ?_)
 rotate_left
 ·refine Wn <| aV J <| aW <| aT <| aR J <| Rg 4 J <| aA (aM (l := lvX (xyl (x.2.2.getD (bkF x.1.1 (ysF x d.1 (vl vx)) i) default) d vx)) J J gG J J) J ?_
  refine Um J J <| aZ (cB (cs' := xc (xyl (x.2.2.getD (bkF x.1.1 (ysF x d.1 (vl vx)) i) default) d vx)) J J J gG J J J J) ?_
  refine Ua J J <| Wn <| aP ?_
  have hin : i = x.2.2.length := by omega
  subst hin
  refine post (n := 0) (.inr J) J J (.tup _ ?_)
  intro c hc
  simp only [List.mem_cons, List.not_mem_nil, or_false] at hc
  rcases hc with rfl | rfl
  ·exact dc1
  ·exact .v _
 refine Wn <| aS J <| aE <| aL ?_
 have him := bG (us := x.2.2) (i := i) om
 obtain ⟨hri, hbi⟩ := hvb _ him
 have hyb := xyl_bd hri hbi hd h1β hv
 have hbl : (bkF x.1.1 (ysF x d.1 (vl vx)) i) < x.2.2.length := by
  rcases Nat.eq_zero_or_pos i with h | h
  ·rw [h]; show 0 < _; omega
  ·have := bkF_lt (p := x.1.1) (ys := (ysF x d.1 (vl vx))) i h; omega
 obtain ⟨hrb, hbb⟩ := hvb _ (bG (us := x.2.2) hbl)
 have hyb2 := xyl_bd hrb hbb hd h1β hv
 refine Rg 6 J <| Um J J <| aA (bQ J J J J J om J) J <| aA (dJ (l := lvC (x.2.2.getD i default)) J J J) J <| bD (eC J) J <| Ua J J <| aZ (cB (cs' := chc (x.2.2.getD i default)) J J J g0 J J J J) <| Nk [2,4,6,8,9,10,11,12,26,27,28] J <| Rg 6 J <| aA (aM (l := lvC (x.2.2.getD i default)) J J gG J J) J ?_
 refine aA (aM (l := lvX d) J J gG J J) J ?_
 refine Um J J <| aA (aK J (pT (x.2.2.getD i default) d kv vx n0 hri hbi hd hl β h1β hβ hv) (bY (by intro c hc; simp only [List.mem_cons, List.not_mem_nil, or_false] at hc; rcases hc with rfl | rfl | rfl; exact dc1; exact dc1; exact (.sl _ _ fun row hr => cL dxc row hr)))) J <| bD (eC J) J <| aZ (cB (cs' := xc (xyl (x.2.2.getD i default) d vx)) J J J g0 J J J J) <| Nk [2,4,6,8,9,10,11,13,26,27,28] J <| aB <| Rg 5 J <| Um J J <| aA (aM (l := lvX (xyl (x.2.2.getD i default) d vx)) J J gG J J) J ?_
 refine aA (aM (l := lvX (xyl (x.2.2.getD (bkF x.1.1 (ysF x d.1 (vl vx)) i) default) d vx)) J J gG J J) J ?_
 refine aA (oCallVD J J (cmpf_run x.1.1 (xyl (x.2.2.getD i default) d vx) (xyl (x.2.2.getD (bkF x.1.1 (ysF x d.1 (vl vx)) i) default) d vx) (hyb.mono om) (hyb2.mono om)) (data3 d0 (by intro c hc; simp only [List.mem_cons, List.not_mem_nil, or_false] at hc; rcases hc with rfl | rfl; exact dc1; exact dc1) d0)) J <| Ua J J <| Nk [2,4,6,8,9,10,11,13,14,26,27,28] J <| aL <| aL <| cA <| aB <| aB <| Rg 3 J <| Um J J <| aA (fJ J J) J <| aY (fun h43 => ?_) (fun h43 => ?_)
 ·refine Ua J J <| Nk [2,4,6,8,9,10,11,13,14,26,27,28,41] J <| aS J <| aW <| fE J <| aG <| aW <| lG J <| aR J <| aI (z := 2) J <| aA (cI (((i + 1 : Nat) : Int)) (aU J J om) om) J <| Um J J <| Wn <| aF ?_
  have eb : (bkF x.1.1 (ysF x d.1 (vl vx)) (i + 1)) = (bkF x.1.1 (ysF x d.1 (vl vx)) i) := by rw [show i = 0 by omega, bkF_one]; rfl
  refine ⟨i + 1, ⟨rfl, rfl, rfl, rfl, rfl, congrArg (fun z : Nat => some (LV.v (.int .i64 (z : Int)))) eb.symm, rfl, rfl, rfl, trivial⟩, ⟨e86 gG (by rw [eb]), gG, gG, trivial⟩, ⟨om, om⟩, by show x.2.2.length - (i + 1) < x.2.2.length - i; omega⟩
 refine Ua J J <| Nk [2,4,6,8,9,10,11,13,14,26,27,28,41] J <| aV J <| aE <| aB <| Rg 3 J <| Um J J <| aA (nD J J) J <| aY (fun h46 => ?_) (fun h46 => ?_)
 ·refine Ua J J <| Nk [2,4,6,8,9,10,11,13,26,27,28,44] J <| aS J <| aW <| gF J <| aR J <| aW <| lG J <| aR J <| aI (z := 2) J <| aA (cI (((i + 1 : Nat) : Int)) (aU J J om) om) J <| Um J J <| Wn <| aF ?_
  have eb : (bkF x.1.1 (ysF x d.1 (vl vx)) (i + 1)) = (bkF x.1.1 (ysF x d.1 (vl vx)) i) := bkF_no fun hb => by have := oN.2 hb; rw [← xyl_v', ← xyl_v'] at this; omega
  refine ⟨i + 1, ⟨rfl, rfl, rfl, rfl, rfl, congrArg (fun z : Nat => some (LV.v (.int .i64 (z : Int)))) eb.symm, rfl, rfl, rfl, trivial⟩, ⟨e86 gG (by rw [eb]), gG, gG, trivial⟩, ⟨om, om⟩, by show x.2.2.length - (i + 1) < x.2.2.length - i; omega⟩
 refine Ua J J <| Nk [2,4,6,8,9,10,11,13,26,27,28,44] J <| aV J <| aE <| qP <| gF J <| lG J <| aR J <| aI (z := 4) J <| aA (aM (l := lvX (xyl (x.2.2.getD i default) d vx)) J J gG J J) J ?_
 refine Um J J <| aZ (cB (cs' := xc (xyl (x.2.2.getD i default) d vx)) J J J gG J J J J) ?_
 refine Ua J J <| Wn <| aG <| aI (z := 2) J <| aA (cI (((i + 1 : Nat) : Int)) (aU J J om) om) J <| Um J J <| Wn <| aF ?_
 have eb : (bkF x.1.1 (ysF x d.1 (vl vx)) (i + 1)) = i := bkF_yes (by have h7 : 0 < sgnF x.1.1 (xyl (x.2.2.getD i default) d vx).1 (xyl (x.2.2.getD (bkF x.1.1 (ysF x d.1 (vl vx)) i) default) d vx).1 := om; have h8 := oN.1 h7; rwa [xyl_v', xyl_v'] at h8)
 refine ⟨i + 1, ⟨rfl, rfl, rfl, rfl, rfl, congrArg (fun z : Nat => some (LV.v (.int .i64 (z : Int)))) eb.symm, rfl, rfl, rfl, trivial⟩, ⟨e86 gG (by rw [eb]), gG, gG, trivial⟩, ⟨om, om⟩, by show x.2.2.length - (i + 1) < x.2.2.length - i; omega⟩
theorem askv_run (a : NM) (h1 : I64 a.1) (h2 : I64 a.2) : Run Tryz.prog T E0 (.call 93 [lvM a] (.v (.bool (!vn a)))) := by
 refine bH Tryz.func93 J J (dL J) <| Rg 2 J <| bD (dW J J) J <| Ua J J <| Wn <| Rg 4 J <| aA (aM (l := lvM a) J J gG J J) J ?_
 refine aA (aK J (kW a h1 h2) dD) J <| aA (eG J) J <| Ua J J <| Wn <| aP <| post (n := 0) (.inr J) J ?_ dD
 rfl
theorem dasked_run (k kn : Nat) (ss : List Go.Ab.ST) (f : NM) (ns : List NM) (hI : ∀ s, s ∈ ss → IS s) (hf1 : I64 f.1) (hf2 : I64 f.2) (hns : IV ns) (ln : ns.length < 1099511627776) : Run Tryz.prog T E0 (.call 58 [lvMo k ss, lvM f, .sl kn (ns.map mc)] (.v (.int .i64 (eD ss f ns)))) := by
 refine bH Tryz.func58 J J (dL J) <| Rg 3 J <| bD (dW J J) J <| bD (dW J J) J <| Ua J J <| Wn <| aL <| Rg 13 J <| aA (aM (l := lvMo k ss) J J gG J J) J ?_
 refine aA (aK J (mvmodel_run k ss hI) dD) J <| eK (fun h9 => ?_) (fun h9 => ?_)
 rotate_left
 ·refine aA (eG J) J <| Um J J <| K1 J J <| K1 J J <| K1 J J <| aA (bK J J) J <| Um J J <| K1 J J <| K1 J J <| aA (bK J J) J <| Ua J J <| Nk [4,7] J <| bW J <| Rg 1 J <| Ua J J <| Wn <| aP <| aN <| post (n := 0) (.inr J) J ?_ dD
  exact congrArg (fun z => LV.v (.int .i64 z)) (show 1 = (eD ss f ns) by unfold eD; rw [if_neg (fun h => by rw [h9] at h; cases h.1)])
 refine aA (eG J) J <| Um J J <| aJ J (aM (l := lvM f) J J gG J J) J ?_
 refine aJ J (aK J (kW f hf1 hf2) dD) J <| eK (fun h13 => ?_) (fun h13 => ?_)
 rotate_left
 ·refine aJ J (eG J) J <| aA (bM J J) J <| Um J J <| K1 J J <| K1 J J <| aA (bK J J) J <| Ua J J <| Nk [4,7] J <| bW J <| Rg 1 J <| Ua J J <| Wn <| aP <| aN <| post (n := 0) (.inr J) J ?_ dD
  exact congrArg (fun z => LV.v (.int .i64 z)) (show 1 = (eD ss f ns) by unfold eD; rw [if_neg (fun h => absurd h.2.1 (of_decide_eq_false h13))])
 refine aJ J (eG J) J <| aA (bM J J) J <| Um J J <| aJ J (eW J) J <| aJ J (aK J (con1_run kn ns 93 [] (fun a => !vn a) d0 om (fun a ha => askv_run a (hns a ha).1 (hns a ha).2)) (bY (by intro c hc; simp only [List.mem_cons, List.not_mem_nil, or_false] at hc; rcases hc with rfl | rfl; exact (.sl _ _ fun row hr => cL dmc row hr); exact dfn d0 d0))) J <| eK (fun h18 => ?_) (fun h18 => ?_)
 ·refine aA (bM J J) J <| Ua J J <| Nk [4,7] J <| bW J <| Rg 1 J <| Ua J J <| Wn <| aP <| aN <| post (n := 0) (.inr J) J ?_ dD
  exact congrArg (fun z => LV.v (.int .i64 z)) (show 1 = (eD ss f ns) by unfold eD; rw [if_neg (fun h => by have h7 := any_not vn ns; rw [h18, h.2.2] at h7; cases h7)])
 refine aA (bM J J) J <| Ua J J <| Nk [4,7] J <| bX J <| Rg 11 J <| aA (bA J J J J J) J <| aA (aM J J gG J J) J ?_
 refine aA (nD J J) J <| aY (fun h23 => ?_) (fun h23 => ?_)
 ·refine Um J J <| K1 J J <| K1 J J <| K1 J J <| K1 J J <| K1 J J <| aA (bK J J) J <| Ua J J <| Wn <| bW J <| Rg 1 J <| Ua J J <| Wn <| aP <| aN <| post (n := 0) (.inr J) J ?_ dD
  exact congrArg (fun z => LV.v (.int .i64 z)) (show 6 = (eD ss f ns) by unfold eD; rw [if_pos ⟨h9, of_decide_eq_true h13, mW h18⟩, if_neg om])
 refine Um J J <| aJ J (bA J J J J J) J <| aJ J (aM J J gG J J) J ?_
 refine aJ J (bA J J J J J) J <| aJ J (aM J J gG J J) J ?_
 refine aJ J (iH J J) J <| aY (fun h29 => ?_) (fun h29 => ?_)
 ·refine aA (bM J J) J <| Ua J J <| Wn <| bW J <| Rg 1 J <| Ua J J <| Wn <| aP <| aN <| post (n := 0) (.inr J) J ?_ dD
  exact congrArg (fun z => LV.v (.int .i64 z)) (show 6 = (eD ss f ns) by unfold eD; rw [if_pos ⟨h9, of_decide_eq_true h13, mW h18⟩, if_neg om])
 refine aA (bM J J) J <| Ua J J <| Wn <| bX J <| cP <| aG <| Rg 1 J <| Ua J J <| Wn <| aP <| post (n := 0) (.inr J) J ?_ dD
 exact congrArg (fun z => LV.v (.int .i64 z)) (show 0 = (eD ss f ns) by unfold eD; rw [if_pos ⟨h9, of_decide_eq_true h13, mW h18⟩, if_pos om])
end Go.Proofs.YtahljdjhhapngaaGreat
namespace Go.Proofs.YtahljdjhhapngaaGreat
open Go.Ab Go.RowKit
theorem qfactor_run (f : NM) : Run Tryz.prog T E0 (.call 23 [lvM f] (.v (.bool (decide (0 < f.1) && decide (f.1 < f.2))))) := by
 refine bH Tryz.func23 J J (dL J) <| Rg 2 J <| bD (dW J J) J <| Ua J J <| Wn <| Rg 11 J <| aA (bA J J J J J) J <| aA (aM J J gG J J) J ?_
 refine aA (dY J J) J <| aY (fun h5 => ?_) (fun h5 => ?_)
 ·refine Um J J <| aJ J (bA J J J J J) J <| aJ J (aM J J gG J J) J ?_
  refine aJ J (bA J J J J J) J <| aJ J (aM J J gG J J) J ?_
  refine aJ J (bP J J) J <| aA (bK J J) J <| Ua J J <| Wn <| aP <| post (n := 0) (.inr J) J ?_ dD
  exact congrArg (fun z => LV.v (.bool z)) (by simp; omega)
 refine Um J J <| K1 J J <| K1 J J <| K1 J J <| K1 J J <| K1 J J <| aA (bM J J) J <| Ua J J <| Wn <| aP <| post (n := 0) (.inr J) J ?_ dD
 exact congrArg (fun z => LV.v (.bool z)) (show false = _ by rw [decide_eq_false om]; rfl)
end Go.Proofs.YtahljdjhhapngaaGreat
namespace Go.Proofs.YtahljdjhhapngaaGreat
open Go.Ab Go.RowKit
theorem kT (k : Nat) (ss : List Go.Ab.ST) (f : NM) (hI : ∀ s, s ∈ ss → IS s) (hf1 : I64 f.1) (hf2 : I64 f.2) : Run Tryz.prog T E0 (.call 18 [lvMo k ss, lvM f] (dbO ss f)) := by
 refine bH Tryz.func18 J J (dL J) <| Rg 5 J <| bD (dW J J) J <| bD (dW J J) J <| Ua J J <| Ua J J <| Ua J J <| Wn <| aB <| Rg 4 J <| aA (aM (l := lvMo k ss) J J gG J J) J ?_
 refine aA (aM (l := lvM f) J J gG J J) J ?_
 refine aA (aK J (dasked_run k 0 ss f [] hI hf1 hf2 (by intro a ha; cases ha) (by decide)) (bY (by intro c hc; simp only [List.mem_cons, List.not_mem_nil, or_false] at hc; rcases hc with rfl | rfl | rfl; exact dc1; exact dc1; exact (.sl 0 [] (by simp))))) J <| Ua J J <| Wn <| aB <| Rg 2 J <| Um J J <| aA (fV J J) J <| aY (fun h19 => ?_) (fun h19 => ?_)
 ·refine Wn <| aS J <| aB <| Rg 4 J <| Um J J <| Ua J J <| Ua J J <| Ua J J <| Wn <| aX <| post (n := 0) (.inr J) J ?_ dbO_data
  show _ = dbO ss f
  unfold dbO; rw [if_neg h19]; rfl
 refine Wn <| aV J <| aE ?_
 have h0 := Classical.not_not.1 h19
 obtain ⟨hV, hvf, hall, hf0, hf3⟩ := eD_ok h0
 have hV1 := iZ hV
 have hn40 := hV1.wt.len
 have hd01 := fac01 hvf hf0 hf3
 have hD := kG hV hd01.1 hd01.2
 obtain ⟨_, hvr, st, xs, rfl, hst, hxl, hwv, hval, hxb⟩ := values_run k ss (nx f) hV hvf.bd hd01.1 hd01.2
 have hve : vals ss (nq f) = xs.map (·.1) := oT hD (by rw [List.length_map]; exact hxl) hval
 have hvv : vl xs = fn_ (vals ss (nq f)) := by rw [hve]; rfl
 refine Rg 4 J <| aA (aM (l := lvM f) J J gG J J) J ?_
 refine aA (bN (b := lvX (nx f)) (aK J (iB f hf1 hf2 hvf.all3.2.2) dD) J) J <| bD (eC J) J <| aZ (cB (cs' := xc (nx f)) J J J g0 J J J J) <| Nk [2,8] J <| Rg 4 J <| aA (aM (l := lvMo k ss) J J gG J J) J ?_
 refine aA (aM (l := lvX (nx f)) J J gG J J) J ?_
 refine aA (aK J (hvr) dD) J <| Ua J J <| cQ ?_
 obtain ⟨oo, hoo⟩ : ∃ oo, (xs.mapM fun x => outN x.1) = oo := ⟨_, rfl⟩
 have hmo : (vals ss (nq f)).mapM outN = oo := by rw [hve, mapM_map']; exact hoo
 refine Rg 7 J <| Um J J <| aA (bN (b := .tup [.sl (kd (oo.getD []).length) ((oo.getD []).map mc), .v (.int .i64 (if oo.isSome = true then 0 else 3))]) (aK J (nouts_run 1 xs om) (bY (by intro c hc; rw [List.mem_singleton] at hc; subst hc; exact (.sl _ _ fun row hr => cL dxc row hr)))) (by rw [← hoo]; rfl)) J <| Um J J <| aA (dX J J) J <| aA (dX J J) J <| Ua J J <| Ua J J <| Wn <| aB <| Rg 2 J <| Um J J <| aA (fV J J) J <| aY (fun h32 => ?_) (fun h32 => ?_)
 ·refine Nk [2,8,9,10,11,32] J <| aS J <| aB <| Rg 4 J <| Um J J <| Ua J J <| Ua J J <| Ua J J <| Wn <| aX <| post (n := 0) (.inr J) J ?_ dbO_data
  show _ = dbO ss f
  cases oo with
  | some o => exact absurd rfl h32
  | none => unfold dbO; rw [if_pos h0, kJ hmo]; rfl
 refine Nk [2,8,9,10,11,32] J <| aV J <| aE ?_
 obtain ⟨o, rfl⟩ : ∃ o, oo = some o := by
  cases oo with
  | none => exact absurd (by decide) h32
  | some o => exact ⟨o, rfl⟩
 refine Rg 4 J <| Um J J <| aA (cI ((ss.length : Int)) (bB J J) om) J <| bD (oMk (a := ss.length) (b := ss.length) J J J J om om (by decide) om (by show 8 * ss.length ≤ _; omega) om) J <| Ua J J <| Wn <| aB <| Rg 4 J <| aA (bA J J J J J) J <| aA (aM J J gG J J) J ?_
 refine aA (bB J J) J <| Um J J <| Wn <| aL <| bC (α := Nat) (fun i => [(8, .ptr (0 + 5 + 4 + 2 + 2) 0), (9, .sl 1 (xs.map xc)), (10, .sl (kd o.length) (o.map mc)), (12, .ref (0 + 5 + 4 + 2 + 4 + 4 + 7 + 2 + 2) 1 0 ss.length), (38, .sl k (ss.map stc)), (39, .v (.int .i64 (ss.length : Int))), (40, .v (.int .i64 (i : Int)))]) (fun i => [((0 + 5 + 4 + 2 + 4 + 4 + 7 + 2 + 2), { cells := ((tab ss.length (mixf (fun _ => (0 : Int)) (fun s : Nat => ((bsK (ss.getD s default) (nq f) (fn_ (vals ss (nq f))) : Nat) : Int)) i)).map ic).flatten, sz := 1, elem := (3), st := 0 }), ((0 + 5 + 4 + 2 + 2), { cells := xc (nx f), sz := 4, elem := (102), st := 0 })]) (fun i n => i ≤ ss.length ∧ 32 < n) (fun i => ss.length - i) (0) ⟨J, J, J, J, J, J, J, trivial⟩ ⟨e86 gG (by exact tab_repiF fun s => by rw [mixf_zero]), gG, trivial⟩ ⟨Nat.zero_le _, om⟩ ?_
 rintro i n hF
 change WC _ _ _ _ _ (_ :: _) (_ :: _) n _
 obtain ⟨hi, hn⟩ := hF
 refine Rg 1 J <| aA (bP J J) J <| aY (fun h41 => ?_) (fun h41 => ?_)
 rotate_left
 ·refine Wn <| aV J <| aW <| aT <| aR J <| Rg 5 J <| Um J J <| Um J J <| Ua J J <| Ua J J <| Ua J J <| Wn <| aP ?_
  have hin : i = ss.length := by omega
  have ee : tab ss.length (mixf (fun _ => (0 : Int)) (fun s : Nat => ((bsK (ss.getD s default) (nq f) (fn_ (vals ss (nq f))) : Nat) : Int)) i) = tab ss.length (fun s : Nat => ((bsK (ss.getD s default) (nq f) (fn_ (vals ss (nq f))) : Nat) : Int)) := tab_eq fun s hs => by unfold mixf; rw [if_pos om]
  rw [show dbO ss f = .tup [.sl (kd o.length) (o.map mc), .sl 1 ((tab ss.length (mixf (fun _ => (0 : Int)) (fun s : Nat => ((bsK (ss.getD s default) (nq f) (fn_ (vals ss (nq f))) : Nat) : Int)) i)).map ic), .v (.int .i64 0)] by unfold dbO; rw [if_pos h0, gP hmo, ee]]
  exact lQ (n := 0) [((0 + 5 + 4 + 2 + 4 + 4 + 7 + 2 + 2), { cells := ((tab ss.length (mixf (fun _ => (0 : Int)) (fun s : Nat => ((bsK (ss.getD s default) (nq f) (fn_ (vals ss (nq f))) : Nat) : Int)) i)).map ic).flatten, sz := 1, elem := (3), st := 1 })] (.inr J) J (.data (.sl _ _ (cL dmc)) (.own ((tab ss.length (mixf (fun _ => (0 : Int)) (fun s : Nat => ((bsK (ss.getD s default) (nq f) (fn_ (vals ss (nq f))) : Nat) : Int)) i)).map ic) (by rw [List.length_map, eO]) gG (by show (0 : Nat) ≠ 2; decide) J (by decide) (by simp [keys]) J rows_ic (cL dic1) (.data (.v _) .nil))) (by intro p hp; rw [List.mem_singleton] at hp; subst hp; exact ⟨_, gG, by show (0 : Nat) ≠ 2; decide, rfl⟩)
 refine Wn <| aS J <| aE <| aL ?_
 have hm := bG (us := ss) (i := i) om
 have hcl := hV1.cs _ hm
 refine Rg 6 J <| Um J J <| aA (bQ J J J J J om J) J <| aA (dJ (l := .agg (stc (ss.getD i default))) J J J) J <| bD (eC J) J <| Ua J J <| aZ (cB (cs' := stc (ss.getD i default)) J J J g0 J J J J) <| Wn <| aI (z := 11) J <| Um J J <| Um J J <| aA (aM (l := .agg (stc (ss.getD i default))) J J gG J J) J ?_
 refine aA (aM (l := lvX (nx f)) J J gG J J) J ?_
 refine Um J J <| aA (aK J (best_run (ss.getD i default) (nx f) 1 xs ss.length hcl (fun c hc => oV hV hm hc) hvf.bd hxl 268435456 (by decide) (by decide) hxb) (bY (by intro c hc; simp only [List.mem_cons, List.not_mem_nil, or_false] at hc; rcases hc with rfl | rfl | rfl; exact (.agg _ fun c hc => dstc1 _ c hc); exact dc1; exact (.sl _ _ fun row hr => cL dxc row hr)))) J <| Um J J <| aA (dX J J) J <| aA (bN (b := .v (.int .i64 ((fun s : Nat => ((bsK (ss.getD s default) (nq f) (fn_ (vals ss (nq f))) : Nat) : Int)) i))) (dX J J) (congrArg (fun z => LV.v (.int .i64 ((bsK (ss.getD i default) (nq f) z : Nat) : Int))) hvv)) J <| aA (cG (j := i) J J J J om om J) J <| aZ (oStTi J J J gG om J) ?_
 refine Wn <| aG <| Ck [8,9,10,12,38,39,40] J <| aI (z := 2) J <| aA (cI (((i + 1 : Nat) : Int)) (aU J J om) om) J <| Um J J <| Wn <| aF <| ⟨i + 1, ⟨J, J, J, J, J, J, J, trivial⟩, ⟨e86 gG (congrArg (fun z => Ob.mk ((tab ss.length z).map ic).flatten 1 3 0) mixf_set.symm), gG, trivial⟩, ⟨om, om⟩, by show ss.length - (i + 1) < ss.length - i; omega⟩
theorem qfewn_run (m k : Nat) (ss : List Go.Ab.ST) : Run Tryz.prog T E0 (.call 40 [.v (.int .i64 (m : Int)), lvMo k ss] (.v (.bool (fewN m ss)))) := by
 refine bH Tryz.func40 J J (dL J) <| Rg 2 J <| bD (dW J J) J <| Ua J J <| Wn <| aB <| Rg 17 J <| aA (bA J J J J J) J <| aA (aM J J gG J J) J ?_
 refine aA (bB J J) J <| Um J J <| aA (dY J J) J <| aY (fun h13 => ?_) (fun h13 => ?_)
 rotate_left
 ·refine Um J J <| K1 J J <| K1 J J <| K1 J J <| K1 J J <| aA (bM J J) J <| Um J J <| aJ J (bA J J J J J) J <| aJ J (aM J J gG J J) J ?_
  refine aJ J (bB J J) J <| aJ J (dY J J) J <| aY (fun h24 => ?_) (fun h24 => ?_)
  ·refine aA (bM J J) J <| Nk [3,25] J <| aS J <| aB <| Rg 1 J <| Ua J J <| Wn <| aX <| post (n := 0) (.inr J) J ?_ dD
   exact congrArg (fun z => LV.v (.bool z)) (show false = fewN m ss by unfold fewN fewM; rw [decide_eq_false (show ¬ ss.length ≤ 45 by omega), Bool.false_and, Bool.and_false])
  refine aA (bM J J) J <| Nk [3,25] J <| aV J <| aE <| aB ?_
  have h6 : (!(decide (m < ss.length) && decide (ss.length ≤ 40))) = true := by first | (rw [decide_eq_false (show ¬ m < ss.length by omega)]; rfl) | (rw [decide_eq_false (show ¬ ss.length ≤ 40 by omega), Bool.and_false]; rfl)
  refine Rg 4 J <| aA (bA J J J J J) J <| aA (aM J J gG J J) J ?_
  refine aA (bB J J) J <| Um J J <| Wn <| aL <| bC (α := Nat) (fun i => [(27, .sl k (ss.map stc)), (28, .v (.int .i64 (ss.length : Int))), (29, .v (.int .i64 (i : Int)))]) (fun i => []) (fun i n => i ≤ ss.length ∧ (ss.take i).all fewS = true) (fun i => ss.length - i) (0) ⟨J, J, J, trivial⟩ trivial ⟨Nat.zero_le _, by simp⟩ ?_
  rintro i n hF
  change WC _ _ _ _ _ (_ :: _) ([]) n _
  obtain ⟨hi, ha⟩ := hF
  refine Rg 1 J <| aA (bP J J) J <| aY (fun h30 => ?_) (fun h30 => ?_)
  rotate_left
  ·refine Wn <| aV J <| aW <| aT <| aR J <| Rg 1 J <| Ua J J <| Wn <| aP <| post (n := 0) (.inr J) J ?_ dD
   exact congrArg (fun z => LV.v (.bool z)) (show true = fewN m ss by unfold fewN fewM; rw [h6, decide_eq_true om, iJ ha om]; rfl)
  refine Wn <| aS J <| aE <| aL <| Rg 4 J <| aA (bQ J J J J J om J) J <| aA (dJ (l := .agg (stc (ss.getD i default))) J J J) J <| bD (eC J) J <| aZ (cB (cs' := stc (ss.getD i default)) J J J g0 J J J J) <| Wn <| aB <| Rg 4 J <| aA (bA J J J J J) J <| aA (aM J J gG J J) J ?_
  refine aA (bB J J) J <| aA (dY J J) J <| aY (fun h36 => ?_) (fun h36 => ?_)
  ·refine Wn <| aS J <| aB <| Rg 1 J <| Ua J J <| Wn <| aX <| aN <| bJ <| aN <| post (n := 0) (.inr J) J ?_ dD
   exact congrArg (fun z => LV.v (.bool z)) (show false = fewN m ss by unfold fewN; rw [qU (i := i) om (fewS_no1 om), Bool.and_false])
  refine Wn <| aV J <| aE <| Rg 4 J <| aA (bA J J J J J) J <| aA (aM J J gG J J) J ?_
  refine aA (bB J J) J <| Um J J <| Nk [27,28,29,38,39,40] J <| cA <| bC (α := Nat) (fun j => [(27, .sl k (ss.map stc)), (28, .v (.int .i64 (ss.length : Int))), (29, .v (.int .i64 (i : Int))), (38, .sl (ss.getD i default).2.1 ((ss.getD i default).2.2.map chc)), (39, .v (.int .i64 ((ss.getD i default).2.2.length : Int))), (40, .v (.int .i64 (j : Int)))]) (fun j => []) (fun j n => j ≤ (ss.getD i default).2.2.length ∧ ((ss.getD i default).2.2.take j).all fewC = true) (fun j => (ss.getD i default).2.2.length - j) (0) ⟨J, J, J, J, J, J, trivial⟩ trivial ⟨Nat.zero_le _, by simp⟩ ?_
  rintro j n hF
  change WC _ _ _ _ _ (_ :: _) ([]) n _
  obtain ⟨hj, hb⟩ := hF
  refine Rg 1 J <| aA (bP J J) J <| aY (fun h41 => ?_) (fun h41 => ?_)
  rotate_left
  ·refine Wn <| aV J <| aW <| aT <| fE J <| aG <| aI (z := 2) J <| aA (cI (((i + 1 : Nat) : Int)) (aU J J om) om) J <| Um J J <| Wn <| aF <| ⟨i + 1, ⟨J, J, J, trivial⟩, trivial, ⟨om, gK ha om (by unfold fewS; rw [decide_eq_true om, iJ hb om]; rfl)⟩, by show ss.length - (i + 1) < ss.length - i; omega⟩
  refine Wn <| aS J <| aE <| aL <| Rg 4 J <| aA (bQ J J J J J om J) J <| aA (dJ (l := lvC ((ss.getD i default).2.2.getD j default)) J J J) J <| bD (eC J) J <| aZ (cB (cs' := chc ((ss.getD i default).2.2.getD j default)) J J J g0 J J J J) <| Wn <| Rg 4 J <| aA (bA J J J J J) J <| aA (aM J J gG J J) J ?_
  refine aA (bB J J) J <| aA (dY J J) J <| aY (fun h47 => ?_) (fun h47 => ?_)
  rotate_left
  ·refine Wn <| bX J <| cP <| aG <| aI (z := 2) J <| aA (cI (((j + 1 : Nat) : Int)) (aU J J om) om) J <| Um J J <| Wn <| aF <| ⟨j + 1, ⟨J, J, J, J, J, J, trivial⟩, trivial, ⟨om, gK hb om (decide_eq_true om)⟩, by show (ss.getD i default).2.2.length - (j + 1) < (ss.getD i default).2.2.length - j; omega⟩
  refine Wn <| bW J <| Rg 1 J <| Ua J J <| Nk [4] J <| aP <| aN <| bJ <| dQ <| aN <| bJ <| aN <| post (n := 0) (.inr J) J ?_ dD
  exact congrArg (fun z => LV.v (.bool z)) (show false = fewN m ss by unfold fewN; rw [qU (i := i) om (fewS_no2 (j := j) om om), Bool.and_false])
 refine Um J J <| aJ J (bA J J J J J) J <| aJ J (aM J J gG J J) J ?_
 refine aJ J (bB J J) J <| aJ J (nD J J) J <| aY (fun h18 => ?_) (fun h18 => ?_)
 ·refine aA (bK J J) J <| Um J J <| K1 J J <| K1 J J <| K1 J J <| K1 J J <| aA (bK J J) J <| Nk [3,25] J <| aS J <| aB <| Rg 1 J <| Ua J J <| Wn <| aX <| post (n := 0) (.inr J) J ?_ dD
  exact congrArg (fun z => LV.v (.bool z)) (show false = fewN m ss by unfold fewN; rw [decide_eq_true (show m < ss.length by omega), decide_eq_true (show ss.length ≤ 40 by omega)]; rfl)
 refine aA (bK J J) J <| Um J J <| aJ J (bA J J J J J) J <| aJ J (aM J J gG J J) J ?_
 refine aJ J (bB J J) J <| aJ J (dY J J) J <| aY (fun h24 => ?_) (fun h24 => ?_)
 ·refine aA (bM J J) J <| Nk [3,25] J <| aS J <| aB <| Rg 1 J <| Ua J J <| Wn <| aX <| post (n := 0) (.inr J) J ?_ dD
  exact congrArg (fun z => LV.v (.bool z)) (show false = fewN m ss by unfold fewN fewM; rw [decide_eq_false (show ¬ ss.length ≤ 45 by omega), Bool.false_and, Bool.and_false])
 refine aA (bM J J) J <| Nk [3,25] J <| aV J <| aE <| aB ?_
 have h6 : (!(decide (m < ss.length) && decide (ss.length ≤ 40))) = true := by first | (rw [decide_eq_false (show ¬ m < ss.length by omega)]; rfl) | (rw [decide_eq_false (show ¬ ss.length ≤ 40 by omega), Bool.and_false]; rfl)
 refine Rg 4 J <| aA (bA J J J J J) J <| aA (aM J J gG J J) J ?_
 refine aA (bB J J) J <| Um J J <| Wn <| aL <| bC (α := Nat) (fun i => [(27, .sl k (ss.map stc)), (28, .v (.int .i64 (ss.length : Int))), (29, .v (.int .i64 (i : Int)))]) (fun i => []) (fun i n => i ≤ ss.length ∧ (ss.take i).all fewS = true) (fun i => ss.length - i) (0) ⟨J, J, J, trivial⟩ trivial ⟨Nat.zero_le _, by simp⟩ ?_
 rintro i n hF
 change WC _ _ _ _ _ (_ :: _) ([]) n _
 obtain ⟨hi, ha⟩ := hF
 refine Rg 1 J <| aA (bP J J) J <| aY (fun h30 => ?_) (fun h30 => ?_)
 rotate_left
 ·refine Wn <| aV J <| aW <| aT <| aR J <| Rg 1 J <| Ua J J <| Wn <| aP <| post (n := 0) (.inr J) J ?_ dD
  exact congrArg (fun z => LV.v (.bool z)) (show true = fewN m ss by unfold fewN fewM; rw [h6, decide_eq_true om, iJ ha om]; rfl)
 refine Wn <| aS J <| aE <| aL <| Rg 4 J <| aA (bQ J J J J J om J) J <| aA (dJ (l := .agg (stc (ss.getD i default))) J J J) J <| bD (eC J) J <| aZ (cB (cs' := stc (ss.getD i default)) J J J g0 J J J J) <| Wn <| aB <| Rg 4 J <| aA (bA J J J J J) J <| aA (aM J J gG J J) J ?_
 refine aA (bB J J) J <| aA (dY J J) J <| aY (fun h36 => ?_) (fun h36 => ?_)
 ·refine Wn <| aS J <| aB <| Rg 1 J <| Ua J J <| Wn <| aX <| aN <| bJ <| aN <| post (n := 0) (.inr J) J ?_ dD
  exact congrArg (fun z => LV.v (.bool z)) (show false = fewN m ss by unfold fewN; rw [qU (i := i) om (fewS_no1 om), Bool.and_false])
 refine Wn <| aV J <| aE <| Rg 4 J <| aA (bA J J J J J) J <| aA (aM J J gG J J) J ?_
 refine aA (bB J J) J <| Um J J <| Nk [27,28,29,38,39,40] J <| cA <| bC (α := Nat) (fun j => [(27, .sl k (ss.map stc)), (28, .v (.int .i64 (ss.length : Int))), (29, .v (.int .i64 (i : Int))), (38, .sl (ss.getD i default).2.1 ((ss.getD i default).2.2.map chc)), (39, .v (.int .i64 ((ss.getD i default).2.2.length : Int))), (40, .v (.int .i64 (j : Int)))]) (fun j => []) (fun j n => j ≤ (ss.getD i default).2.2.length ∧ ((ss.getD i default).2.2.take j).all fewC = true) (fun j => (ss.getD i default).2.2.length - j) (0) ⟨J, J, J, J, J, J, trivial⟩ trivial ⟨Nat.zero_le _, by simp⟩ ?_
 rintro j n hF
 change WC _ _ _ _ _ (_ :: _) ([]) n _
 obtain ⟨hj, hb⟩ := hF
 refine Rg 1 J <| aA (bP J J) J <| aY (fun h41 => ?_) (fun h41 => ?_)
 rotate_left
 ·refine Wn <| aV J <| aW <| aT <| fE J <| aG <| aI (z := 2) J <| aA (cI (((i + 1 : Nat) : Int)) (aU J J om) om) J <| Um J J <| Wn <| aF <| ⟨i + 1, ⟨J, J, J, trivial⟩, trivial, ⟨om, gK ha om (by unfold fewS; rw [decide_eq_true om, iJ hb om]; rfl)⟩, by show ss.length - (i + 1) < ss.length - i; omega⟩
 refine Wn <| aS J <| aE <| aL <| Rg 4 J <| aA (bQ J J J J J om J) J <| aA (dJ (l := lvC ((ss.getD i default).2.2.getD j default)) J J J) J <| bD (eC J) J <| aZ (cB (cs' := chc ((ss.getD i default).2.2.getD j default)) J J J g0 J J J J) <| Wn <| Rg 4 J <| aA (bA J J J J J) J <| aA (aM J J gG J J) J ?_
 refine aA (bB J J) J <| aA (dY J J) J <| aY (fun h47 => ?_) (fun h47 => ?_)
 rotate_left
 ·refine Wn <| bX J <| cP <| aG <| aI (z := 2) J <| aA (cI (((j + 1 : Nat) : Int)) (aU J J om) om) J <| Um J J <| Wn <| aF <| ⟨j + 1, ⟨J, J, J, J, J, J, trivial⟩, trivial, ⟨om, gK hb om (decide_eq_true om)⟩, by show (ss.getD i default).2.2.length - (j + 1) < (ss.getD i default).2.2.length - j; omega⟩
 refine Wn <| bW J <| Rg 1 J <| Ua J J <| Nk [4] J <| aP <| aN <| bJ <| dQ <| aN <| bJ <| aN <| post (n := 0) (.inr J) J ?_ dD
 exact congrArg (fun z => LV.v (.bool z)) (show false = fewN m ss by unfold fewN; rw [qU (i := i) om (fewS_no2 (j := j) om om), Bool.and_false])
theorem dfew_run (k kl kn : Nat) (ss : List Go.Ab.ST) (l : List Int) (ns : List NM) : Run Tryz.prog T E0 (.call 10 [lvMo k ss, .sl kl (l.map ic), .sl kn (ns.map mc)] (.v (.bool (few6 ss && decide (l.length ≤ 60) && decide (ns.length ≤ 60))))) := by
 refine bH Tryz.func10 J J (dL J) <| Rg 2 J <| bD (dW J J) J <| Ua J J <| Wn <| Rg 13 J <| aA (aM (l := lvMo k ss) J J gG J J) J ?_
 refine aA (bN (b := .v (.bool (few6 ss))) (aK J (qfewn_run 6 k ss) dD) J) J <| eK (fun h8 => ?_) (fun h8 => ?_)
 rotate_left
 ·refine Um J J <| K1 J J <| K1 J J <| K1 J J <| aA (bM J J) J <| Um J J <| K1 J J <| K1 J J <| K1 J J <| aA (bM J J) J <| Ua J J <| Nk [6] J <| aP <| post (n := 0) (.inr J) J ?_ dD
  exact congrArg (fun z => LV.v (.bool z)) (show false = (few6 ss && decide (l.length ≤ 60) && decide (ns.length ≤ 60)) by rw [h8]; rfl)
 refine Um J J <| aJ J (eW J) J <| aJ J (bB J J) J <| aJ J (nD J J) J <| aY (fun h12 => ?_) (fun h12 => ?_)
 ·refine aA (bK J J) J <| Um J J <| aJ J (eW J) J <| aJ J (bB J J) J <| aJ J (nD J J) J <| aA (bK J J) J <| Ua J J <| Nk [6] J <| aP <| post (n := 0) (.inr J) J ?_ dD
  exact congrArg (fun z => LV.v (.bool z)) (by first | (rw [h8, decide_eq_true (show l.length ≤ 60 by omega), decide_eq_true (show ns.length ≤ 60 by omega)]; rfl) | (rw [h8, decide_eq_true (show l.length ≤ 60 by omega), decide_eq_false (show ¬ ns.length ≤ 60 by omega)]; rfl) | (rw [h8, decide_eq_true (show l.length ≤ 60 by omega)]; simp; omega))
 refine aA (bK J J) J <| Um J J <| K1 J J <| K1 J J <| K1 J J <| aA (bM J J) J <| Ua J J <| Nk [6] J <| aP <| post (n := 0) (.inr J) J ?_ dD
 exact congrArg (fun z => LV.v (.bool z)) (show false = (few6 ss && decide (l.length ≤ 60) && decide (ns.length ≤ 60)) by rw [decide_eq_false (show ¬ l.length ≤ 60 by omega), Bool.and_false]; rfl)
theorem hO (a b : Int) : Run Tryz.prog T E0 (.call 50 [.v (.int .i64 a), .v (.int .i64 b)] (lvM (a, b))) := by
 refine bH Tryz.func50 J J (dL J) <| Rg 1 J <| bD (eC J) J <| Wn <| Rg 4 J <| Um J J <| Um J J <| aA (gA (cs := [_, _]) J J J J J) J <| aZ (cB (cs' := [_, _]) J J J J J J J J) <| Wn <| aP <| post (n := 0) (.inr J) J ?_ dD
 rfl
theorem leq_run (k k' : Nat) (l l' : List Int) (ll : l.length < 1099511627776) : Run Tryz.prog T E0 (.call 20 [.sl k (l.map ic), .sl k' (l'.map ic)] (.v (.bool (decide (l = l'))))) := by
 refine bH Tryz.func20 J J (dL J) <| Rg 1 J <| Ua J J <| Wn <| aB <| Rg 5 J <| Um J J <| aA (bB J J) J <| Um J J <| aA (bB J J) J <| aA (fV J J) J <| aY (fun h10 => ?_) (fun h10 => ?_)
 ·refine Wn <| aS J <| aB <| Rg 1 J <| Ua J J <| Wn <| aX <| post (n := 0) (.inr J) J ?_ dD
  exact congrArg (fun z => LV.v (.bool z)) (show false = decide (l = l') from (decide_eq_false fun h => h10 (by rw [h])).symm)
 refine Wn <| aV J <| aE <| aB <| Rg 3 J <| Um J J <| aA (bB J J) J <| Um J J <| Wn <| aL <| bC (α := Nat) (fun i => [(0, .sl k (l.map ic)), (1, .sl k' (l'.map ic)), (12, .v (.int .i64 (l.length : Int))), (13, .v (.int .i64 (i : Int)))]) (fun i => []) (fun i n => i ≤ l.length ∧ l.take i = l'.take i) (fun i => l.length - i) (0) ⟨J, J, J, J, trivial⟩ trivial ⟨Nat.zero_le _, by simp⟩ ?_
 rintro i n hF
 change WC _ _ _ _ _ (_ :: _) ([]) n _
 obtain ⟨hi, ha⟩ := hF
 refine Rg 1 J <| aA (bP J J) J <| aY (fun h14 => ?_) (fun h14 => ?_)
 rotate_left
 ·refine Wn <| aV J <| aW <| aT <| aR J <| Rg 1 J <| Ua J J <| Wn <| aP <| post (n := 0) (.inr J) J ?_ dD
  exact congrArg (fun z => LV.v (.bool z)) (show true = decide (l = l') from (decide_eq_true (by rw [List.take_of_length_le om, List.take_of_length_le om] at ha; exact ha)).symm)
 refine Wn <| aS J <| aE <| aL <| Rg 2 J <| Um J J <| Ua J J <| Wn <| bL (z := 9) J kR <| Dm J J <| Dm J J <| aC (bQ (j := i) J J J J om om J) J <| aC (dJ J J J) J <| Dm J J <| Dm J J <| aC (bQ (j := i) J J J J om om J) J <| aC (dJ J J J) J <| aC (fV J J) J <| mQ (fun h24 => ?_) (fun h24 => ?_)
 rotate_left
 ·refine bE (aQ kR) J <| Ck [0,1,12,13,24] J <| bX J <| cP <| aG <| aI (z := 2) J <| aA (cI (((i + 1 : Nat) : Int)) (aU J J om) om) J <| Um J J <| Wn <| aF <| ⟨i + 1, ⟨J, J, J, J, trivial⟩, trivial, ⟨om, eqL_take ha om om om⟩, by show l.length - (i + 1) < l.length - i; omega⟩
 refine bE (aQ kR) J <| Ck [0,1,12,13,24] J <| bW J <| Rg 1 J <| Ua J J <| Wn <| aP <| aN <| bJ <| aN <| post (n := 0) (.inr J) J ?_ dD
 exact congrArg (fun z => LV.v (.bool z)) (show false = decide (l = l') from (decide_eq_false (eqL_no (i := i) om om om)).symm)
theorem fS  : Run Tryz.prog T E0 (.call 12 [] (.v (.bool true))) := by
 refine bH Tryz.func12 J J (dL J) <| Rg 1 J <| Ua J J <| Wn <| Rg 14 J <| aA (aK J (hO 1 1) dD) J <| aA (aK J (hO 1 1) dD) J <| aA (gA (cs := [_, _, _]) J J J J J) J <| aA (dA (cs := [_, _, _]) (rows := [[_, _, _]]) J J (by decide) J J J) J <| aA (gA (cs := [_, _, _]) J J J J J) J <| aA (aK J (hO 2 1) dD) J <| aA (aK J (hO 1 1) dD) J <| aA (gA (cs := [_, _, _]) J J J J J) J <| aA (dA (cs := [_, _, _]) (rows := [[_, _, _]]) J J (by decide) J J J) J <| aA (gA (cs := [_, _, _]) J J J J J) J <| aA (dA (cs := [_, _, _, _, _, _]) (rows := [[_, _, _], [_, _, _]]) J J (by decide) J J J) J <| aA (gA (cs := [_, _, _]) J J J J J) J <| bD (eC J) J <| aZ (cB (cs' := [_, _, _]) J J J J J J J J) <| Wn <| bL (z := 12) J kR <| aC (aM (l := .agg (stc ((((0 : Int), (0 : Int)), (2, [((1, 1), (2, [(0, (1, 1))])), ((2, 1), (2, [(0, (1, 1))]))])) : Go.Ab.ST))) J J gG J J) J ?_
 refine aC (dA (cs := [_, _, _]) (rows := [[_, _, _]]) J J (by decide) J J J) J <| aC (gA (cs := [_]) J J J J J) J <| aC (aK J (hO 1 2) dD) J <| aC (bN (b := .tup [.sl 1 [mc (4, 1)], .sl 1 [ic 1], .v (.int .i64 0)]) (aK J (kT 2 (awk 0) (1, 2) (awk_is 0 I64_0) (by unfold I64; decide) (by unfold I64; decide)) (bY (by intro c hc; simp only [List.mem_cons, List.not_mem_nil, or_false] at hc; rcases hc with rfl | rfl; exact (awk_data 0); exact dc1))) awk_b0) J <| Dm J J <| aC (dX J J) J <| aC (dX J J) J <| aC (dX J J) J <| aC (jJ J) J <| aC (jJ J) J <| aC (jJ J) J <| bE (aQ kR) J <| Ck [1,2,3,4] J <| Rg 2 J <| aA (bA J J J J J) J <| aZ (cB (cs' := [_, _, _]) J J J J J J J J) <| Wn <| bL (z := 12) J kR <| aC (aM (l := .agg (stc ((((1 : Int), (0 : Int)), (2, [((1, 1), (2, [(0, (1, 1))])), ((2, 1), (2, [(0, (1, 1))]))])) : Go.Ab.ST))) J J gG J J) J ?_
 refine aC (dA (cs := [_, _, _]) (rows := [[_, _, _]]) J J (by decide) J J J) J <| aC (gA (cs := [_]) J J J J J) J <| aC (aK J (hO 1 2) dD) J <| aC (bN (b := .tup [.sl 1 [mc (2, 1)], .sl 1 [ic 0], .v (.int .i64 0)]) (aK J (kT 2 (awk 1) (1, 2) (awk_is 1 I64_1) (by unfold I64; decide) (by unfold I64; decide)) (bY (by intro c hc; simp only [List.mem_cons, List.not_mem_nil, or_false] at hc; rcases hc with rfl | rfl; exact (awk_data 1); exact dc1))) awk_b1) J <| Dm J J <| aC (dX J J) J <| aC (dX J J) J <| aC (dX J J) J <| aC (jJ J) J <| aC (jJ J) J <| aC (jJ J) J <| bE (aQ kR) J <| Ck [2,3,4,5,6,7] J <| Rg 29 J <| Um J J <| aA (fJ J J) J <| aY (fun h40 => ?_) (fun h40 => ?_)
 rotate_left
 ·exact absurd J h40
 refine Um J J <| aJ J (eW J) J <| aJ J (aK J (hO 4 1) dD) J <| aJ J (dA (cs := [_, _]) (rows := [[_, _]]) J J (by decide) J J J) J <| aJ J (aK J (nsame_run 1 2 [(4, 1)] (by decide)) (bY (by intro c hc; simp only [List.mem_cons, List.not_mem_nil, or_false] at hc; rcases hc with rfl | rfl; exact (mD 1 (4, 1)); exact (mD 2 (4, 1))))) J <| aA (bK J J) J <| Um J J <| aJ J (eW J) J <| aJ J (dA (cs := [_]) (rows := [[_]]) J J (by decide) J J J) J <| aJ J (bN (b := .v (.bool true)) (aK J (leq_run 1 2 [1] [1] (by decide)) (bY (by intro c hc; simp only [List.mem_cons, List.not_mem_nil, or_false] at hc; rcases hc with rfl | rfl; exact (mA 1 1); exact (mA 2 1)))) J) J <| aA (bK J J) J <| Um J J <| aJ J (eW J) J <| aJ J (fJ J J) J <| aY (fun h54 => ?_) (fun h54 => ?_)
 rotate_left
 ·exact absurd J h54
 refine aA (bK J J) J <| Um J J <| aJ J (eW J) J <| aJ J (aK J (hO 2 1) dD) J <| aJ J (dA (cs := [_, _]) (rows := [[_, _]]) J J (by decide) J J J) J <| aJ J (aK J (nsame_run 1 2 [(2, 1)] (by decide)) (bY (by intro c hc; simp only [List.mem_cons, List.not_mem_nil, or_false] at hc; rcases hc with rfl | rfl; exact (mD 1 (2, 1)); exact (mD 2 (2, 1))))) J <| aA (bK J J) J <| Um J J <| aJ J (eW J) J <| aJ J (dA (cs := [_]) (rows := [[_]]) J J (by decide) J J J) J <| aJ J (bN (b := .v (.bool true)) (aK J (leq_run 1 2 [0] [0] (by decide)) (bY (by intro c hc; simp only [List.mem_cons, List.not_mem_nil, or_false] at hc; rcases hc with rfl | rfl; exact (mA 1 0); exact (mA 2 0)))) J) J <| aA (bK J J) J <| Ua J J <| Nk [0] J <| aP <| post (n := 0) (.inr J) J ?_ dD
 rfl
end Go.Proofs.YtahljdjhhapngaaGreat
namespace Go.Proofs.YtahljdjhhapngaaGreat
open Go.Ab Go.RowKit
theorem vals_ok (ss : List Go.Ab.ST) (d : Rat) (hV : VMo ss = true) (hd : Bd 2 d) (hd0 : 0 < d) (hd1 : d < 1) : (vals ss d).length = ss.length ∧ Val ss d (fn_ (vals ss d)) ∧ (∀ x, x ∈ vals ss d → Bd 268435456 x) ∧ ∃ st, vSt ss st = true ∧ wor ss d st = vals ss d := by
 obtain ⟨_, _, st, xs, _, hst, hl, hw, hv, hb⟩ := values_run 1 ss (d, false) hV hd hd0 hd1
 have hl2 : (xs.map (·.1)).length = ss.length := by rw [List.length_map]; exact hl
 have hD := kG hV hd0 hd1
 rw [oT hD hl2 hv]
 exact ⟨hl2, hv, fun x hx => by obtain ⟨y, hy, rfl⟩ := List.mem_map.1 hx; exact hb y hy, st, hst, wor_eq hD hst hl2 hw⟩
end Go.Proofs.YtahljdjhhapngaaGreat
namespace Go.Proofs.YtahljdjhhapngaaGreat
open Go.Ab Go.RowKit
theorem kd_one {n : Nat} (h : 0 < n) : kd n = 1 := by unfold kd; rw [if_neg om]
theorem copy_own (n0 : Nat) (k : Nat) (ss : List Go.Ab.ST) (hV : VMo ss = true) : WC Tryz.prog T E0 Tryz.f24.ntmps (codeOf Tryz.f24) (argsEnv 0 [lvMo k ss]) [] n0 (fun x e' h' n' => (x = .normal ∨ x = .ret) ∧ n0 ≤ n' ∧ ∃ (q : Nat) (a : Nat → Nat), resE e' T h' Tryz.f24.results.toList = some [.agg [.ref q 3 0 ss.length]] ∧ n0 ≤ q ∧ q < n' ∧ (∀ t, t < ss.length → n0 ≤ a t ∧ a t < n' ∧ a t ≠ q) ∧ (∀ s t, s < ss.length → t < ss.length → a s = a t → s = t) ∧ getH h' q = some { cells := ((tab ss.length (fun t => (ss.getD t default, a t))).map srw).flatten, sz := 3, elem := (54), st := 0 } ∧ ∀ t, t < ss.length → getH h' (a t) = some (obC (57) 0 ((ss.getD t default).2.2.map kc1))) := by
 have hV1 := iZ hV
 have hn40 := hV1.wt.len
 have hpos := hV1.pos
 change WC _ _ _ _ _ [(0, lvMo k ss)] _ _ _
 refine Rg 2 J <| bD (dW J J) J <| bD (eC J) J <| Wn <| Rg 3 J <| aA (gA (cs := [_]) J J J J J) J <| bD (eC J) J <| aZ (cB (cs' := [_]) J J J g0 J J J J) <| Wn <| aB <| Rg 4 J <| aA (bA J J J J J) J <| aA (aM J J gG J J) J ?_
 refine aA (bB J J) J <| Um J J <| Wn <| aL <| bC (α := Nat × Nat × (Nat → Nat)) (fun ⟨i, q, a⟩ => [(2, .ptr (n0 + 1) 0), (3, .ptr (n0 + 3) 0), (11, .sl k (ss.map stc)), (12, .v (.int .i64 (ss.length : Int))), (13, .v (.int .i64 (i : Int)))]) (fun ⟨i, q, a⟩ => famH a (fun t => some (obC (57) 0 ((ss.getD t default).2.2.map kc1))) (outH q 3 (54) ((tab i (fun t => (ss.getD t default, a t))).map srw) [(n0 + 3, { cells := [outV q 3 ((tab i (fun t => (ss.getD t default, a t))).map srw)], sz := 1, elem := (24), st := 0 }), (n0 + 1, { cells := [.sl 0 []], sz := 1, elem := (24), st := 0 })]) i) (fun ⟨i, q, a⟩ n => i ≤ ss.length ∧ n0 + 4 < q ∧ q < n ∧ (∀ t, t < i → n0 + 4 < a t ∧ a t < n ∧ a t ≠ q) ∧ ∀ s t, s < i → t < i → a s = a t → s = t) (fun ⟨i, q, a⟩ => ss.length - i) (0, n0 + 5, fun _ => 0) ⟨J, J, J, J, J, trivial⟩ ⟨gG, gG, trivial⟩ ⟨Nat.zero_le _, om, om, fun t ht => absurd ht om, fun s t hs => absurd hs om⟩ ?_
 rintro ⟨i, q, a⟩ n hF
 change WC _ _ _ _ _ [(2, .ptr (n0 + 1) 0), (3, .ptr (n0 + 3) 0), (11, .sl k (ss.map stc)), (12, .v (.int .i64 (ss.length : Int))), (13, .v (.int .i64 (i : Int)))] (famH a (fun t => some (obC (57) 0 ((ss.getD t default).2.2.map kc1))) (outH q 3 (54) ((tab i (fun t => (ss.getD t default, a t))).map srw) [(n0 + 3, { cells := [outV q 3 ((tab i (fun t => (ss.getD t default, a t))).map srw)], sz := 1, elem := (24), st := 0 }), (n0 + 1, { cells := [.sl 0 []], sz := 1, elem := (24), st := 0 })]) i) n _
 obtain ⟨hi, hq0, hq, hfa, hinj⟩ := hF
 obtain ⟨nK, hnK⟩ : ∃ z, z = n := ⟨n, rfl⟩
 subst hnK
 refine Rg 1 J <| aA (bP J J) J <| aY (fun h14 => ?_) (fun h14 => ?_)
 rotate_left
 ·refine Wn <| aV J <| aW <| aT <| aR J <| Rg 2 J <| aA (aM (l := .agg [_]) J J (by repeat (first | exact g0 | refine g1 om ?_ | refine aH om ?_ | refine (aO _ (fun t ht => by have := hfa t ht; omega)).trans ?_)) J J) J ?_
  refine aZ (cB (cs' := [_]) J J J (by repeat (first | exact g0 | refine g1 om ?_ | refine aH om ?_ | refine (aO _ (fun t ht => by have := hfa t ht; omega)).trans ?_)) J J J J) ?_
  refine Wn <| aP ?_
  obtain rfl : i = ss.length := by omega
  have hne : (tab ss.length (fun t => (ss.getD t default, a t))).map srw ≠ [] := fun h => by have := congrArg List.length h; rw [List.length_map, eO, List.length_nil] at this; omega
  have hov3 : outV q 3 ((tab ss.length (fun t => (ss.getD t default, a t))).map srw) = .ref q 3 0 ss.length := by rw [kX hne, List.length_map, eO]
  refine ⟨.inr J, om, q, a, (resE_cell J J g0 J J).trans (congrArg (fun z => some [LV.agg [z]]) hov3), om, om, fun t ht => by have := hfa t ht; omega, hinj, ?_, fun t ht => ?_⟩
  ·refine g1 om ((aO _ (fun t ht => by have := hfa t ht; omega)).trans ?_)
   rw [dB hne]; exact g0
  ·have := hfa t ht
   exact g1 om (dV _ ht J (fun s hs e => hinj s t hs ht e))
 refine Wn <| aS J <| aE <| aL ?_
 have hm := bG (us := ss) (i := i) om
 have hcl := hV1.cs _ hm
 refine Rg 4 J <| aA (bQ J J J J J om J) J <| aA (dJ (l := .agg (stc (ss.getD i default))) J J J) J <| bD (eC J) J <| aZ (cB (cs' := stc (ss.getD i default)) J J J g0 J J J J) <| Wn <| Rg 7 J <| aA (bA J J J J J) J <| aA (aM J J gG J J) J ?_
 refine aA (bA J J J J J) J <| aA (aM J J gG J J) J ?_
 refine aA (gA (cs := [_, _, _]) J J J J J) J <| bD (eC J) J <| aZ (cB (cs' := [_, _, _]) J J J g0 J J J J) <| Nk [2,3,5,6,11,12,13] J <| aB <| Rg 4 J <| aA (bA J J J J J) J <| aA (aM J J gG J J) J ?_
 refine aA (bB J J) J <| Um J J <| Wn <| aL <| bC (α := Nat × Nat) (fun ⟨j, q2⟩ => [(2, .ptr (n0 + 1) 0), (3, .ptr (n0 + 3) 0), (6, .ptr (nK + 1 + 4 + 5) 0), (11, .sl k (ss.map stc)), (12, .v (.int .i64 (ss.length : Int))), (13, .v (.int .i64 (i : Int))), (23, .sl (ss.getD i default).2.1 ((ss.getD i default).2.2.map chc)), (24, .v (.int .i64 ((ss.getD i default).2.2.length : Int))), (25, .v (.int .i64 (j : Int)))]) (fun ⟨j, q2⟩ => outH q2 3 (57) ((tab j (fun t => kc1 ((ss.getD i default).2.2.getD t default))).map chc) (((nK + 1 + 4 + 5), { cells := [.v (.int .i64 (ss.getD i default).1.1), .v (.int .i64 (ss.getD i default).1.2), outV q2 3 ((tab j (fun t => kc1 ((ss.getD i default).2.2.getD t default))).map chc)], sz := 3, elem := (54), st := 0 }) :: famH a (fun t => some (obC (57) 0 ((ss.getD t default).2.2.map kc1))) (outH q 3 (54) ((tab i (fun t => (ss.getD t default, a t))).map srw) [(n0 + 3, { cells := [outV q 3 ((tab i (fun t => (ss.getD t default, a t))).map srw)], sz := 1, elem := (24), st := 0 }), (n0 + 1, { cells := [.sl 0 []], sz := 1, elem := (24), st := 0 })]) i)) (fun ⟨j, q2⟩ n => j ≤ (ss.getD i default).2.2.length ∧ nK + 14 < q2 ∧ q2 < n ∧ nK + 16 ≤ n) (fun ⟨j, q2⟩ => (ss.getD i default).2.2.length - j) (0, nK + 15) ⟨J, J, J, J, J, J, J, J, J, trivial⟩ ⟨(by repeat (first | exact g0 | refine g1 om ?_ | refine aH om ?_ | refine (aO _ (fun t ht => by have := hfa t ht; omega)).trans ?_)), dS _ (fun t ht x hx => by cases hx; have := hfa t ht; repeat (first | exact dV _ ht J (fun s hs e => hinj s t hs ht e) | refine g1 om ?_ | refine aH om ?_)) (bV (fun hne => by rw [dB hne]; repeat (first | exact g0 | refine g1 om ?_ | refine aH om ?_ | refine (aO _ (fun t ht => by have := hfa t ht; omega)).trans ?_)) ⟨(by repeat (first | exact g0 | refine g1 om ?_ | refine aH om ?_ | refine (aO _ (fun t ht => by have := hfa t ht; omega)).trans ?_)), (by repeat (first | exact g0 | refine g1 om ?_ | refine aH om ?_ | refine (aO _ (fun t ht => by have := hfa t ht; omega)).trans ?_)), trivial⟩)⟩ ⟨Nat.zero_le _, om, om, om⟩ ?_
 rintro ⟨j, q2⟩ n hF
 change WC _ _ _ _ _ (_ :: _) (outH _ _ _ _ _) n _
 obtain ⟨hj, hq1, hq2, hn2⟩ := hF
 have h6 : nK + (1 + (4 + 5)) < n := by omega
 have h62 : nK + (1 + (4 + 5)) ≠ q2 := by omega
 refine Rg 1 J <| aA (bP J J) J <| aY (fun h26 => ?_) (fun h26 => ?_)
 ·refine Wn <| aS J <| aE <| aL ?_
  have hmc := bG (us := (ss.getD i default).2.2) (i := j) om
  have hbs := hV1.bs _ hm _ hmc
  refine Rg 4 J <| aA (bQ J J J J J om J) J <| aA (dJ (l := lvC ((ss.getD i default).2.2.getD j default)) J J J) J <| bD (eC J) J <| aZ (cB (cs' := chc ((ss.getD i default).2.2.getD j default)) J J J g0 J J J J) <| Wn <| lV (z := 13) J kR <| aC (bA J J J J J) J <| aC (aM J J (by repeat (first | exact g0 | refine g1 om ?_ | refine aH om ?_ | refine (aO _ (fun t ht => by have := hfa t ht; omega)).trans ?_)) J J) J ?_
  refine aC (bA J J J J J) J <| aC (aM (l := lvM ((ss.getD i default).2.2.getD j default).1) J J (by repeat (first | exact g0 | refine g1 om ?_ | refine aH om ?_ | refine (aO _ (fun t ht => by have := hfa t ht; omega)).trans ?_)) J J) J ?_
  refine aC (dA (cs := []) (rows := []) J J (by decide) J J J) J <| aC (bA J J J J J) J <| aC (aM J J (by repeat (first | exact g0 | refine g1 om ?_ | refine aH om ?_ | refine (aO _ (fun t ht => by have := hfa t ht; omega)).trans ?_)) J J) J ?_
  refine qM (oApS (xs := []) (rows := ((ss.getD i default).2.2.getD j default).2.2.map brc) J J J J J (by decide) (by simp) (cU (f := brc) (n := 3) (fun _ => rfl)) (by rw [List.length_map]; omega) (by rw [List.length_map]; show (2 * (0 + ((ss.getD i default).2.2.getD j default).2.2.length) + 256) * 24 ≤ _; omega) (by rw [List.length_map]; show 0 + ((ss.getD i default).2.2.getD j default).2.2.length < _; omega)) J <| aC (gA (cs := [_, _, _]) J J J J J) J <| aC (dA (cs := [_, _, _]) (rows := [[_, _, _]]) J J (by decide) J J J) J ?_
  refine jA _ (subsM.get (bV (q := q2) (sz := 3) (el := (57)) (us := ((tab j (fun t => kc1 ((ss.getD i default).2.2.getD t default))).map chc)) (h := ((n + 1 + 4 + 7), { cells := ([] : List LV) ++ (((ss.getD i default).2.2.getD j default).2.2.map brc).flatten, sz := 3, elem := (84), st := 0 }) :: ((n + 1 + 2), { cells := chc ((ss.getD i default).2.2.getD j default), sz := 3, elem := (57), st := 0 }) :: ((nK + 1 + 4 + 5), { cells := [.v (.int .i64 (ss.getD i default).1.1), .v (.int .i64 (ss.getD i default).1.2), outV q2 3 ((tab j (fun t => kc1 ((ss.getD i default).2.2.getD t default))).map chc)], sz := 3, elem := (54), st := 0 }) :: famH a (fun t => some (obC (57) 0 ((ss.getD t default).2.2.map kc1))) (outH q 3 (54) ((tab i (fun t => (ss.getD t default, a t))).map srw) [(n0 + 3, { cells := [outV q 3 ((tab i (fun t => (ss.getD t default, a t))).map srw)], sz := 1, elem := (24), st := 0 }), (n0 + 1, { cells := [.sl 0 []], sz := 1, elem := (24), st := 0 })]) i) (fun hne => by rw [dB hne]; repeat (first | exact g0 | refine g1 om ?_ | refine aH om ?_ | refine (aO _ (fun t ht => by have := hfa t ht; omega)).trans ?_)) ⟨(by repeat (first | exact g0 | refine g1 om ?_ | refine aH om ?_ | refine (aO _ (fun t ht => by have := hfa t ht; omega)).trans ?_)), (by repeat (first | exact g0 | refine g1 om ?_ | refine aH om ?_ | refine (aO _ (fun t ht => by have := hfa t ht; omega)).trans ?_)), (by repeat (first | exact g0 | refine g1 om ?_ | refine aH om ?_ | refine (aO _ (fun t ht => by have := hfa t ht; omega)).trans ?_)), dS _ (fun t ht x hx => by cases hx; have := hfa t ht; repeat (first | exact dV _ ht J (fun s hs e => hinj s t hs ht e) | refine g1 om ?_ | refine aH om ?_)) (bV (fun hne => by rw [dB hne]; repeat (first | exact g0 | refine g1 om ?_ | refine aH om ?_ | refine (aO _ (fun t ht => by have := hfa t ht; omega)).trans ?_)) ⟨(by repeat (first | exact g0 | refine g1 om ?_ | refine aH om ?_ | refine (aO _ (fun t ht => by have := hfa t ht; omega)).trans ?_)), (by repeat (first | exact g0 | refine g1 om ?_ | refine aH om ?_ | refine (aO _ (fun t ht => by have := hfa t ht; omega)).trans ?_)), trivial⟩)⟩)) ?_
  refine rM (te := ti57) (k0 := 0) (us := ((tab j (fun t => kc1 ((ss.getD i default).2.2.getD t default))).map chc)) (rows := [[.v (.int .i64 ((ss.getD i default).2.2.getD j default).1.1), .v (.int .i64 ((ss.getD i default).2.2.getD j default).1.2), .ref (n + 1 + 4 + 7) 3 0 (0 + (((ss.getD i default).2.2.getD j default).2.2.map brc).length)]]) (.inl J) J J J (by rw [iT]; rfl) J (by decide) (by intro r hr; rw [List.mem_singleton] at hr; subst hr; rfl) (cU (f := chc) (n := 3) fun _ => rfl) (by simp) (by rw [List.length_map, eO]; show (2 * (j + 1) + 256) * 40 ≤ _; omega) (by rw [List.length_map, eO]; show j + 1 < _; omega) (by repeat (first | rfl | refine gN om ?_ | refine fB om ?_ | refine (aO _ (fun t ht => by have := hfa t ht; omega)).trans ?_)) J ?_
  refine aC (bA J J J J J) J <| cC (cB (cs' := [_, _, _]) J J J (by repeat (first | exact g0 | refine g1 om ?_ | refine aH om ?_ | refine (aO _ (fun t ht => by have := hfa t ht; omega)).trans ?_)) J J J J) ?_
  refine bE (gB (rq q2 n) (by simp only [List.reverse_cons, List.reverse_nil, List.nil_append, List.cons_append, List.map_cons, List.map_nil, ren, keys, Nat.add_assoc, rq_self, rq_lt h6 h62, rq_add hq2]; kernel_rfl)) J ?_
  have hov : outV (n + 1 + 4 + 7) 3 (((ss.getD i default).2.2.getD j default).2.2.map brc) = .ref (n + 1 + 4 + 7) 3 0 (0 + (((ss.getD i default).2.2.getD j default).2.2.map brc).length) := by rw [kX (fun h => by have := congrArg List.length h; rw [List.length_map, List.length_nil] at this; omega), Nat.zero_add]
  refine Fz.weakH (outH (n + 1 + 4 + 7) 3 (84) (((ss.getD i default).2.2.getD j default).2.2.map brc) (((n + 1 + 4 + 10), { cells := (((tab j (fun t => kc1 ((ss.getD i default).2.2.getD t default))).map chc).flatten ++ [LV.v (.int .i64 ((ss.getD i default).2.2.getD j default).1.1), .v (.int .i64 ((ss.getD i default).2.2.getD j default).1.2)]) ++ [outV (n + 1 + 4 + 7) 3 (((ss.getD i default).2.2.getD j default).2.2.map brc)], sz := 3, elem := (57), st := 0 }) :: ((nK + 1 + 4 + 5), { cells := [.v (.int .i64 (ss.getD i default).1.1), .v (.int .i64 (ss.getD i default).1.2), .ref (n + 1 + 4 + 10) 3 0 (((tab j (fun t => kc1 ((ss.getD i default).2.2.getD t default))).map chc).length + 1)], sz := 3, elem := (54), st := 0 }) :: famH a (fun t => some (obC (57) 0 ((ss.getD t default).2.2.map kc1))) (outH q 3 (54) ((tab i (fun t => (ss.getD t default, a t))).map srw) [(n0 + 3, { cells := [outV q 3 ((tab i (fun t => (ss.getD t default, a t))).map srw)], sz := 1, elem := (24), st := 0 }), (n0 + 1, { cells := [.sl 0 []], sz := 1, elem := (24), st := 0 })]) i)) (subsM.get (bV (fun hne => by exact (by repeat (first | exact g0 | refine g1 om ?_ | refine aH om ?_ | refine (aO _ (fun t ht => by have := hfa t ht; omega)).trans ?_))) ⟨by rw [hov, List.append_assoc]; exact (by repeat (first | exact g0 | refine g1 om ?_ | refine aH om ?_ | refine (aO _ (fun t ht => by have := hfa t ht; omega)).trans ?_)), (by repeat (first | exact g0 | refine g1 om ?_ | refine aH om ?_ | refine (aO _ (fun t ht => by have := hfa t ht; omega)).trans ?_)), dS _ (fun t ht x hx => by cases hx; have := hfa t ht; repeat (first | exact dV _ ht J (fun s hs e => hinj s t hs ht e) | refine g1 om ?_ | refine aH om ?_)) (bV (fun hne => by rw [dB hne]; repeat (first | exact g0 | refine g1 om ?_ | refine aH om ?_ | refine (aO _ (fun t ht => by have := hfa t ht; omega)).trans ?_)) ⟨(by repeat (first | exact g0 | refine g1 om ?_ | refine aH om ?_ | refine (aO _ (fun t ht => by have := hfa t ht; omega)).trans ?_)), (by repeat (first | exact g0 | refine g1 om ?_ | refine aH om ?_ | refine (aO _ (fun t ht => by have := hfa t ht; omega)).trans ?_)), trivial⟩)⟩)) ?_
  refine Fz.cellR [(2, _), (3, _), (6, _), (11, _), (12, _), (13, _), (23, _), (24, _), (25, _)] ⟨J, J, J, J, J, J, J, J, J, trivial⟩ om (by decide) (cU (f := brc) (n := 3) fun _ => rfl) dbrc (by repeat (first | rfl | refine gN om ?_ | refine fB om ?_ | refine (aO _ (fun t ht => by have := hfa t ht; omega)).trans ?_)) ?_
  rw [oI, kd_one om]
  refine aG <| aI (z := 2) J <| aA (cI (((j + 1 : Nat) : Int)) (aU J J om) om) J <| Um J J <| Wn <| aF ?_
  have eu : tab (j + 1) (fun t => kc1 ((ss.getD i default).2.2.getD t default)) = (tab j (fun t => kc1 ((ss.getD i default).2.2.getD t default))) ++ [kc1 ((ss.getD i default).2.2.getD j default)] := tab_succ _
  refine ⟨⟨j + 1, (n + 1 + 4 + 10)⟩, ⟨J, J, J, J, J, J, J, J, J, trivial⟩, by dsimp only; rw [eu, List.map_append, List.map_cons, List.map_nil, iS, outV_snoc]; exact ⟨(Eq.trans (by repeat (first | exact g0 | refine g1 om ?_ | refine aH om ?_ | refine (aO _ (fun t ht => by have := hfa t ht; omega)).trans ?_)) (congrArg (fun z => some (Ob.mk z 3 (57) 0)) (List.append_assoc _ _ _))), (by repeat (first | exact g0 | refine g1 om ?_ | refine aH om ?_ | refine (aO _ (fun t ht => by have := hfa t ht; omega)).trans ?_)), dS _ (fun t ht x hx => by cases hx; have := hfa t ht; repeat (first | exact dV _ ht J (fun s hs e => hinj s t hs ht e) | refine g1 om ?_ | refine aH om ?_)) (bV (fun hne => by rw [dB hne]; repeat (first | exact g0 | refine g1 om ?_ | refine aH om ?_ | refine (aO _ (fun t ht => by have := hfa t ht; omega)).trans ?_)) ⟨(by repeat (first | exact g0 | refine g1 om ?_ | refine aH om ?_ | refine (aO _ (fun t ht => by have := hfa t ht; omega)).trans ?_)), (by repeat (first | exact g0 | refine g1 om ?_ | refine aH om ?_ | refine (aO _ (fun t ht => by have := hfa t ht; omega)).trans ?_)), trivial⟩)⟩, ⟨om, om, om, om⟩, by show (ss.getD i default).2.2.length - (j + 1) < (ss.getD i default).2.2.length - j; omega⟩
 refine Wn <| aV J <| aW <| aT <| aR J ?_
 obtain rfl : j = (ss.getD i default).2.2.length := by omega
 have hK : tab (ss.getD i default).2.2.length (fun t => kc1 ((ss.getD i default).2.2.getD t default)) = (ss.getD i default).2.2.map kc1 := jW (by rw [eO, List.length_map]) fun t ht => by
  rw [eO] at ht
  rw [tab_get _ ht, mapD (f := kc1) ht]
 rw [hK]
 have hov2 : outV q2 3 (((ss.getD i default).2.2.map kc1).map chc) = .ref q2 3 0 (ss.getD i default).2.2.length := by
  rw [kX (fun h => by have := congrArg List.length h; rw [List.length_map, List.length_map, List.length_nil] at this; omega), List.length_map, List.length_map]
 refine fD ((q2, obC (57) 0 ((ss.getD i default).2.2.map kc1)) :: ((nK + 1 + 4 + 5), { cells := srw ((ss.getD i default), q2), sz := 3, elem := (54), st := 0 }) :: famH a (fun t => some (obC (57) 0 ((ss.getD t default).2.2.map kc1))) (outH q 3 (54) ((tab i (fun t => (ss.getD t default, a t))).map srw) [(n0 + 3, { cells := [outV q 3 ((tab i (fun t => (ss.getD t default, a t))).map srw)], sz := 1, elem := (24), st := 0 }), (n0 + 1, { cells := [.sl 0 []], sz := 1, elem := (24), st := 0 })]) i) (by
  refine ⟨by rw [dB (fun h => by have := congrArg List.length h; rw [List.length_map, List.length_map, List.length_nil] at this; omega)]; exact g0, ?_, dS _ (fun t ht x hx => by cases hx; have := hfa t ht; repeat (first | exact dV _ ht J (fun s hs e => hinj s t hs ht e) | refine g1 om ?_ | refine aH om ?_)) (bV (fun hne => by rw [dB hne]; repeat (first | exact g0 | refine g1 om ?_ | refine aH om ?_ | refine (aO _ (fun t ht => by have := hfa t ht; omega)).trans ?_)) ⟨(by repeat (first | exact g0 | refine g1 om ?_ | refine aH om ?_ | refine (aO _ (fun t ht => by have := hfa t ht; omega)).trans ?_)), (by repeat (first | exact g0 | refine g1 om ?_ | refine aH om ?_ | refine (aO _ (fun t ht => by have := hfa t ht; omega)).trans ?_)), trivial⟩)⟩
  rw [hov2]; exact (by repeat (first | exact g0 | refine g1 om ?_ | refine aH om ?_ | refine (aO _ (fun t ht => by have := hfa t ht; omega)).trans ?_))) ?_
 refine aI (z := 7) J <| aA (bA J J J J J) J <| aA (aM J J (by repeat (first | exact g0 | refine g1 om ?_ | refine aH om ?_ | refine (aO _ (fun t ht => by have := hfa t ht; omega)).trans ?_)) J J) J ?_
 refine aA (aM (l := .agg (srw ((ss.getD i default), q2))) J J (by repeat (first | exact g0 | refine g1 om ?_ | refine aH om ?_ | refine (aO _ (fun t ht => by have := hfa t ht; omega)).trans ?_)) J J) J ?_
 refine aA (dA (cs := [_, _, _]) (rows := [[_, _, _]]) J J (by decide) J J J) J <| rN _ (subsM.get (bV (q := q) (sz := 3) (el := (54)) (us := (tab i (fun t => (ss.getD t default, a t))).map srw) (h := (q2, obC (57) 0 ((ss.getD i default).2.2.map kc1)) :: ((nK + 1 + 4 + 5), { cells := srw ((ss.getD i default), q2), sz := 3, elem := (54), st := 0 }) :: famH a (fun t => some (obC (57) 0 ((ss.getD t default).2.2.map kc1))) ([(n0 + 3, { cells := [outV q 3 ((tab i (fun t => (ss.getD t default, a t))).map srw)], sz := 1, elem := (24), st := 0 }), (n0 + 1, { cells := [.sl 0 []], sz := 1, elem := (24), st := 0 })]) i) (fun hne => by rw [dB hne]; repeat (first | exact g0 | refine g1 om ?_ | refine aH om ?_ | refine (aO _ (fun t ht => by have := hfa t ht; omega)).trans ?_)) ⟨(by repeat (first | exact g0 | refine g1 om ?_ | refine aH om ?_ | refine (aO _ (fun t ht => by have := hfa t ht; omega)).trans ?_)), (by repeat (first | exact g0 | refine g1 om ?_ | refine aH om ?_ | refine (aO _ (fun t ht => by have := hfa t ht; omega)).trans ?_)), dS _ (fun t ht x hx => by cases hx; have := hfa t ht; repeat (first | exact dV _ ht J (fun s hs e => hinj s t hs ht e) | refine g1 om ?_ | refine aH om ?_)) (⟨(by repeat (first | exact g0 | refine g1 om ?_ | refine aH om ?_ | refine (aO _ (fun t ht => by have := hfa t ht; omega)).trans ?_)), (by repeat (first | exact g0 | refine g1 om ?_ | refine aH om ?_ | refine (aO _ (fun t ht => by have := hfa t ht; omega)).trans ?_)), trivial⟩)⟩)) ?_
 refine dE (te := ti54) (f := srw) (q := q) (us := (tab i (fun t => (ss.getD t default, a t)))) (u := ((ss.getD i default), q2)) J J J J J rJ (by decide) (by rw [eO]; show (2 * (i + 1) + 256) * 40 ≤ _; omega) (by rw [eO]; omega) (by repeat (first | rfl | refine gN om ?_ | refine fB om ?_ | refine (aO _ (fun t ht => by have := hfa t ht; omega)).trans ?_)) (by repeat (first | rfl | refine gN om ?_ | refine fB om ?_ | refine (aO _ (fun t ht => by have := hfa t ht; omega)).trans ?_)) J ?_
 refine aA (bA J J J J J) J <| aZ (oStV J J J J J (by repeat (first | exact g0 | refine g1 om ?_ | refine aH om ?_ | refine (aO _ (fun t ht => by have := hfa t ht; omega)).trans ?_))) ?_
 refine Wn <| aG <| Ck [2,3,11,12,13] J <| aI (z := 2) J <| aA (cI (((i + 1 : Nat) : Int)) (aU J J om) om) J <| Um J J <| Wn <| aF ?_
 have ea : tab (i + 1) (fun t => (ss.getD t default, if t = i then q2 else a t)) = (tab i (fun t => (ss.getD t default, a t))) ++ [((ss.getD i default), q2)] := by
  rw [tab_succ, if_pos rfl]
  exact congrArg (· ++ _) (tab_eq fun t ht => by rw [if_neg om])
 refine ⟨⟨i + 1, (n + 1 + 4), fun t => if t = i then q2 else a t⟩, ⟨J, J, J, J, J, trivial⟩, ?_, ⟨om, om, om, fun t ht => ?_, fun s t hs ht e => ?_⟩, by show ss.length - (i + 1) < ss.length - i; omega⟩
 ·dsimp only
  rw [ea]
  refine dS _ (fun t ht x hx => ?_) (bV (fun hne => by rw [dB hne]; repeat (first | exact g0 | refine g1 om ?_ | refine aH om ?_ | refine (aO _ (fun t ht => by have := hfa t ht; omega)).trans ?_)) ⟨(by repeat (first | exact g0 | refine g1 om ?_ | refine aH om ?_ | refine (aO _ (fun t ht => by have := hfa t ht; omega)).trans ?_)), (by repeat (first | exact g0 | refine g1 om ?_ | refine aH om ?_ | refine (aO _ (fun t ht => by have := hfa t ht; omega)).trans ?_)), trivial⟩)
  cases hx
  by_cases e : t = i
  ·subst e
   rw [if_pos rfl]
   exact (by repeat (first | exact g0 | refine g1 om ?_ | refine aH om ?_ | refine (aO _ (fun t ht => by have := hfa t ht; omega)).trans ?_))
  ·rw [if_neg e]
   have ht' : t < i := by omega
   have := hfa t ht'
   repeat (first | exact dV _ ht' rfl (fun s hs e => hinj s t hs ht' e) | refine g1 om ?_ | refine aH om ?_)
 ·dsimp only
  by_cases e : t = i
  ·rw [if_pos e]; omega
  ·rw [if_neg e]; have := hfa t om; omega
 ·dsimp only at e
  by_cases e1 : s = i <;> by_cases e2 : t = i
  ·omega
  ·rw [if_pos e1, if_neg e2] at e; have := hfa t om; omega
  ·rw [if_neg e1, if_pos e2] at e; have := hfa s om; omega
  ·rw [if_neg e1, if_neg e2] at e; exact hinj s t om om e
end Go.Proofs.YtahljdjhhapngaaGreat
namespace Go.Proofs.YtahljdjhhapngaaGreat
open Go.Ab Go.RowKit
theorem law_linear (k : Nat) (ss : List Go.Ab.ST) (f kk cc : NM) (hI : ∀ s, s ∈ ss → IS s) (hf1 : I64 f.1) (hf2 : I64 f.2) (hk1 : I64 kk.1) (hk2 : I64 kk.2) (hc1 : I64 cc.1) (hc2 : I64 cc.2) : Run Tryz.prog T E0 (.call 4 [lvMo k ss, lvM f, lvM kk, lvM cc] (.v (.bool true))) := by
 have hIV : IV [f, kk, cc] := fun a ha => by
  simp only [List.mem_cons, List.not_mem_nil, or_false] at ha
  rcases ha with rfl | rfl | rfl
  ·exact ⟨hf1, hf2⟩
  ·exact ⟨hk1, hk2⟩
  ·exact ⟨hc1, hc2⟩
 obtain ⟨R, S, E, hB, hRl, hSl⟩ := dbO_pair ss f (vals_len _ _) (fun hV => (iZ hV).pos)
 refine bH Tryz.func4 J J (dL J) <| Rg 5 J <| bD (dW J J) J <| bD (dW J J) J <| bD (dW J J) J <| bD (dW J J) J <| Ua J J <| Wn <| aB <| Rg 26 J <| aA (aM (l := lvMo k ss) J J gG J J) J ?_
 refine aA (aK J (dfew_run k 0 0 ss [] []) (bY (by intro c hc; simp only [List.mem_cons, List.not_mem_nil, or_false] at hc; rcases hc with rfl | rfl | rfl; exact dc1; exact (.sl 0 [] (by simp)); exact (.sl 0 [] (by simp))))) J <| eK (fun h25 => ?_) (fun h25 => ?_)
 rotate_left
 ·refine aA (eG J) J <| Um J J <| K1 J J <| K1 J J <| K1 J J <| aA (bK J J) J <| Um J J <| K1 J J <| K1 J J <| K1 J J <| K1 J J <| K1 J J <| K1 J J <| aA (bK J J) J <| Um J J <| K1 J J <| K1 J J <| K1 J J <| aA (bK J J) J <| Um J J <| K1 J J <| K1 J J <| K1 J J <| aA (bK J J) J ?_
  refine Nk [4,5,6,7,49] J <| aS J <| aB <| Rg 2 J <| aA (aK J (fS) dD) J <| Ua J J <| Wn <| aX ?_
  exact post (n := 0) (.inr J) J J (by simp)
 refine aA (eG J) J <| Um J J <| aJ J (aM (l := lvMo k ss) J J gG J J) J ?_
 refine aJ J (aK J (qvmodel_run k ss hI) dD) J <| eK (fun h29 => ?_) (fun h29 => ?_)
 rotate_left
 ·refine aJ J (eG J) J <| aA (bM J J) J <| Um J J <| K1 J J <| K1 J J <| K1 J J <| K1 J J <| K1 J J <| K1 J J <| aA (bK J J) J <| Um J J <| K1 J J <| K1 J J <| K1 J J <| aA (bK J J) J <| Um J J <| K1 J J <| K1 J J <| K1 J J <| aA (bK J J) J <| Nk [4,5,6,7,49] J <| aS J <| aB ?_
  refine Rg 2 J <| aA (aK J (fS) dD) J <| Ua J J <| Wn <| aX ?_
  exact post (n := 0) (.inr J) J J (by simp)
 refine aJ J (eG J) J <| aA (bM J J) J <| Um J J <| aJ J (aM (l := lvM f) J J gG J J) J ?_
 refine aJ J (aM (l := lvM kk) J J gG J J) J ?_
 refine aJ J (aM (l := lvM cc) J J gG J J) J ?_
 refine aJ J (dA (cs := mc f ++ mc kk ++ mc cc) (rows := [f, kk, cc].map mc) J J (by decide) J J J) J <| aJ J (aK J (qall_run 2 [f, kk, cc] hIV (by show 3 < _; omega)) (bY (by intro c hc; simp only [List.mem_cons, List.not_mem_nil, or_false] at hc; rcases hc with rfl; exact (.sl _ _ fun row hr => cL dmc row hr)))) J <| eK (fun h37 => ?_) (fun h37 => ?_)
 rotate_left
 ·refine aJ J (eG J) J <| aA (bM J J) J <| Um J J <| K1 J J <| K1 J J <| K1 J J <| aA (bK J J) J <| Um J J <| K1 J J <| K1 J J <| K1 J J <| aA (bK J J) J <| Nk [4,5,6,7,49] J <| aS J <| aB <| Rg 2 J <| aA (aK J (fS) dD) J <| Ua J J <| Wn <| aX ?_
  exact post (n := 0) (.inr J) J J (by simp)
 refine aJ J (eG J) J <| aA (bM J J) J <| Um J J <| aJ J (aM (l := lvM f) J J gG J J) J ?_
 refine aJ J (aK J (qfactor_run f) dD) J <| eK (fun h42 => ?_) (fun h42 => ?_)
 rotate_left
 ·refine aJ J (eG J) J <| aA (bM J J) J <| Um J J <| K1 J J <| K1 J J <| K1 J J <| aA (bK J J) J <| Nk [4,5,6,7,49] J <| aS J <| aB <| Rg 2 J <| aA (aK J (fS) dD) J <| Ua J J <| Wn <| aX ?_
  exact post (n := 0) (.inr J) J J (by simp)
 refine aJ J (eG J) J <| aA (bM J J) J <| Um J J <| aJ J (bA J J J J J) J <| aJ J (aM J J gG J J) J ?_
 refine aJ J (nD J J) J <| aY (fun h48 => ?_) (fun h48 => ?_)
 ·refine aA (bM J J) J <| Nk [4,5,6,7,49] J <| aS J <| aB <| Rg 2 J <| aA (aK J (fS) dD) J <| Ua J J <| Wn <| aX <| post (n := 0) (.inr J) J ?_ dD
  rfl
 refine aA (bM J J) J <| Nk [4,5,6,7,49] J <| aV J <| aE ?_
 have hV : VMo ss = true := by assumption
 have hall : ([f, kk, cc].all vn) = true := by assumption
 have hfac : (decide (0 < f.1) && decide (f.1 < f.2)) = true := by assumption
 rw [Bool.and_eq_true] at hfac
 have hf0 := of_decide_eq_true hfac.1
 have hf3 := of_decide_eq_true hfac.2
 have hvall := vn_all hall
 have hvf : VN f := hvall f (by simp)
 have hkv : VN kk := hvall kk (by simp)
 have hccv : VN cc := hvall cc (by simp)
 have hk3 := hkv.all3
 have hc3' := hccv.all3
 have hd01 := fac01 hvf hf0 hf3
 have hV1 := iZ hV
 have hn40 := hV1.wt.len
 have hpos := hV1.pos
 have hkp : 0 < nq kk := nq_pos hkv om
 have hD := kG hV hd01.1 hd01.2
 refine Rg 10 J <| aA (aM (l := lvMo k ss) J J gG J J) J ?_
 refine aA (aM (l := lvM f) J J gG J J) J ?_
 refine aA (bN (b := .tup [.sl (kd R.length) (R.map mc), .sl (kd S.length) (S.map ic), .v (.int .i64 E)]) (aK J (kT k ss f hI hf1 hf2) dD) hB) J <| Um J J <| aA (dX J J) J <| aA (dX J J) J <| aA (dX J J) J <| Ua J J <| Ua J J <| Ua J J <| Nk [4,5,6,7,9,11] J <| lW (z := 4) J <| gO (aM (l := lvMo k ss) J J gG J J) J ?_
 refine WN.F (cal := .func 24) (first := []) (cap := []) (ls := [lvMo k ss]) (as_ := [lvMo k ss]) (Φ := fun r h' n' => ∃ (q : Nat) (a : Nat → Nat), r = .agg [.ref q 3 0 ss.length] ∧ 45 ≤ q ∧ q < n' ∧ 45 ≤ n' ∧ (∀ t, t < ss.length → 45 ≤ a t ∧ a t < n' ∧ a t ≠ q) ∧ (∀ s t, s < ss.length → t < ss.length → a s = a t → s = t) ∧ getH h' q = some { cells := ((tab ss.length (fun t => (ss.getD t default, a t))).map srw).flatten, sz := 3, elem := (54), st := 0 } ∧ ∀ t, t < ss.length → getH h' (a t) = some (obC (57) 0 ((ss.getD t default).2.2.map kc1))) [] J J (nH (ls := [lvMo k ss]) (bY (by intro c hc; simp only [List.mem_cons, List.not_mem_nil, or_false] at hc; rcases hc with rfl; exact dc1))) (by intro p hp; cases hp) Tryz.func24 J J (dL J) J ((copy_own 45 k ss hV).mono (by rintro x e h n' ⟨hx, h1, q, a, hr, h2, h3, h4, h5, h6, h7⟩; exact ⟨hx, _, hr, q, a, rfl, h2, h3, h1, h4, h5, h6, h7⟩)) ?_
 rintro r h' n1 ⟨q, a, rfl, hq0, hq1, hn1, hfa0, hinj, hgq, hga⟩
 refine ⟨famH a (fun t => some (obC (57) 0 ((ss.getD t default).2.2.map kc1))) ((q, { cells := ((tab ss.length (fun t => (ss.getD t default, a t))).map srw).flatten, sz := 3, elem := (54), st := 0 }) :: [(3, { cells := mc cc, sz := 2, elem := (26), st := 0 }), (2, { cells := mc kk, sz := 2, elem := (26), st := 0 }), (1, { cells := mc f, sz := 2, elem := (26), st := 0 }), (0, { cells := [.sl k (ss.map stc)], sz := 1, elem := (24), st := 0 })]) ss.length, Both.fam _ (fun t ht => ⟨(hfa0 t ht).1, fun x hx => by cases hx; exact hga t ht⟩) (.cons (.inr ⟨hq0, hgq⟩) (.old (qW om om om om))), ?_⟩
 rw [famH_congr (a' := a) (o' := fun t => some (obC (57) 0 (MX (nq kk) (nq cc) ss 0 0 t))) ss.length (fun t ht => ⟨rfl, by show some (obC (57) 0 _) = some (obC (57) 0 (MX (nq kk) (nq cc) ss 0 0 t)); unfold MX; rw [if_neg om]; by_cases e : t = 0; rw [if_pos e]; rfl; rw [if_neg e]⟩)]
 have hfa := hfa0
 refine WN.S (eC J) J <| WN.S0 (cB (cs' := [_]) J J J g0 J J J J) <| lF <| aB <| Rg 4 J <| aA (bA J J J J J) J <| aA (aM J J (by repeat (first | exact g0 | refine g1 om ?_ | refine (aO _ (fun t ht => by have := hfa t ht; omega)).trans ?_)) J J) J ?_
 refine aA (kA J J) J <| Um J J <| Wn <| aL <| bC (α := Nat) (fun i => [(5, .ptr 1 0), (6, .ptr 2 0), (7, .ptr 3 0), (9, .sl (kd R.length) (R.map mc)), (11, .v (.int .i64 E)), (12, .ptr 43 0), (61, .ref q 3 0 ss.length), (62, .v (.int .i64 (ss.length : Int))), (63, .v (.int .i64 (i : Int)))]) (fun i => (43, { cells := [.ref q 3 0 ss.length], sz := 1, elem := (24), st := 0 }) :: famH a (fun t => some (obC (57) 0 (MX (nq kk) (nq cc) ss i 0 t))) ((q, { cells := ((tab ss.length (fun t => (ss.getD t default, a t))).map srw).flatten, sz := 3, elem := (54), st := 0 }) :: [(3, { cells := mc cc, sz := 2, elem := (26), st := 0 }), (2, { cells := mc kk, sz := 2, elem := (26), st := 0 }), (1, { cells := mc f, sz := 2, elem := (26), st := 0 }), (0, { cells := [.sl k (ss.map stc)], sz := 1, elem := (24), st := 0 })]) ss.length) (fun i n => i ≤ ss.length ∧ n1 ≤ n ∧ ∀ t, t < i → linOk (nq kk) (nq cc) (ss.getD t default)) (fun i => ss.length - i) (0) ⟨J, J, J, J, J, J, J, J, J, trivial⟩ ⟨(by repeat (first | exact g0 | refine g1 om ?_ | refine (aO _ (fun t ht => by have := hfa t ht; omega)).trans ?_)), dS _ (fun t ht x hx => by cases hx; have := hfa t ht; repeat (first | exact dV _ ht J (fun s hs e => hinj s t hs ht e) | refine g1 om ?_)) ⟨(by repeat (first | exact g0 | refine g1 om ?_ | refine (aO _ (fun t ht => by have := hfa t ht; omega)).trans ?_)), (by repeat (first | exact g0 | refine g1 om ?_ | refine (aO _ (fun t ht => by have := hfa t ht; omega)).trans ?_)), (by repeat (first | exact g0 | refine g1 om ?_ | refine (aO _ (fun t ht => by have := hfa t ht; omega)).trans ?_)), (by repeat (first | exact g0 | refine g1 om ?_ | refine (aO _ (fun t ht => by have := hfa t ht; omega)).trans ?_)), (by repeat (first | exact g0 | refine g1 om ?_ | refine (aO _ (fun t ht => by have := hfa t ht; omega)).trans ?_)), trivial⟩⟩ ⟨Nat.zero_le _, om, fun t ht => absurd ht om⟩ ?_
 rintro i n hF
 change WC _ _ _ _ _ [(5, .ptr 1 0), (6, .ptr 2 0), (7, .ptr 3 0), (9, .sl (kd R.length) (R.map mc)), (11, .v (.int .i64 E)), (12, .ptr 43 0), (61, .ref q 3 0 ss.length), (62, .v (.int .i64 (ss.length : Int))), (63, .v (.int .i64 (i : Int)))] ((43, { cells := [.ref q 3 0 ss.length], sz := 1, elem := (24), st := 0 }) :: famH a (fun t => some (obC (57) 0 (MX (nq kk) (nq cc) ss i 0 t))) ((q, { cells := ((tab ss.length (fun t => (ss.getD t default, a t))).map srw).flatten, sz := 3, elem := (54), st := 0 }) :: [(3, { cells := mc cc, sz := 2, elem := (26), st := 0 }), (2, { cells := mc kk, sz := 2, elem := (26), st := 0 }), (1, { cells := mc f, sz := 2, elem := (26), st := 0 }), (0, { cells := [.sl k (ss.map stc)], sz := 1, elem := (24), st := 0 })]) ss.length) n _
 obtain ⟨hi, hnn, hok⟩ := hF
 obtain ⟨nK, hnK⟩ : ∃ z, z = n := ⟨n, rfl⟩
 subst hnK
 refine Rg 1 J <| aA (bP J J) J <| aY (fun h64 => ?_) (fun h64 => ?_)
 ·refine Wn <| aS J <| aE <| aL <| Rg 4 J <| aA (cG (j := i) J J J J om om J) J <| aA (bN (b := .agg (srw ((ss.getD i default), a i))) (oLdSt (us := (tab ss.length (fun t => (ss.getD t default, a t)))) (j := i) J J (by repeat (first | exact g0 | refine g1 om ?_ | refine (aO _ (fun t ht => by have := hfa t ht; omega)).trans ?_)) J J (by rw [eO]; omega)) (by rw [tab_get _ om])) J ?_
  refine bD (eC J) J <| aZ (cB (cs' := srw ((ss.getD i default), a i)) J J J g0 J J J J) <| Wn <| Rg 4 J <| aA (bA J J J J J) J <| aA (aM J J (by repeat (first | exact g0 | refine g1 om ?_ | refine (aO _ (fun t ht => by have := hfa t ht; omega)).trans ?_)) J J) J ?_
  refine aA (kA J J) J <| Um J J <| Nk [5,6,7,9,11,12,14,61,62,63,69,70] J <| cA ?_
  refine bC (α := Nat) (fun j => [(5, .ptr 1 0), (6, .ptr 2 0), (7, .ptr 3 0), (9, .sl (kd R.length) (R.map mc)), (11, .v (.int .i64 E)), (12, .ptr 43 0), (14, .ptr (nK + 1 + 2) 0), (61, .ref q 3 0 ss.length), (62, .v (.int .i64 (ss.length : Int))), (63, .v (.int .i64 (i : Int))), (69, .v (.int .i64 ((ss.getD i default).2.2.length : Int))), (70, .v (.int .i64 (j : Int)))]) (fun j => ((nK + 1 + 2), { cells := srw ((ss.getD i default), a i), sz := 3, elem := (54), st := 0 }) :: (43, { cells := [.ref q 3 0 ss.length], sz := 1, elem := (24), st := 0 }) :: famH a (fun t => some (obC (57) 0 (MX (nq kk) (nq cc) ss i j t))) ((q, { cells := ((tab ss.length (fun t => (ss.getD t default, a t))).map srw).flatten, sz := 3, elem := (54), st := 0 }) :: [(3, { cells := mc cc, sz := 2, elem := (26), st := 0 }), (2, { cells := mc kk, sz := 2, elem := (26), st := 0 }), (1, { cells := mc f, sz := 2, elem := (26), st := 0 }), (0, { cells := [.sl k (ss.map stc)], sz := 1, elem := (24), st := 0 })]) ss.length) (fun j n => j ≤ (ss.getD i default).2.2.length ∧ nK + 9 ≤ n ∧ ∀ t, t < j → (outN (nq ((ss.getD i default).2.2.getD t default).1 * (nq kk) + (nq cc))).isSome = true) (fun j => (ss.getD i default).2.2.length - j) (0) ⟨J, J, J, J, J, J, J, J, J, J, J, J, trivial⟩ ⟨(by repeat (first | exact g0 | refine g1 om ?_ | refine (aO _ (fun t ht => by have := hfa t ht; omega)).trans ?_)), (by repeat (first | exact g0 | refine g1 om ?_ | refine (aO _ (fun t ht => by have := hfa t ht; omega)).trans ?_)), dS _ (fun t ht x hx => by cases hx; have := hfa t ht; repeat (first | exact dV _ ht J (fun s hs e => hinj s t hs ht e) | refine g1 om ?_)) ⟨(by repeat (first | exact g0 | refine g1 om ?_ | refine (aO _ (fun t ht => by have := hfa t ht; omega)).trans ?_)), (by repeat (first | exact g0 | refine g1 om ?_ | refine (aO _ (fun t ht => by have := hfa t ht; omega)).trans ?_)), (by repeat (first | exact g0 | refine g1 om ?_ | refine (aO _ (fun t ht => by have := hfa t ht; omega)).trans ?_)), (by repeat (first | exact g0 | refine g1 om ?_ | refine (aO _ (fun t ht => by have := hfa t ht; omega)).trans ?_)), (by repeat (first | exact g0 | refine g1 om ?_ | refine (aO _ (fun t ht => by have := hfa t ht; omega)).trans ?_)), trivial⟩⟩ ⟨Nat.zero_le _, om, fun t ht => absurd ht om⟩ ?_
  rintro j n hF
  change WC _ _ _ _ _ [(5, .ptr 1 0), (6, .ptr 2 0), (7, .ptr 3 0), (9, .sl (kd R.length) (R.map mc)), (11, .v (.int .i64 E)), (12, .ptr 43 0), (14, .ptr (nK + 1 + 2) 0), (61, .ref q 3 0 ss.length), (62, .v (.int .i64 (ss.length : Int))), (63, .v (.int .i64 (i : Int))), (69, .v (.int .i64 ((ss.getD i default).2.2.length : Int))), (70, .v (.int .i64 (j : Int)))] (((nK + 1 + 2), { cells := srw ((ss.getD i default), a i), sz := 3, elem := (54), st := 0 }) :: (43, { cells := [.ref q 3 0 ss.length], sz := 1, elem := (24), st := 0 }) :: famH a (fun t => some (obC (57) 0 (MX (nq kk) (nq cc) ss i j t))) ((q, { cells := ((tab ss.length (fun t => (ss.getD t default, a t))).map srw).flatten, sz := 3, elem := (54), st := 0 }) :: [(3, { cells := mc cc, sz := 2, elem := (26), st := 0 }), (2, { cells := mc kk, sz := 2, elem := (26), st := 0 }), (1, { cells := mc f, sz := 2, elem := (26), st := 0 }), (0, { cells := [.sl k (ss.map stc)], sz := 1, elem := (24), st := 0 })]) ss.length) n _
  obtain ⟨hj, hn2, hjo⟩ := hF
  have hai := hfa i om
  have h14n : nK + (1 + 2) < n := by omega
  have hain : a i < n := by omega
  have h2n : 2 < n := by omega
  have h3n : 3 < n := by omega
  refine Rg 1 J <| aA (bP J J) J <| aY (fun h71 => ?_) (fun h71 => ?_)
  rotate_left
  ·refine Wn <| aV J <| aW <| aT <| fE J <| aG <| aI (z := 2) J <| aA (cI (((i + 1 : Nat) : Int)) (aU J J om) om) J <| Um J J <| Wn <| aF ?_
   obtain rfl : j = (ss.getD i default).2.2.length := by omega
   refine ⟨i + 1, ⟨J, J, J, J, J, J, J, J, J, trivial⟩, ⟨(by repeat (first | exact g0 | refine g1 om ?_ | refine (aO _ (fun t ht => by have := hfa t ht; omega)).trans ?_)), dS _ (fun t ht x hx => ?_) ⟨(by repeat (first | exact g0 | refine g1 om ?_ | refine (aO _ (fun t ht => by have := hfa t ht; omega)).trans ?_)), (by repeat (first | exact g0 | refine g1 om ?_ | refine (aO _ (fun t ht => by have := hfa t ht; omega)).trans ?_)), (by repeat (first | exact g0 | refine g1 om ?_ | refine (aO _ (fun t ht => by have := hfa t ht; omega)).trans ?_)), (by repeat (first | exact g0 | refine g1 om ?_ | refine (aO _ (fun t ht => by have := hfa t ht; omega)).trans ?_)), (by repeat (first | exact g0 | refine g1 om ?_ | refine (aO _ (fun t ht => by have := hfa t ht; omega)).trans ?_)), trivial⟩⟩, ⟨om, om, fun t ht y hy => ?_⟩, by show ss.length - (i + 1) < ss.length - i; omega⟩
   ·cases hx
    have := hfa t ht
    rw [← MX_end]
    repeat (first | exact dV _ ht rfl (fun s hs e => hinj s t hs ht e) | refine g1 om ?_)
   ·by_cases e : t = i
    ·subst e
     obtain ⟨s, hs, rfl⟩ := List.getElem_of_mem hy
     have := hjo s hs
     rwa [List.getD_eq_getElem?_getD, List.getElem?_eq_getElem hs] at this
    ·exact hok t om y hy
  refine Wn <| aS J <| aE <| aL ?_
  have hm := bG (us := ss) (i := i) om
  have hcl := hV1.cs _ hm
  have hmc := bG (us := (ss.getD i default).2.2) (i := j) om
  have hcv := (oV hV hm hmc).1
  have hc3 := hcv.all3
  refine Rg 2 J <| Um J J <| Ua J J <| Nk [5,6,7,9,11,12,14,15,61,62,63,69,70] J <| bL (z := 15) J kR <| aC (bA J J J J J) J <| aC (aM J J (by repeat (first | exact g0 | refine g1 om ?_ | refine (aO _ (fun t ht => by have := hfa t ht; omega)).trans ?_)) J J) J ?_
  refine Dm J J <| aC (cG (j := j) J J J J om (by show j < (ss.getD i default).2.2.length; omega) J) J <| aC (bA J J J J J) J <| aC (bN (b := lvM ((ss.getD i default).2.2.getD j default).1) (oLdC0 (us := MX (nq kk) (nq cc) ss i j i) (j := j) J J (by repeat (first | exact dV _ om J (fun s hs e => hinj s i hs om e) | refine g1 om ?_)) J J (by rw [MX_len]; omega)) (by rw [MX_get om]; rfl)) J ?_
  refine aC (bN (b := lvQ (nq ((ss.getD i default).2.2.getD j default).1)) (aK J (gU ((ss.getD i default).2.2.getD j default).1 hc3.1 hc3.2.1 hcv) dD) J) J <| aC (aM (l := lvM kk) J J (by repeat (first | exact g0 | refine g1 om ?_ | refine (aO _ (fun t ht => by have := hfa t ht; omega)).trans ?_)) J J) J ?_
  refine aC (bN (b := lvQ (nq kk)) (aK J (gU kk hk3.1 hk3.2.1 hkv) dD) J) J <| aC (aK J (nrmul_run (nq ((ss.getD i default).2.2.getD j default).1) (nq kk) (hcv.bd.mono om) (hkv.bd.mono om)) dD) J <| aC (aM (l := lvM cc) J J (by repeat (first | exact g0 | refine g1 om ?_ | refine (aO _ (fun t ht => by have := hfa t ht; omega)).trans ?_)) J J) J ?_
  refine aC (bN (b := lvQ (nq cc)) (aK J (gU cc hc3'.1 hc3'.2.1 hccv) dD) J) J <| aC (aK J (jY (nq ((ss.getD i default).2.2.getD j default).1 * (nq kk)) (nq cc) ((hcv.bd.mul hkv.bd).mono om) (hccv.bd.mono om)) dD) J <| qM (eC J) J <| cC (cB (cs' := qc (nq ((ss.getD i default).2.2.getD j default).1 * (nq kk) + (nq cc))) J J J g0 J J J J) <| bE (gB (rn n) (by simp only [List.reverse_cons, List.reverse_nil, List.nil_append, List.cons_append, List.map_cons, List.map_nil, ren, keys, Nat.add_assoc, pN, qF h14n, qF hain, qF h2n, qF h3n]; kernel_rfl)) J <| Ck [5,6,7,9,11,12,14,15,16,61,62,63,69,70] J <| Rg 8 J <| aA (aM (l := lvQ (nq ((ss.getD i default).2.2.getD j default).1 * (nq kk) + (nq cc))) J J (by repeat (first | exact g0 | refine g1 om ?_ | refine (aO _ (fun t ht => by have := hfa t ht; omega)).trans ?_)) J J) J ?_
  refine aA (bN (b := .tup [lvM (linR (nq kk) (nq cc) ((ss.getD i default).2.2.getD j default).1), .v (.bool (outN (nq ((ss.getD i default).2.2.getD j default).1 * (nq kk) + (nq cc))).isSome)]) (aK J (nfrom_run (nq ((ss.getD i default).2.2.getD j default).1 * (nq kk) + (nq cc))) dD) J) J <| Um J J <| aA (dX J J) J <| aA (dX J J) J <| eK (fun h90 => ?_) (fun h90 => ?_)
  rotate_left
  ·refine bD (eC J) J <| aZ (cB (cs' := mc (linR (nq kk) (nq cc) ((ss.getD i default).2.2.getD j default).1)) J J J g0 J J J J) <| Ua J J <| Nk [5,6,7,9,11,12,14,15,17,18,61,62,63,69,70] J <| aB <| Rg 2 J <| Um J J <| aA (eG J) J <| Nk [5,6,7,9,11,12,14,15,17,61,62,63,69,70,92] J <| aS J <| aB <| Rg 2 J <| aA (aK J (fS) dD) J <| Ua J J <| Nk [8] J <| aX <| aN <| bJ <| dQ <| aN <| bJ ?_
   refine aN ?_
   exact post (n := 0) (.inr J) J J (by simp)
  refine bD (eC J) J <| aZ (cB (cs' := mc (linR (nq kk) (nq cc) ((ss.getD i default).2.2.getD j default).1)) J J J g0 J J J J) <| Ua J J <| Nk [5,6,7,9,11,12,14,15,17,18,61,62,63,69,70] J <| aB <| Rg 2 J <| Um J J <| aA (eG J) J <| Nk [5,6,7,9,11,12,14,15,17,61,62,63,69,70,92] J <| aV J <| aE <| aI (z := 7) J <| aA (bA J J J J J) J <| aA (aM J J (by repeat (first | exact g0 | refine g1 om ?_ | refine (aO _ (fun t ht => by have := hfa t ht; omega)).trans ?_)) J J) J ?_
  refine Um J J <| aA (aM (l := lvM (linR (nq kk) (nq cc) ((ss.getD i default).2.2.getD j default).1)) J J (by repeat (first | exact g0 | refine g1 om ?_ | refine (aO _ (fun t ht => by have := hfa t ht; omega)).trans ?_)) J J) J ?_
  refine aA (cG (j := j) J J J J om (by show j < (ss.getD i default).2.2.length; omega) J) J <| aA (bA J J J J J) J <| aZ (oStC0 (us := MX (nq kk) (nq cc) ss i j i) J J J (by repeat (first | exact dV _ om J (fun s hs e => hinj s i hs om e) | refine g1 om ?_)) J (by rw [MX_len]; omega)) ?_
  refine Wn <| aG <| Ck [5,6,7,9,11,12,14,61,62,63,69,70] J <| aI (z := 2) J <| aA (cI (((j + 1 : Nat) : Int)) (aU J J om) om) J <| Um J J <| Wn <| aF ?_
  have hset := MX_set (k := (nq kk)) (c := (nq cc)) (ss := ss) (i := i) (j := j) om
  refine ⟨j + 1, ⟨J, J, J, J, J, J, J, J, J, J, J, J, trivial⟩, ⟨(by repeat (first | exact g0 | refine g1 om ?_ | refine (aO _ (fun t ht => by have := hfa t ht; omega)).trans ?_)), (by repeat (first | exact g0 | refine g1 om ?_ | refine (aO _ (fun t ht => by have := hfa t ht; omega)).trans ?_)), dS _ (fun t ht x hx => ?_) ⟨(by repeat (first | exact g0 | refine g1 om ?_ | refine (aO _ (fun t ht => by have := hfa t ht; omega)).trans ?_)), (by repeat (first | exact g0 | refine g1 om ?_ | refine (aO _ (fun t ht => by have := hfa t ht; omega)).trans ?_)), (by repeat (first | exact g0 | refine g1 om ?_ | refine (aO _ (fun t ht => by have := hfa t ht; omega)).trans ?_)), (by repeat (first | exact g0 | refine g1 om ?_ | refine (aO _ (fun t ht => by have := hfa t ht; omega)).trans ?_)), (by repeat (first | exact g0 | refine g1 om ?_ | refine (aO _ (fun t ht => by have := hfa t ht; omega)).trans ?_)), trivial⟩⟩, ⟨om, om, fun t ht => ?_⟩, by show (ss.getD i default).2.2.length - (j + 1) < (ss.getD i default).2.2.length - j; omega⟩
  ·cases hx
   have := hfa t ht
   by_cases e : t = i
   ·subst e
    rw [← hset]; exact g0
   ·rw [MX_ne (j := j + 1) (j' := j) e]
    refine g1 (fun h => e (hinj t i ht om h.symm)) ?_
    repeat (first | exact dV _ ht rfl (fun s hs e => hinj s t hs ht e) | refine g1 om ?_)
  ·by_cases e : t = j
   ·subst e; exact h90
   ·exact hjo t om
 refine Wn <| aV J <| aW <| aT <| aR J ?_
 obtain rfl : i = ss.length := by omega
 have hIN : ∀ s, s ∈ (ss.map (linS (nq kk) (nq cc))) → IS s := linS_is hI
 obtain ⟨R', S', E', hB', hRl', hSl'⟩ := dbO_pair (ss.map (linS (nq kk) (nq cc))) f (vals_len _ _) (fun hV => (iZ hV).pos)
 have hQ : getH ((43, { cells := [.ref q 3 0 ss.length], sz := 1, elem := (24), st := 0 }) :: famH a (fun t => some (obC (57) 0 (MX (nq kk) (nq cc) ss ss.length 0 t))) ((q, { cells := ((tab ss.length (fun t => (ss.getD t default, a t))).map srw).flatten, sz := 3, elem := (54), st := 0 }) :: [(3, { cells := mc cc, sz := 2, elem := (26), st := 0 }), (2, { cells := mc kk, sz := 2, elem := (26), st := 0 }), (1, { cells := mc f, sz := 2, elem := (26), st := 0 }), (0, { cells := [.sl k (ss.map stc)], sz := 1, elem := (24), st := 0 })]) ss.length) q = some { cells := ((USX (nq kk) (nq cc) ss a ss.length 0).map srw).flatten, sz := 3, elem := (54), st := 0 } := by rw [USX_srw]; exact (by repeat (first | exact g0 | refine g1 om ?_ | refine (aO _ (fun t ht => by have := hfa t ht; omega)).trans ?_))
 have hU : ∀ p, p ∈ (USX (nq kk) (nq cc) ss a ss.length 0) → getH ((43, { cells := [.ref q 3 0 ss.length], sz := 1, elem := (24), st := 0 }) :: famH a (fun t => some (obC (57) 0 (MX (nq kk) (nq cc) ss ss.length 0 t))) ((q, { cells := ((tab ss.length (fun t => (ss.getD t default, a t))).map srw).flatten, sz := 3, elem := (54), st := 0 }) :: [(3, { cells := mc cc, sz := 2, elem := (26), st := 0 }), (2, { cells := mc kk, sz := 2, elem := (26), st := 0 }), (1, { cells := mc f, sz := 2, elem := (26), st := 0 }), (0, { cells := [.sl k (ss.map stc)], sz := 1, elem := (24), st := 0 })]) ss.length) p.2 = some (obC (57) 0 p.1.2.2) := fun p hp => by
  obtain ⟨t, ht, rfl⟩ := rK.1 hp
  have := hfa t ht
  repeat (first | exact dV _ ht rfl (fun s hs e => hinj s t hs ht e) | refine g1 om ?_)
 have hsnap : SnapA ((43, { cells := [.ref q 3 0 ss.length], sz := 1, elem := (24), st := 0 }) :: famH a (fun t => some (obC (57) 0 (MX (nq kk) (nq cc) ss ss.length 0 t))) ((q, { cells := ((tab ss.length (fun t => (ss.getD t default, a t))).map srw).flatten, sz := 3, elem := (54), st := 0 }) :: [(3, { cells := mc cc, sz := 2, elem := (26), st := 0 }), (2, { cells := mc kk, sz := 2, elem := (26), st := 0 }), (1, { cells := mc f, sz := 2, elem := (26), st := 0 }), (0, { cells := [.sl k (ss.map stc)], sz := 1, elem := (24), st := 0 })]) ss.length) (dModel q (54) (57) (USX (nq kk) (nq cc) ss a ss.length 0)) [.agg [.ref q 3 0 ss.length], lvM f] [lvMo 1 (ss.map (linS (nq kk) (nq cc))), lvM f] := by
  have h := SnapA.model (ls := [lvM f]) (ls' := [lvM f]) hQ hU (nH (bY (by intro c hc; simp only [List.mem_cons, List.not_mem_nil, or_false] at hc; rcases hc with rfl; exact dc1)))
  rw [USX_end] at h
  unfold USX at h
  rw [eO] at h
  exact h
 have hfrz := dModel_ok hQ hU
 refine Rg 10 J <| aA (aM (l := .agg [.ref q 3 0 ss.length]) J J (by repeat (first | exact g0 | refine g1 om ?_ | refine (aO _ (fun t ht => by have := hfa t ht; omega)).trans ?_)) J J) J ?_
 refine aA (aM (l := lvM f) J J (by repeat (first | exact g0 | refine g1 om ?_ | refine (aO _ (fun t ht => by have := hfa t ht; omega)).trans ?_)) J J) J ?_
 refine bD (bN (b := .tup [.sl (kd R'.length) (R'.map mc), .sl (kd S'.length) (S'.map ic), .v (.int .i64 E')]) (jR [lvMo 1 (ss.map (linS (nq kk) (nq cc))), lvM f] (dModel q (54) (57) (USX (nq kk) (nq cc) ss a ss.length 0)) J (kT 1 (ss.map (linS (nq kk) (nq cc))) f hIN hf1 hf2) hsnap hfrz) hB') J <| Um J J <| aA (dX J J) J <| aA (dX J J) J <| aA (dX J J) J <| Ua J J <| Ua J J <| Ua J J <| Nk [5,6,7,9,11,19,21] J <| aB <| fD [(3, { cells := mc cc, sz := 2, elem := (26), st := 0 }), (2, { cells := mc kk, sz := 2, elem := (26), st := 0 }), (1, { cells := mc f, sz := 2, elem := (26), st := 0 })] ⟨((kL om (fun p hp => by obtain ⟨t, ht, rfl⟩ := rK.1 hp; have := hfa t ht; show a t ≠ _; omega)).trans (by repeat (first | exact g0 | refine g1 om ?_ | refine (aO _ (fun t ht => by have := hfa t ht; omega)).trans ?_))), ((kL om (fun p hp => by obtain ⟨t, ht, rfl⟩ := rK.1 hp; have := hfa t ht; show a t ≠ _; omega)).trans (by repeat (first | exact g0 | refine g1 om ?_ | refine (aO _ (fun t ht => by have := hfa t ht; omega)).trans ?_))), ((kL om (fun p hp => by obtain ⟨t, ht, rfl⟩ := rK.1 hp; have := hfa t ht; show a t ≠ _; omega)).trans (by repeat (first | exact g0 | refine g1 om ?_ | refine (aO _ (fun t ht => by have := hfa t ht; omega)).trans ?_))), trivial⟩ ?_
 refine Rg 6 J <| Um J J <| aA (fV J J) J <| aY (fun h110 => ?_) (fun h110 => ?_)
 ·refine Um J J <| K1 J J <| K1 J J <| aA (bK J J) J <| Wn <| aS J <| aB <| Rg 2 J <| aA (aK J (fS) dD) J <| Ua J J <| Nk [8] J <| aX ?_
  exact post (n := 0) (.inr J) J J (by simp)
 refine Um J J <| aJ J (eW J) J <| aJ J (fV J J) J <| aY (fun h113 => ?_) (fun h113 => ?_)
 ·refine aA (bM J J) J <| Wn <| aS J <| aB <| Rg 2 J <| aA (aK J (fS) dD) J <| Ua J J <| Nk [8] J <| aX ?_
  exact post (n := 0) (.inr J) J J (by simp)
 refine aA (bM J J) J <| Wn <| aV J <| aE ?_
 obtain ⟨h0, o, hoo⟩ := dbO_zero hB om (fun hV => (iZ hV).pos)
 obtain ⟨h0', o', hoo'⟩ := dbO_zero hB' om (fun hV => (iZ hV).pos)
 have h9 := oS (hB.symm.trans (dbO_3 h0 hoo hpos))
 obtain ⟨hRo, _, _⟩ := h9
 rw [← hRo] at hoo
 obtain ⟨hV', _⟩ := eD_ok h0'
 have h9' := oS (hB'.symm.trans (dbO_3 h0' hoo' (iZ hV').pos))
 obtain ⟨hRo', _, _⟩ := h9'
 rw [← hRo'] at hoo'
 obtain ⟨hvl, hvv, hvb, _⟩ := vals_ok ss (nq f) hV hvf.bd hd01.1 hd01.2
 obtain ⟨hov, hvn⟩ := outs_all hoo
 obtain ⟨hov', hvn'⟩ := outs_all hoo'
 have hvN := lin_vals (k := (nq kk)) (c := (nq cc)) hD (kG hV' hd01.1 hd01.2) hkp (fun x hx => by obtain ⟨t, ht, rfl⟩ := List.getElem_of_mem hx; have := hok t ht; rwa [List.getD_eq_getElem?_getD, List.getElem?_eq_getElem ht] at this) hvl hvv
 have hlen' : R'.length = R.length := by have h1 := jM hoo; have h2 := jM hoo'; rw [hvN, List.length_map] at h2; omega
 have hden : 1 - nq f ≠ 0 := fun h => by have := hd01.2; grind
 have hdenb : Bd 5 (1 - nq f) := by rw [Rat.sub_eq_add_neg]; exact (Bd_1.add hvf.bd.neg).mono (by decide : 2 + 2 + 1 ≤ 5)
 have hAb : Bd 7 ((nq cc) / (1 - nq f)) := (hccv.bd.div hdenb hden).mono (by decide : 2 + 5 ≤ 7)
 refine bL (z := 9) J kR <| aC (aM (l := lvM cc) J J gG J J) J ?_
 refine aC (bN (b := lvQ (nq cc)) (aK J (gU cc hc3'.1 hc3'.2.1 hccv) dD) J) J <| aC (bN (b := lvQ 1) (aK J (nC 1 I64_1) dD) J) J <| aC (aM (l := lvM f) J J gG J J) J ?_
 refine aC (bN (b := lvQ (nq f)) (aK J (gU f hf1 hf2 hvf) dD) J) J <| aC (aK J (nrless_run 1 (nq f) (Bd_1.mono (by decide)) (hvf.bd.mono (by decide))) dD) J <| aC (aK J (nrdiv_run (nq cc) (1 - nq f) hden (hccv.bd.mono (by decide)) (hdenb.mono (by decide))) dD) J <| qM (eC J) J <| cC (cB (cs' := qc ((nq cc) / (1 - nq f))) J J J g0 J J J J) <| bE (aQ kR) J <| Ck [6,9,19,22] J <| aB <| Rg 3 J <| Um J J <| aA (bB J J) J <| Um J J <| Wn <| aL <| bC (α := Nat) (fun i => [(6, .ptr 2 0), (9, .sl (kd R.length) (R.map mc)), (19, .sl (kd R'.length) (R'.map mc)), (22, .ptr (nK + 24) 0), (124, .v (.int .i64 (R.length : Int))), (125, .v (.int .i64 (i : Int)))]) (fun i => [((nK + 24), { cells := qc ((nq cc) / (1 - nq f)), sz := 6, elem := (39), st := 0 }), (2, { cells := mc kk, sz := 2, elem := (26), st := 0 })]) (fun i n => i ≤ R.length) (fun i => R.length - i) (0) ⟨J, J, J, J, J, J, trivial⟩ ⟨gG, gG, trivial⟩ (Nat.zero_le _) ?_
 rintro i n hF
 change WC _ _ _ _ _ (_ :: _) (_ :: _) n _
 have hi := hF
 refine Rg 1 J <| aA (bP J J) J <| aY (fun h126 => ?_) (fun h126 => ?_)
 rotate_left
 ·refine Wn <| aV J <| aW <| aT <| aR J <| Rg 2 J <| aA (aK J (fS) dD) J <| Ua J J <| Wn <| aP ?_
  exact post (n := 0) (.inr J) J J (by simp)
 refine Wn <| aS J <| aE <| aL <| Rg 2 J <| Um J J <| Ua J J <| cQ ?_
 have hRi := hvn _ (bG (us := R) (i := i) om)
 have hRi' := hvn' _ (bG (us := R') (i := i) om)
 refine bL (z := 24) J kR <| Dm J J <| aC (bB J J) J <| Dm J J <| aC (bB J J) J <| aC (bN (b := .v (.bool false)) (fV J J) (by rw [hlen']; simp)) J <| Dm J J <| bR J (eW J) J <| bR J (eW J) J <| bR J (bQ (j := i) J J J J om om J) J <| bR J (dJ (l := lvM (R.getD i default)) J J J) J <| bR J (bN (b := lvQ (nq (R.getD i default))) (aK J (gU (R.getD i default) hRi.all3.1 hRi.all3.2.1 hRi) dD) J) J <| bR J (aM (l := lvM kk) J J gG J J) J ?_
 refine bR J (bN (b := lvQ (nq kk)) (aK J (gU kk hk3.1 hk3.2.1 hkv) dD) J) J <| bR J (aK J (nrmul_run (nq (R.getD i default)) (nq kk) (hRi.bd.mono om) (hkv.bd.mono om)) dD) J <| bR J (aM (l := lvQ ((nq cc) / (1 - nq f))) J J gG J J) J ?_
 refine bR J (aK J (jY (nq (R.getD i default) * (nq kk)) ((nq cc) / (1 - nq f)) ((hRi.bd.mul hkv.bd).mono om) (hAb.mono om)) dD) J <| bR J (eW J) J <| bR J (eW J) J <| bR J (bQ (j := i) J J J J om om J) J <| bR J (dJ (l := lvM (R'.getD i default)) J J J) J <| bR J (bN (b := lvQ (nq (R'.getD i default))) (aK J (gU (R'.getD i default) hRi'.all3.1 hRi'.all3.2.1 hRi') dD) J) J <| bR J (cI ((0 : Int)) (aK J (nrcmp_run (nq (R.getD i default) * (nq kk) + ((nq cc) / (1 - nq f))) (nq (R'.getD i default)) ((((hRi.bd.mul hkv.bd).add hAb)).mono om) (hRi'.bd.mono om)) dD) (lin_num hov hov' hvN om)) J <| bR J (bN (b := .v (.bool false)) (fV J J) (by simp)) J <| aC (bM J J) J <| bE (aQ kR) J <| Ck [6,9,19,22,124,125,134,135,136,137,138,139,140,141,142,143,144,145,146,147,148,149,150,151] J <| bX J <| cP <| aG <| Ck [6,9,19,22,124,125,134,135,136,137,138,139,140,141,142,143,144,145,146,147,148,149,150] J <| aI (z := 2) J <| aA (cI (((i + 1 : Nat) : Int)) (aU J J om) om) J <| Um J J <| Wn <| aF <| ⟨i + 1, ⟨J, J, J, J, J, J, trivial⟩, ⟨gG, gG, trivial⟩, om, by show R.length - (i + 1) < R.length - i; omega⟩
end Go.Proofs.YtahljdjhhapngaaGreat
