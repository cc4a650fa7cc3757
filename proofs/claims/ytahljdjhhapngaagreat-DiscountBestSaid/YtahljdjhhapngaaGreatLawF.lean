/- Part F of the proof of discountBest_holds: what it rests on. No condition. -/
import Derived.Test.YtahljdjhhapngaaGreatLawE
set_option linter.unusedVariables false
set_option linter.unusedSimpArgs false
set_option maxRecDepth 100000
set_option maxHeartbeats 16000000
namespace Go.Proofs.YtahljdjhhapngaaGreat
open Go.Ab Go.RowKit
theorem lX (k : Nat) (ss : List Go.Ab.ST) (hcs : ∀ x, x ∈ ss → 1 ≤ x.2.2.length ∧ x.2.2.length ≤ 8) (hn40 : ss.length ≤ 40) : Run Tryz.prog T E0 (.call 52 [lvMo k ss] (lvN (prF ss ss.length : Int))) := by
 refine bF Tryz.func52 J J (dH J) <| Rg 2 J <| aY (dK J J) J <| aY (dQ J) J <| Wn <| Rg 3 J <| aA (bM (b := lvN (prF ss 0 : Int)) (aK J (fO 1 I64_1) dD) J) J <| aY (dQ J) J <| aZ (cE (cs' := nc (prF ss 0 : Int)) J J J g0 J J J J) <| Wn <| aB <| Rg 4 J <| aA (bC J J J J J) J <| aA (aM J J gG J J) J ?_
 refine aA (bA J J) J <| Um J J <| Wn <| aJ <| aW (α := Nat) (fun i => [(2, .ptr (0 + 1) 0), (3, .ptr (0 + 2 + 1) 0), (8, .sl k (ss.map stc)), (9, .v (.int .i64 (ss.length : Int))), (10, .v (.int .i64 (i : Int)))]) (fun i => [((0 + 2 + 1), { cells := nc ((prF ss i : Int)), sz := 3, elem := (37), st := 0 }), ((0 + 1), { cells := [.v (.int .i64 0), .v (.bool false), .sl 0 []], sz := 3, elem := (37), st := 0 })]) (fun i n => i ≤ ss.length ∧ 3 < n) (fun i => ss.length - i) (0) ⟨J, J, J, J, J, trivial⟩ ⟨gG, gG, trivial⟩ ⟨Nat.zero_le _, om⟩ ?_
 rintro i n hF
 change WC _ _ _ _ _ (_ :: _) (_ :: _) n _
 obtain ⟨hi, hn⟩ := hF
 refine Rg 1 J <| aA (bP J J) J <| aX (fun h11 => ?_) (fun h11 => ?_)
 rotate_left
 ·refine Wn <| aU J <| aV <| aR <| aO J <| Rg 2 J <| aA (aM (l := lvN (prF ss i : Int)) J J gG J J) J ?_
  refine aZ (cE (cs' := nc (prF ss i : Int)) J J J gG J J J J) ?_
  refine Wn <| aQ ?_
  have hin : i = ss.length := by omega
  rw [← hin]
  refine post (n := 0) (.inr J) J ?_ dD
  rfl
 refine Wn <| aT J <| aF <| aJ ?_
 have hm := bE (us := ss) (i := i) om
 have hc8 := (hcs _ hm).2
 have hp := qE (fun x hx => (hcs x hx).2) hn40 hi
 refine Rg 4 J <| aA (bO J J J J J om J) J <| aA (dF (l := .agg (stc (ss.getD i default))) J J J) J <| aY (dQ J) J <| aZ (cE (cs' := stc (ss.getD i default)) J J J g0 J J J J) <| Wn <| cM (z := 7) J kR <| aC (aM (l := lvN (prF ss i : Int)) J J gG J J) J ?_
 refine aC (bC J J J J J) J <| aC (aM J J gG J J) J ?_
 refine aC (bA J J) J <| aC (aK J (fO ((ss.getD i default).2.2.length : Int) (by unfold I64; omega)) dD) J <| aC (bM (b := lvN (prF ss (i + 1) : Int)) (aK J (fF (prF ss i : Int) ((ss.getD i default).2.2.length : Int) om (by have := iF (v := ((ss.getD i default).2.2.length : Int)) om; omega)) dD) (congrArg lvN (Int.natCast_mul _ _).symm)) J <| cA (cE (cs' := nc (prF ss (i + 1) : Int)) J J J gG J J J J) ?_
 refine bD (aP kR) J <| aE <| Ck [2,3,8,9,10] J <| aG (z := 2) J <| aA (cI (((i + 1 : Nat) : Int)) (aS J J om) om) J <| Um J J <| Wn <| aD <| ⟨i + 1, ⟨J, J, J, J, J, trivial⟩, ⟨gG, gG, trivial⟩, ⟨om, om⟩, by show ss.length - (i + 1) < ss.length - i; omega⟩
theorem qnth_run (k : Nat) (ss : List Go.Ab.ST) (m : Nat) (hI : ∀ s, s ∈ ss → IS s) (hV : VMo ss = true) (hm : m < prF ss ss.length) (hm2 : m < 1152921504606846976) : Run Tryz.prog T E0 (.call 56 [lvMo k ss, .v (.int .i64 (m : Int))] (.tup [.sl 1 ((nthL ss m).map ic), .v (.int .i64 0)])) := by
 have hV1 := jF hV
 have hn40 := hV1.wt.len
 have hcs := hV1.cs
 have hneg : ((m : Int) - (prF ss ss.length : Int)).sign = -1 := Int.sign_eq_neg_one_of_neg om
 have hp := qE (fun x hx => (hcs x hx).2) hn40 (Nat.le_refl ss.length)
 have hl3 := iF (v := (m : Int)) om
 refine bF Tryz.func56 J J (dH J) <| Rg 3 J <| aY (dK J J) J <| Ua J J <| Ua J J <| Wn <| aJ <| Rg 4 J <| aA (aM (l := lvMo k ss) J J gG J J) J ?_
 refine aA (bM (b := .v (.bool true)) (aK J (lY k ss hI) dD) (by rw [hV])) J <| aA (dO J) J <| Ua J J <| Wn <| bV J <| bG (z := 11) J kR <| Dm J J <| aC (bP J J) J <| kO (fun h15 => ?_) (fun h15 => ?_)
 ·omega
 refine Dm J J <| cD J (eG J) J <| cD J (aK J (fO (m : Int) (by unfold I64; omega)) dD) J <| cD J (aM (l := lvMo k ss) J J gG J J) J ?_
 refine cD J (aK J (lX k ss hcs hn40) dD) J <| cD J (aK J (oQ (m : Int) (prF ss ss.length : Int) om om) dD) J <| cD J (gW J J) J <| kO (fun h22 => ?_) (fun h22 => ?_)
 ·omega
 refine aC (bL J J) J <| aC (gP J) J <| bD (aP kR) J <| Ck [1,2,13] J <| bV J <| cC <| aE <| Rg 5 J <| aA (bC J J J J J) J <| aA (aM J J gG J J) J ?_
 refine aA (bA J J) J <| aY (oMk (a := ss.length) (b := ss.length) J J J J (by simp) (by simp) (by decide) om (by show 8 * ss.length ≤ _; omega) om) J <| Ua J J <| Wn <| aB <| Rg 4 J <| Um J J <| aA (gQ J J) J <| aA (bY J J om) J <| Ua J J <| Wn <| aJ <| aW (α := Nat) (fun t => [(1, .v (.int .i64 (nq_ ss m t : Int))), (2, .ptr 0 0), (6, .ref (0 + 3 + 4 + 11 + 3) 1 0 ss.length), (7, .v (.int .i64 (((ss.length - t : Nat) : Int) - 1)))]) (fun t => [((0 + 3 + 4 + 11 + 3), { cells := ((tab ss.length (nthF ss m t)).map ic).flatten, sz := 1, elem := (3), st := 0 }), (0, { cells := [.sl k (ss.map stc)], sz := 1, elem := (24), st := 0 })]) (fun t n => t ≤ ss.length ∧ 24 < n) (fun t => ss.length - t) (0) ⟨J, J, J, J, trivial⟩ ⟨e86 gG (by exact tab_repiF fun s => if_neg om), gG, trivial⟩ ⟨Nat.zero_le _, om⟩ ?_
 rintro t n hF
 change WC _ _ _ _ _ (_ :: _) (_ :: _) n _
 obtain ⟨ht, hn⟩ := hF
 refine aB <| Rg 2 J <| Um J J <| aA (gW J J) J <| aX (fun h32 => ?_) (fun h32 => ?_)
 rotate_left
 ·refine Wn <| aU J <| aV <| aR <| aO J <| Rg 3 J <| Um J J <| Ua J J <| Ua J J <| Wn <| aQ ?_
  have htn : t = ss.length := by omega
  subst htn
  rw [← nthF_all]
  exact jW (n := 0) [((0 + 3 + 4 + 11 + 3), { cells := ((tab ss.length (nthF ss m ss.length)).map ic).flatten, sz := 1, elem := (3), st := 1 })] (.inr J) J (.own ((tab ss.length (nthF ss m ss.length)).map ic) (by rw [List.length_map, iT]) gG (by show (0 : Nat) ≠ 2; decide) J (by decide) (by simp [keys]) J rows_ic (bN dic1) (.data (.v _) .nil)) (by intro p hp; rw [List.mem_singleton] at hp; subst hp; exact ⟨_, gG, by show (0 : Nat) ≠ 2; decide, rfl⟩)
 refine Wn <| aT J <| aF <| aJ ?_
 have hmj := bE (us := ss) (i := (ss.length - 1 - t)) om
 have hcj := hcs _ hmj
 have hle := nq_le ss m t
 refine Rg 8 J <| aA (bC J J J J J) J <| aA (aM J J gG J J) J ?_
 refine Um J J <| aA (bO (j := (ss.length - 1 - t)) J J J J om om J) J <| aA (oFa J J J J J) J <| aA (dF J J J) J <| aA (bA J J) J <| Ua J J <| Wn <| cM (z := 11) J kR <| Dm J J <| Dm J J <| Dm J J <| Dm J J <| aC (gR J J om) J <| Dm J J <| Dm J J <| aC (gF J J om om) J <| aC (cB (j := (ss.length - 1 - t)) J J J J om om J) J <| cA (oStTi J J J gG om J) ?_
 refine aC (gP J) J <| bD (aP kR) J <| aE <| Ck [1,2,6,7] J <| aG (z := 3) J <| Um J J <| aA (cI ((((ss.length - (t + 1) : Nat) : Int) - 1)) (bY J J om) om) J <| Ua J J <| Wn <| aD <| ⟨t + 1, ⟨J, J, J, J, trivial⟩, ⟨e86 gG (congrArg (fun z => Ob.mk ((tab ss.length z).map ic).flatten 1 3 0) (nthF_step om)), gG, trivial⟩, ⟨om, om⟩, by show ss.length - (t + 1) < ss.length - t; omega⟩
theorem lshort_run (k : Nat) (ss : List Go.Ab.ST) (hI : ∀ s, s ∈ ss → IS s) : Run Tryz.prog T E0 (.call 11 [lvMo k ss] (.v (.bool (shrt ss)))) := by
 refine bF Tryz.func11 J J (dH J) <| Rg 2 J <| aY (dK J J) J <| Ua J J <| Wn <| Rg 11 J <| aA (aM (l := lvMo k ss) J J gG J J) J ?_
 refine aA (aK J (lY k ss hI) dD) J <| eH (fun h4 => ?_) (fun h4 => ?_)
 rotate_left
 ·refine aA (dO J) J <| Um J J <| K1 J J <| K1 J J <| K1 J J <| K1 J J <| K1 J J <| aA (bH J J) J <| Ua J J <| Wn <| aQ <| post (n := 0) (.inr J) J ?_ dD
  exact congrArg (fun z => LV.v (.bool z)) (show true = shrt ss by unfold shrt; rw [h4]; rfl)
 refine aA (dO J) J <| Um J J <| aI J (aM (l := lvMo k ss) J J gG J J) J ?_
 have hV1 := jF h4
 have hp := qE (fun x hx => (hV1.cs x hx).2) hV1.wt.len (Nat.le_refl ss.length)
 refine aI J (aK J (lX k ss hV1.cs hV1.wt.len) dD) J <| aI J (aK J (fO 100 (by unfold I64; omega)) dD) J <| aI J (aK J (oQ (prF ss ss.length : Int) 100 om (by have := iF (v := 100) om; omega)) dD) J <| aI J (nO J J) J <| aA (bL J J) J <| Ua J J <| Wn <| aQ <| post (n := 0) (.inr J) J ?_ dD
 exact congrArg (fun z => LV.v (.bool z)) (by unfold shrt; rw [h4]; show decide _ = decide _; exact decide_eq_decide.2 (by have h9 := Int.sign_nonpos_iff (x := (prF ss ss.length : Int) - 100); omega))
theorem qpicks_run (k kv : Nat) (ss : List Go.Ab.ST) (d : Rat) (v : List Rat) (hV : VMo ss = true) (hd : Bd 2 d) (hl : v.length = ss.length) (β : Nat) (h1β : 1 ≤ β) (hβ : β ≤ 2147483648) (hv : ∀ x, x ∈ v → Bd β x) : Run Tryz.prog T E0 (.call 17 [lvMo k ss, lvQ d, .sl kv (v.map qc)] (.sl (kd (tab ss.length (fun i : Nat => ((bsK (ss.getD i default) d (fn_ v) : Nat) : Int))).length) ((tab ss.length (fun i : Nat => ((bsK (ss.getD i default) d (fn_ v) : Nat) : Int))).map ic))) := by
 have hV1 := jF hV
 have hn40 := hV1.wt.len
 refine bF Tryz.func17 J J (dH J) <| Rg 3 J <| aY (dK J J) J <| aY (dK J J) J <| Ua J J <| Wn <| Rg 1 J <| Ua J J <| Wn <| aB <| Rg 4 J <| aA (bC J J J J J) J <| aA (aM J J gG J J) J ?_
 refine aA (bA J J) J <| Um J J <| Wn <| aJ <| aW (α := Nat × Nat × (List Int)) (fun ⟨i, q, row⟩ => [(2, .sl kv (v.map qc)), (4, .ptr (0 + 1) 0), (7, outV q 1 (row.map ic)), (13, .sl k (ss.map stc)), (14, .v (.int .i64 (ss.length : Int))), (15, .v (.int .i64 (i : Int)))]) (fun ⟨i, q, row⟩ => outH q 1 3 (row.map ic) [((0 + 1), { cells := qc (d), sz := 6, elem := (39), st := 0 })]) (fun ⟨i, q, row⟩ n => i ≤ ss.length ∧ row = tab i (fun i : Nat => ((bsK (ss.getD i default) d (fn_ v) : Nat) : Int)) ∧ row.length = i ∧ 1 < q ∧ q < n) (fun ⟨i, q, row⟩ => ss.length - i) (0, 2, []) ⟨J, J, J, J, J, J, trivial⟩ ⟨gG, trivial⟩ ⟨Nat.zero_le _, rfl, rfl, om, om⟩ ?_
 rintro ⟨i, q, row⟩ n hF
 change WC _ _ _ _ _ (_ :: _) (outH _ _ _ _ _) n _
 obtain ⟨hi, hrw, hrl, hq1, hq⟩ := hF
 refine Rg 1 J <| aA (bP J J) J <| aX (fun h16 => ?_) (fun h16 => ?_)
 rotate_left
 ·refine Wn <| aU J <| aV <| aR <| aO J <| Rg 2 J <| Um J J <| Ua J J <| Wn <| aQ ?_
  have hin : i = ss.length := by omega
  rw [hin] at hrw
  rw [← hrw, ← iR]
  exact lG (n := 0) (.inr J) J (by decide) (bX (n := 1) (fun _ => rfl)) (bN dic1)
 refine Wn <| aT J <| aF <| aJ ?_
 have hm := bE (us := ss) (i := i) om
 have hcl := hV1.cs _ hm
 have how := hV1.own _ hm
 refine Rg 4 J <| aA (bO J J J J J om J) J <| aA (dF (l := .agg (stc (ss.getD i default))) J J J) J <| aY (dQ J) J <| aZ (cE (cs' := stc (ss.getD i default)) J J J g0 J J J J) <| Wn <| Rg 10 J <| aA (aM (l := .agg (stc (ss.getD i default))) J J (by repeat (first | exact g0 | refine g1 om ?_ | refine aL om ?_)) J J) J ?_
 refine aA (aM (l := lvQ d) J J (by repeat (first | exact g0 | refine g1 om ?_ | refine aL om ?_)) J J) J ?_
 refine Um J J <| aA (aK J (qpick_run (ss.getD i default) d kv v ss.length om hcl (fun c hc => kN hV hm hc) hd hl β h1β hβ hv) (bR (by intro c hc; simp only [List.mem_cons, List.not_mem_nil, or_false] at hc; rcases hc with rfl | rfl | rfl; exact (.agg _ fun c hc => dstc1 _ c hc); exact lQ; exact (.sl _ _ fun row hr => bN dqc row hr)))) J <| Um J J <| aA (dN J J) J <| aA (dN J J) J <| aY (dQ J) J <| Ua J J <| aZ (cE (cs' := qc (bsV (ss.getD i default) d (fn_ v))) J J J g0 J J J J) <| Nk [2,4,7,10,13,14,15] J <| aG (z := 5) J <| Um J J <| Um J J <| aA (cW (cs := [_]) (rows := [[_]]) J J (by decide) J J J) J <| iA _ (subsM.get (bS (q := q) (sz := 1) (el := 3) (us := row.map ic) (h := [((0 + 1), { cells := qc (d), sz := 6, elem := (39), st := 0 })]) (fun hne => by rw [cY hne]; repeat (first | exact g0 | refine g1 om ?_ | refine aL om ?_)) ⟨(by repeat (first | exact g0 | refine g1 om ?_ | refine aL om ?_)), trivial⟩)) ?_
 refine dB (te := ti3) (f := ic) (q := q) (us := row) (u := ((bsK (ss.getD i default) d (fn_ v) : Nat) : Int)) J J J J J (fun _ => rfl) (by decide) (by show (2 * (row.length + 1) + 256) * 8 ≤ _; omega) om (gN om J) (gN om J) J <| Ua J J <| Wn <| aE <| aG (z := 2) J <| aA (cI (((i + 1 : Nat) : Int)) (aS J J om) om) J <| Um J J <| Wn <| aD <| ⟨⟨i + 1, _, row ++ [((bsK (ss.getD i default) d (fn_ v) : Nat) : Int)]⟩, ⟨J, J, J, J, J, J, trivial⟩, bS (fun hne => by rw [cY hne]; repeat (first | exact g0 | refine g1 om ?_ | refine aL om ?_)) ⟨(by repeat (first | exact g0 | refine g1 om ?_ | refine aL om ?_)), trivial⟩, ⟨om, by rw [tab_succ, ← hrw], by simp; omega, om, om⟩, by show ss.length - (i + 1) < ss.length - i; omega⟩
theorem worth_ok (ss : List Go.Ab.ST) (d : Rat) (st : List Int) (hV : VMo ss = true) (hd : Bd 2 d) (hd0 : 0 < d) (hd1 : d < 1) (hst : vSt ss st = true) : (wor ss d st).length = ss.length ∧ WV ss d st (fn_ (wor ss d st)) ∧ ∀ x, x ∈ wor ss d st → Bd 268435456 x := by
 obtain ⟨_, _, xs, _, hl, hw, hb⟩ := worth_run 1 1 ss (d, false) st hV hd hd0 hd1 hst
 have hl2 : (xs.map (·.1)).length = ss.length := by rw [List.length_map]; exact hl
 rw [wor_eq (jZ hV hd0 hd1) hst hl2 hw]
 exact ⟨hl2, hw, fun x hx => by obtain ⟨y, hy, rfl⟩ := List.mem_map.1 hx; exact hb y hy⟩
theorem vals_ok (ss : List Go.Ab.ST) (d : Rat) (hV : VMo ss = true) (hd : Bd 2 d) (hd0 : 0 < d) (hd1 : d < 1) : (vals ss d).length = ss.length ∧ Val ss d (fn_ (vals ss d)) ∧ (∀ x, x ∈ vals ss d → Bd 268435456 x) ∧ ∃ st, vSt ss st = true ∧ wor ss d st = vals ss d := by
 obtain ⟨_, _, st, xs, _, hst, hl, hw, hv, hb⟩ := values_run 1 ss (d, false) hV hd hd0 hd1
 have hl2 : (xs.map (·.1)).length = ss.length := by rw [List.length_map]; exact hl
 have hD := jZ hV hd0 hd1
 rw [pG hD hl2 hv]
 exact ⟨hl2, hv, fun x hx => by obtain ⟨y, hy, rfl⟩ := List.mem_map.1 hx; exact hb y hy, st, hst, wor_eq hD hst hl2 hw⟩
theorem qvalues_run (k : Nat) (ss : List Go.Ab.ST) (d : Rat) (hI : ∀ s, s ∈ ss → IS s) (hV : VMo ss = true) (hd : Bd 2 d) (hd0 : 0 < d) (hd1 : d < 1) (hs : prF ss ss.length ≤ 100) : Run Tryz.prog T E0 (.call 14 [lvMo k ss, lvQ d] (.sl 1 ((vals ss d).map qc))) := by
 have hV1 := jF hV
 have hn40 := hV1.wt.len
 have hcs := hV1.cs
 have hD := jZ hV hd0 hd1
 refine bF Tryz.func14 J J (dH J) <| Rg 3 J <| aY (dK J J) J <| aY (dK J J) J <| Ua J J <| Wn <| Rg 8 J <| aA (aM (l := lvMo k ss) J J gG J J) J ?_
 refine aA (aK J (lX k ss hcs hn40) dD) J <| aA (bM (b := .tup [.v (.int .i64 (prF ss ss.length : Int)), .v (.bool true)]) (aK J (lE (prF ss ss.length : Int)) dD) (by rw [if_pos om, decide_eq_true om])) J <| Um J J <| aA (dN J J) J <| aA (dN J J) J <| Ua J J <| Ua J J <| Wn <| aB <| Rg 2 J <| Um J J <| Um J J <| Nk [2,3,17,18] J <| aJ <| aW (α := Nat) (fun i => [(2, .ptr 0 0), (3, .ptr (0 + 1) 0), (17, .v (.int .i64 (prF ss ss.length : Int))), (18, .v (.int .i64 (i : Int)))]) (fun i => [((0 + 1), { cells := qc (d), sz := 6, elem := (39), st := 0 }), (0, { cells := [.sl k (ss.map stc)], sz := 1, elem := (24), st := 0 })]) (fun i n => i ≤ prF ss ss.length ∧ (∀ a, a < i → isV ss d (fn_ (wor ss d (nthL ss a))) = false) ∧ 1 < n) (fun i => prF ss ss.length - i) (0) ⟨J, J, J, J, trivial⟩ ⟨gG, gG, trivial⟩ ⟨Nat.zero_le _, fun a ha => absurd ha om, om⟩ ?_
 rintro i n hF
 change WC _ _ _ _ _ (_ :: _) (_ :: _) n _
 obtain ⟨hi, hA, hn⟩ := hF
 refine Rg 1 J <| aA (bP J J) J <| aX (fun h19 => ?_) (fun h19 => ?_)
 rotate_left
 ·refine Wn <| aU J <| aV <| aR <| aO J <| Rg 1 J <| Ua J J <| Wn <| aQ ?_
  obtain ⟨_, hvv, _, st, hst, hwe⟩ := vals_ok ss d hV hd hd0 hd1
  obtain ⟨hn1, hn2⟩ := nthL_num hst
  have h8 := hA (numF ss st ss.length) om
  rw [hn1, hwe, (rO hD).2 hvv] at h8
  cases h8
 refine Wn <| aT J <| aF <| aJ ?_
 have hst := nthL_ok (fun x hx => (hcs x hx).1) i
 obtain ⟨hwl, hww, hwb⟩ := worth_ok ss d _ hV hd hd0 hd1 hst
 refine Rg 2 J <| Um J J <| Ua J J <| Wn <| Rg 8 J <| aA (aM (l := lvMo k ss) J J gG J J) J ?_
 refine Um J J <| aA (aK J (qnth_run k ss i hI hV om om) dD) J <| Um J J <| aA (dN J J) J <| aA (dN J J) J <| Ua J J <| Ua J J <| Nk [2,3,8,17,18] J <| Rg 5 J <| aA (aM (l := lvMo k ss) J J gG J J) J ?_
 refine aA (aM (l := lvQ d) J J gG J J) J ?_
 refine Um J J <| aA (aK J (qworth_run k 1 ss d (nthL ss i) hV hd hd0 hd1 hst) (bR (by intro c hc; simp only [List.mem_cons, List.not_mem_nil, or_false] at hc; rcases hc with rfl | rfl | rfl; exact lQ; exact lQ; exact (.sl _ _ (bN dic1))))) J <| Ua J J <| Wn <| Rg 4 J <| aA (aM (l := lvMo k ss) J J gG J J) J ?_
 refine aA (aM (l := lvQ d) J J gG J J) J ?_
 refine Um J J <| aA (aK J (qis_run k 1 ss d (wor ss d (nthL ss i)) hV hd hwl 268435456 (by decide) (by decide) hwb) (bR (by intro c hc; simp only [List.mem_cons, List.not_mem_nil, or_false] at hc; rcases hc with rfl | rfl | rfl; exact lQ; exact lQ; exact (.sl _ _ fun row hr => bN dqc row hr)))) J <| eH (fun h34 => ?_) (fun h34 => ?_)
 ·refine Wn <| bT J <| Rg 2 J <| Um J J <| Ua J J <| Nk [4] J <| aQ <| aN <| bJ <| aN ?_
  rw [pG hD hwl ((rO hD).1 h34)]
  exact post (n := 0) (.inr J) J J (.sl _ _ fun row hr => bN dqc row hr)
 refine Wn <| bV J <| cC <| aE <| aG (z := 2) J <| aA (cI (((i + 1 : Nat) : Int)) (aS J J om) om) J <| Um J J <| Wn <| aD <| ⟨i + 1, ⟨J, J, J, J, trivial⟩, ⟨gG, gG, trivial⟩, ⟨om, fun a ha => ?_, om⟩, by show prF ss ss.length - (i + 1) < prF ss ss.length - i; omega⟩
 by_cases e : a = i
 ·rw [e]; exact h34
 ·exact hA a om
end Go.Proofs.YtahljdjhhapngaaGreat
namespace Go.Proofs.YtahljdjhhapngaaGreat
open Go.Ab Go.RowKit
theorem law_best (k : Nat) (ss : List Go.Ab.ST) (f : NM) (hI : ∀ s, s ∈ ss → IS s) (hf1 : I64 f.1) (hf2 : I64 f.2) : Run Tryz.prog T E0 (.call 3 [lvMo k ss, lvM f] (.v (.bool true))) := by
 refine bF Tryz.func3 J J (dH J) ?_
 have J11 : ∀ (hfw : few6 ss = true) (R : List NM) (S : List Int) (E : Int) (hB : dbO ss f = .tup [.sl (kd R.length) (R.map mc), .sl (kd S.length) (S.map ic), .v (.int .i64 E)]) (hRl : R.length ≤ ss.length) (hSl : S.length ≤ ss.length) (n : Nat) , WC Tryz.prog T E0 Tryz.f3.ntmps (codeR (codeR (codeR (codeR (codeR (codeR (codeOf Tryz.f3))))))) [(2, .ptr 0 0), (3, .ptr (0 + 1) 0), (5, .v (.int .i64 E)), (6, .sl (kd R.length) (R.map mc)), (7, .sl (kd S.length) (S.map ic))] [((0 + 1), { cells := mc f, sz := 2, elem := (26), st := 0 }), (0, { cells := [.sl k (ss.map stc)], sz := 1, elem := (24), st := 0 })] n (Post T Tryz.f3.results.toList (.v (.bool true))) := by
  intro hfw R S E hB hRl hSl n
  have hl45 := (few6_len hfw).1
  refine Rg 10 J <| aA (aM (l := lvMo k ss) J J gG J J) J ?_
  refine aA (aM (l := lvM f) J J gG J J) J ?_
  refine aA (bM (b := .tup [.sl (kd R.length) (R.map mc), .sl (kd S.length) (S.map ic), .v (.int .i64 E)]) (aK J (nN k ss f hI hf1 hf2) dD) hB) J <| Um J J <| aA (dN J J) J <| aA (dN J J) J <| aA (dN J J) J <| Ua J J <| Ua J J <| Ua J J <| Nk [5,6,7,9,10,11] J <| Rg 17 J <| Um J J <| Um J J <| aA (bM (b := .v (.bool true)) (eI J J) (by simp)) J <| Um J J <| aI J (eG J) J <| aI J (eG J) J <| aI J (aK J (qA _ _ R om) (bR (by intro c hc; simp only [List.mem_cons, List.not_mem_nil, or_false] at hc; rcases hc with rfl | rfl; exact (.sl _ _ fun row hr => bN dmc row hr); exact (.sl _ _ fun row hr => bN dmc row hr)))) J <| aA (bH J J) J <| Um J J <| aI J (eG J) J <| aI J (eG J) J <| aI J (bM (b := .v (.bool true)) (aK J (leq_run _ _ S S om) (bR (by intro c hc; simp only [List.mem_cons, List.not_mem_nil, or_false] at hc; rcases hc with rfl | rfl; exact (.sl _ _ (bN dic1)); exact (.sl _ _ (bN dic1))))) (by simp)) J <| aA (bH J J) J ?_
  refine Um J J <| aI J (aK J (pH) dD) J <| aA (bH J J) J <| Ua J J <| Nk [4] J <| aQ <| post (n := 0) (.inr J) J ?_ dD
  rfl
 refine Rg 3 J <| aY (dK J J) J <| aY (dK J J) J <| Ua J J <| Wn <| aB <| Rg 8 J <| aA (aM (l := lvMo k ss) J J gG J J) J ?_
 refine aA (aK J (dfew_run k 0 0 ss [] []) (bR (by intro c hc; simp only [List.mem_cons, List.not_mem_nil, or_false] at hc; rcases hc with rfl | rfl | rfl; exact lQ; exact (.sl 0 [] (by simp)); exact (.sl 0 [] (by simp))))) J <| eH (fun h13 => ?_) (fun h13 => ?_)
 rotate_left
 ·refine aA (dO J) J <| Um J J <| K1 J J <| K1 J J <| K1 J J <| aA (bH J J) J <| Wn <| aT J <| aB <| Rg 2 J <| aA (aK J (pH) dD) J <| Ua J J <| Wn <| bB ?_
  exact post (n := 0) (.inr J) J J (by simp)
 refine aA (dO J) J <| Um J J <| aI J (aM (l := lvMo k ss) J J gG J J) J ?_
 refine aI J (aK J (lshort_run k ss hI) dD) J <| eH (fun h17 => ?_) (fun h17 => ?_)
 rotate_left
 ·refine aI J (dO J) J <| aA (bL J J) J <| Wn <| aT J <| aB <| Rg 2 J <| aA (aK J (pH) dD) J <| Ua J J <| Wn <| bB ?_
  exact post (n := 0) (.inr J) J J (by simp)
 refine aI J (dO J) J <| aA (bL J J) J <| Wn <| aU J <| aF ?_
 obtain ⟨hfw, _⟩ := few_of h13
 have hl45 := (few6_len hfw).1
 refine Rg 4 J <| aA (aM (l := lvMo k ss) J J gG J J) J ?_
 refine aA (aM (l := lvM f) J J gG J J) J ?_
 refine aA (aK J (qasked_run k 0 ss f [] hI hf1 hf2 (by intro a ha; cases ha) (by decide)) (bR (by intro c hc; simp only [List.mem_cons, List.not_mem_nil, or_false] at hc; rcases hc with rfl | rfl | rfl; exact lQ; exact lQ; exact (.sl 0 [] (by simp))))) J <| Ua J J <| Nk [2,3,5] J <| Rg 1 J <| Ua J J <| Wn <| Rg 1 J <| Ua J J <| Wn <| aB <| Rg 2 J <| Um J J <| aA (eI J J) J <| aX (fun h25 => ?_) (fun h25 => ?_)
 rotate_left
 ·refine Wn <| aU J <| aF <| Ck [2,3,5,6,7] J <| eK [((0 + 1), { cells := mc f, sz := 2, elem := (26), st := 0 }), (0, { cells := [.sl k (ss.map stc)], sz := 1, elem := (24), st := 0 })] ⟨gG, gG, trivial⟩ ?_
  exact J11 hfw [] [] _ (dbO_1 h25) (Nat.zero_le _) (Nat.zero_le _) _
 refine Wn <| aT J <| aB ?_
 obtain ⟨hV, hvf, hall, hf0, hf3⟩ := eD_ok h25
 have hV1 := jF hV
 have hd01 := fac01 hvf hf0 hf3
 have hsh := shrt_ok h17 hV
 obtain ⟨hvl, _, hvb, _⟩ := vals_ok ss (nq f) hV hvf.bd hd01.1 hd01.2
 obtain ⟨oo, hoo⟩ : ∃ oo, (vals ss (nq f)).mapM outN = oo := ⟨_, rfl⟩
 refine bG (z := 5) J kR <| aC (aM (l := lvMo k ss) J J gG J J) J ?_
 refine aC (aM (l := lvM f) J J gG J J) J ?_
 refine aC (bM (b := lvQ (nq f)) (aK J (jV f hf1 hf2 hvf) dD) J) J <| aC (aK J (qvalues_run k ss (nq f) hI hV hvf.bd hd01.1 hd01.2 hsh) dD) J <| aC (gP J) J <| bD (aP kR) J <| aB <| Rg 7 J <| Um J J <| aA (bM (b := .tup [.sl (kd (oo.getD []).length) ((oo.getD []).map mc), .v (.int .i64 (if oo.isSome = true then 0 else 3))]) (aK J (qnums_run 1 (vals ss (nq f)) om) (bR (by intro c hc; rw [List.mem_singleton] at hc; subst hc; exact (.sl _ _ fun row hr => bN dqc row hr)))) (by rw [← hoo]; rfl)) J <| Um J J <| aA (dN J J) J <| aA (dN J J) J <| Ua J J <| Ua J J <| Nk [2,3,5,6,7,8] J <| aB <| Rg 2 J <| Um J J <| aA (eI J J) J <| aX (fun h36 => ?_) (fun h36 => ?_)
 rotate_left
 ·refine Wn <| aU J <| aF <| Ck [2,3,5,6,7] J <| eK [((0 + 1), { cells := mc f, sz := 2, elem := (26), st := 0 }), (0, { cells := [.sl k (ss.map stc)], sz := 1, elem := (24), st := 0 })] ⟨gG, gG, trivial⟩ ?_
  cases oo with
  | some o => exact absurd rfl h36
  | none => exact J11 hfw [] [] 3 (dbO_2 h25 hoo) (Nat.zero_le _) (Nat.zero_le _) _
 refine Wn <| aT J <| bG (z := 6) J kR <| aC (aM (l := lvMo k ss) J J gG J J) J ?_
 refine aC (aM (l := lvM f) J J gG J J) J ?_
 refine aC (bM (b := lvQ (nq f)) (aK J (jV f hf1 hf2 hvf) dD) J) J <| Dm J J <| aC (aK J (qpicks_run k 1 ss (nq f) (vals ss (nq f)) hV hvf.bd hvl 268435456 (by decide) (by decide) hvb) (bR (by intro c hc; simp only [List.mem_cons, List.not_mem_nil, or_false] at hc; rcases hc with rfl | rfl | rfl; exact lQ; exact lQ; exact (.sl _ _ fun row hr => bN dqc row hr)))) J <| aC (gP J) J <| bD (aP kR) J <| Ck [2,3,5,6,7] J <| eK [((0 + 1), { cells := mc f, sz := 2, elem := (26), st := 0 }), (0, { cells := [.sl k (ss.map stc)], sz := 1, elem := (24), st := 0 })] ⟨gG, gG, trivial⟩ ?_
 cases oo with
 | none => exact absurd h36 (by decide)
 | some o => exact J11 hfw o _ 0 (dbO_3 h25 hoo hV1.pos) (by have := qS hoo; omega) (by rw [iT]; exact Nat.le_refl _) _
end Go.Proofs.YtahljdjhhapngaaGreat
