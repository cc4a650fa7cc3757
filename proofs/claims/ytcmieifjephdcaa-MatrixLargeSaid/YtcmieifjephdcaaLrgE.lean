/- Part E of the proof of matrixLarge_holds: what it rests on. No condition. -/
import Derived.Test.YtcmieifjephdcaaLrgD
set_option linter.unusedVariables false
set_option linter.unusedSimpArgs false
set_option maxRecDepth 100000
set_option maxHeartbeats 4000000
namespace Go.Proofs.Ytcmieifjephdcaa
open Go.Ab Go.RowKit
theorem nplus_run (v w : Int) (hv : len30 v < 1099511627775) (hw : len30 w < 1099511627775) : Run Try.prog T E0 (.call 94 [lvN v, lvN w] (lvN (v + w))) := by
 obtain ⟨xs, hxs, dv, qv, tv, lxv⟩ := ns_of v
 obtain ⟨ys, hys, dw, qw, tw, lyw⟩ := ns_of w
 have bv := na_bd v
 have bw := na_bd w
 refine mkcall Try.func94 rfl rfl (Nat.le_of_ble_eq_true rfl) ?_
 have J3 : ∀  (n : Nat) , WC Try.prog T E0 Try.f94.ntmps (codeR (codeR (codeOf Try.f94))) [(2, .ptr 0 0), (3, .ptr 1 0), (4, .ptr 2 0)] [(2, { cells := [.v (.int .i64 0), .v (.bool false), .sl 0 []], sz := 3, elem := 66, st := 0 }), (1, { cells := (lvN w).cells, sz := 3, elem := 66, st := 0 }), (0, { cells := (lvN v).cells, sz := 3, elem := 66, st := 0 })] n (Post T Try.f94.results.toList (lvN (v + w))) := by
  intro  n
  refine WC.draw (z := 6) rfl (by kernel_rfl) <| WD.U (oLdP (l := .agg [_, _, _]) rfl rfl rfl rfl rfl) rfl <| WD.U (oCall rfl ((hxs ▸ nlist_run v)) (by simp)) rfl <| WD.U (oLdP (l := .agg [_, _, _]) rfl rfl rfl rfl rfl) rfl <| WD.U (oCall rfl ((hys ▸ nlist_run w)) (by simp)) rfl <| WD.U (oAs rfl) rfl <| WD.U (oAs rfl) rfl <| WD.nil (drawOk_of (by kernel_rfl)) rfl <| WC.draw (z := 8) rfl (by kernel_rfl) <| WD.U (oLdP (l := .agg [_, _, _]) rfl rfl rfl rfl rfl) rfl <| WD.U (oCall rfl (nsign_run _) (by simp)) rfl <| WD.U (OP.cast (b := .v (.bool (decide (v < 0)))) (oLss rfl rfl) (by rw [dec_sign])) rfl <| WD.U (oLdP (l := .agg [_, _, _]) rfl rfl rfl rfl rfl) rfl <| WD.U (oCall rfl (nsign_run _) (by simp)) rfl <| WD.U (OP.cast (b := .v (.bool (decide (w < 0)))) (oLss rfl rfl) (by rw [dec_sign])) rfl <| WD.U (oAs rfl) rfl <| WD.U (oAs rfl) rfl <| WD.nil (drawOk_of (by kernel_rfl)) rfl <| WC.weak [(4, _), (5, _), (6, _), (7, _), (8, _)] ⟨rfl, rfl, rfl, rfl, rfl, trivial⟩ <| WC.block <| Rg 4 rfl <| Um rfl rfl <| Um rfl rfl <| WO.U (oEqB rfl rfl rfl) rfl ?_
  refine WO.B (fun h38 => ?_) (fun h38 => ?_)
  ·refine Ua rfl rfl <| Wn <| WC.cT1 rfl ?_
   obtain ⟨r, hr, ds, rfl, hdd, hvl, hln⟩ := nsum_run (if xs.length = 0 then 0 else 1) (if ys.length = 0 then 0 else 1) xs ys qv qw (by omega) (by omega)
   refine Rg 6 rfl <| Um rfl rfl <| Um rfl rfl <| Um rfl rfl <| WO.U (oCall rfl (hr) (by simp)) rfl <| WO.U (oCall rfl (nmade_run (decide (v < 0)) _ ds kind_ok hdd (by omega)) (by simp)) rfl <| WO.S0 (oSt (cs' := [_, _, _]) rfl rfl rfl rfl rfl rfl rfl rfl) <| Wn <| WC.ret <| after_ret <| post (n := 0) (.inr rfl) rfl ?_ (by simp)
   rw [← plus_same h38, ← dv, ← dw, ← hvl]; rfl
  refine Ua rfl rfl <| Wn <| WC.cF1 rfl <| Rg 5 rfl <| Um rfl rfl <| Um rfl rfl <| WO.U (oCall rfl (ncompare_run _ _ xs ys qv qw tv tw (by omega) (by omega)) (by simp)) rfl <| WO.U (oGeq rfl rfl) rfl <| WO.D (fun h48 => ?_) (fun h48 => ?_)
  ·refine Ua rfl rfl <| Wn <| WC.cT1 rfl ?_
   have hge : val 1073741824 ys ≤ val 1073741824 xs := by
    rcases Nat.lt_or_ge (val 1073741824 xs) (val 1073741824 ys) with h | h
    ·have := Int.sign_eq_neg_one_of_neg (a := (val 1073741824 xs : Int) - val 1073741824 ys) (by omega); omega
    ·exact h
   have hll : ys.length ≤ xs.length := by
    rcases Nat.lt_or_ge xs.length ys.length with h | h
    ·have := val_lt_len (by decide) qv tw h; omega
    ·exact h
   obtain ⟨r, hr, ds, rfl, hdd, hvl, hln⟩ := ndiff_run (if xs.length = 0 then 0 else 1) (if ys.length = 0 then 0 else 1) xs ys qv qw (by omega) hll hge
   refine Rg 6 rfl <| Um rfl rfl <| Um rfl rfl <| Um rfl rfl <| WO.U (oCall rfl (hr) (by simp)) rfl <| WO.U (oCall rfl (nmade_run (decide (v < 0)) _ ds kind_ok hdd (by omega)) (by simp)) rfl <| WO.S0 (oSt (cs' := [_, _, _]) rfl rfl rfl rfl rfl rfl rfl rfl) <| Nw [(4, _)] ⟨rfl, trivial⟩ <| WC.ret <| after_ret <| post (n := 0) (.inr rfl) rfl ?_ (by simp)
   rw [← plus_diff h38 (by omega), ← dv, ← dw, ← hvl]; rfl
  refine Ua rfl rfl <| Wn <| WC.cF1 rfl <| WC.skip <| after_normal ?_
  have hge : val 1073741824 xs ≤ val 1073741824 ys := by
   rcases Nat.lt_or_ge (val 1073741824 ys) (val 1073741824 xs) with h | h
   ·have := Int.sign_eq_one_of_pos (a := (val 1073741824 xs : Int) - val 1073741824 ys) (by omega); omega
   ·exact h
  have hll : xs.length ≤ ys.length := by
   rcases Nat.lt_or_ge ys.length xs.length with h | h
   ·have := val_lt_len (by decide) qw tv h; omega
   ·exact h
  obtain ⟨r, hr, ds, rfl, hdd, hvl, hln⟩ := ndiff_run (if ys.length = 0 then 0 else 1) (if xs.length = 0 then 0 else 1) ys xs qw qv (by omega) hll hge
  refine Rg 6 rfl <| Um rfl rfl <| Um rfl rfl <| Um rfl rfl <| WO.U (oCall rfl (hr) (by simp)) rfl <| WO.U (oCall rfl (nmade_run (decide (w < 0)) _ ds kind_ok hdd (by omega)) (by simp)) rfl <| WO.S0 (oSt (cs' := [_, _, _]) rfl rfl rfl rfl rfl rfl rfl rfl) <| Nw [(4, _)] ⟨rfl, trivial⟩ <| WC.ret <| post (n := 0) (.inr rfl) rfl ?_ (by simp)
  rw [← plus_diff' h38 (by omega), ← dv, ← dw, ← hvl]; rfl
 refine Rg 3 rfl <| WO.S (oBx rfl rfl) rfl <| WO.S (oBx rfl rfl) rfl <| WO.S (oAl rfl) rfl <| Wn <| WC.assoc <| Rg 10 rfl <| WO.U (oFaP rfl rfl rfl rfl rfl) rfl <| WO.U (oLdP rfl rfl rfl rfl rfl) rfl <| WO.U (oLenM rfl rfl) rfl <| WO.U (oEql rfl rfl) rfl <| WO.D (fun h12 => ?_) (fun h12 => ?_)
 rotate_left
 ·refine Um rfl rfl <| WO.K rfl rfl <| WO.K rfl rfl <| WO.K rfl rfl <| WO.K rfl rfl <| WO.U (oPkF rfl rfl) rfl <| Nw [(2, _), (3, _), (4, _), (18, _)] ⟨rfl, rfl, rfl, rfl, trivial⟩ <| WC.cF rfl <| WC.skips <| WC.weak [(2, _), (3, _), (4, _)] ⟨rfl, rfl, rfl, trivial⟩ ?_
  exact J3 _
 refine Um rfl rfl <| WO.Ug rfl (oFaP rfl rfl rfl rfl rfl) rfl <| WO.Ug rfl (oLdP rfl rfl rfl rfl rfl) rfl <| WO.Ug rfl (oLenM rfl rfl) rfl <| WO.Ug rfl (oEql rfl rfl) rfl <| WO.D (fun h17 => ?_) (fun h17 => ?_)
 rotate_left
 ·refine WO.U (oPkT rfl rfl) rfl <| Nw [(2, _), (3, _), (4, _), (18, _)] ⟨rfl, rfl, rfl, rfl, trivial⟩ <| WC.cF rfl <| WC.skips <| WC.weak [(2, _), (3, _), (4, _)] ⟨rfl, rfl, rfl, trivial⟩ ?_
  exact J3 _
 refine WO.U (oPkT rfl rfl) rfl <| Nw [(2, _), (3, _), (4, _), (18, _)] ⟨rfl, rfl, rfl, rfl, trivial⟩ <| WC.cT rfl <| WC.assoc ?_
 have h1 := na_small (ndg_len.1 h12)
 have h2 := na_small (ndg_len.1 h17)
 refine Rg 7 rfl <| WO.U (oFaP rfl rfl rfl rfl rfl) rfl <| WO.U (cI v (oLdP rfl rfl rfl rfl rfl) h1) rfl <| WO.U (oFaP rfl rfl rfl rfl rfl) rfl <| WO.U (cI w (oLdP rfl rfl rfl rfl rfl) h2) rfl <| WO.U (oAdd64 rfl rfl (by omega)) rfl <| WO.U (oCall rfl (nof_run _ (by unfold I64; omega)) (by simp)) rfl <| WO.S0 (oSt (cs' := [_, _, _]) rfl rfl rfl rfl rfl rfl rfl rfl) <| Wn <| WC.rets <| post (n := 0) (.inr rfl) rfl ?_ (by simp)
 rfl
theorem ntimes_run (v w : Int) (hv : len30 v < 549755813888) (hw : len30 w < 549755813888) : Run Try.prog T E0 (.call 31 [lvN v, lvN w] (lvN (v * w))) := by
 obtain ⟨xs, hxs, dv, qv, tv, lxv⟩ := ns_of v
 obtain ⟨ys, hys, dw, qw, tw, lyw⟩ := ns_of w
 have bv := na_bd v
 have bw := na_bd w
 refine mkcall Try.func31 rfl rfl (Nat.le_of_ble_eq_true rfl) ?_
 have J3 : ∀  (n : Nat) (hn : 3 ≤ n), WC Try.prog T E0 Try.f31.ntmps (codeR (codeR (codeOf Try.f31))) [(2, .ptr 0 0), (3, .ptr 1 0), (4, .ptr 2 0)] [(2, { cells := [.v (.int .i64 0), .v (.bool false), .sl 0 []], sz := 3, elem := 66, st := 0 }), (1, { cells := (lvN w).cells, sz := 3, elem := 66, st := 0 }), (0, { cells := (lvN v).cells, sz := 3, elem := 66, st := 0 })] n (Post T Try.f31.results.toList (lvN (v * w))) := by
  intro  n hn
  refine WC.draw (z := 6) rfl (by kernel_rfl) <| WD.U (oLdP (l := .agg [_, _, _]) rfl rfl rfl rfl rfl) rfl <| WD.U (oCall rfl ((hxs ▸ nlist_run v)) (by simp)) rfl <| WD.U (oLdP (l := .agg [_, _, _]) rfl rfl rfl rfl rfl) rfl <| WD.U (oCall rfl ((hys ▸ nlist_run w)) (by simp)) rfl <| WD.U (oAs rfl) rfl <| WD.U (oAs rfl) rfl <| WD.nil (drawOk_of (by kernel_rfl)) rfl <| Rg 7 rfl <| Um rfl rfl <| WO.U (oLenM rfl rfl) rfl <| Um rfl rfl <| WO.U (oLenM rfl rfl) rfl <| WO.U (oAdd64 rfl rfl (by omega)) rfl <| WO.S (oMk (a := xs.length + ys.length) (b := xs.length + ys.length) rfl rfl rfl rfl (by omega) (by omega) (by decide) (by omega) (by show 8 * (xs.length + ys.length) ≤ _; omega) (by omega)) rfl <| Ua rfl rfl <| Nw [(2, _), (3, _), (4, _), (5, _), (6, _), (7, _)] ⟨rfl, rfl, rfl, rfl, rfl, rfl, trivial⟩ <| WC.assoc <| Rg 3 rfl <| Um rfl rfl <| WO.U (oLenM rfl rfl) rfl <| Um rfl rfl <| WO.nil ?_
  refine WC.block <| WC.loopV (α := Nat × Nat × (List Nat)) (fun ⟨i, q, us⟩ => [(2, .ptr 0 0), (3, .ptr 1 0), (4, .ptr 2 0), (5, .sl (if xs.length = 0 then 0 else 1) (xs.map d64)), (6, .sl (if ys.length = 0 then 0 else 1) (ys.map d64)), (7, .ref q 1 0 us.length), (58, .v (.int .i64 (xs.length : Int))), (59, .v (.int .i64 (i : Int)))]) (fun ⟨i, q, us⟩ => [(q, { cells := (us.map d64).flatten, sz := 1, elem := 3, st := 0 }), (2, { cells := [.v (.int .i64 0), .v (.bool false), .sl 0 []], sz := 3, elem := 66, st := 0 }), (1, { cells := (lvN w).cells, sz := 3, elem := 66, st := 0 }), (0, { cells := (lvN v).cells, sz := 3, elem := 66, st := 0 })]) (fun ⟨i, q, us⟩ n => i ≤ xs.length ∧ us.length = xs.length + ys.length ∧ Dg 1073741824 us ∧ val 1073741824 us = val 1073741824 (xs.take i) * val 1073741824 ys ∧ (∀ j, i + ys.length ≤ j → us.getD j default = 0) ∧ 2 < q) (fun ⟨i, q, us⟩ => xs.length - i) (0, n + 6 + 5, List.replicate (xs.length + ys.length) 0) ⟨rfl, rfl, rfl, rfl, rfl, congrArg some (by rw [List.length_replicate]; rfl), rfl, rfl, trivial⟩ ⟨g0.trans (by rw [List.map_replicate]; rfl), g1 (by omega) g0, g1 (by omega) (g1 (by decide) g0), g1 (by omega) (g1 (by decide) (g1 (by decide) g0)), trivial⟩ ⟨Nat.zero_le _, by simp, by intro d hd; simp at hd; rw [hd.2]; decide, by rw [val_zeros]; simp [val], by intro j _; exact getD_zeros _ _, by omega⟩ ?_
  rintro ⟨i, q, us⟩ n hF
  change WC _ _ _ _ _ [(2, .ptr 0 0), (3, .ptr 1 0), (4, .ptr 2 0), (5, .sl (if xs.length = 0 then 0 else 1) (xs.map d64)), (6, .sl (if ys.length = 0 then 0 else 1) (ys.map d64)), (7, .ref q 1 0 us.length), (58, .v (.int .i64 (xs.length : Int))), (59, .v (.int .i64 (i : Int)))] ([(q, { cells := (us.map d64).flatten, sz := 1, elem := 3, st := 0 }), (2, { cells := [.v (.int .i64 0), .v (.bool false), .sl 0 []], sz := 3, elem := 66, st := 0 }), (1, { cells := (lvN w).cells, sz := 3, elem := 66, st := 0 }), (0, { cells := (lvN v).cells, sz := 3, elem := 66, st := 0 })]) n _
  obtain ⟨hi, hul, hud, huv, huz, hq⟩ := hF
  refine Rg 1 rfl <| WO.U (oLss rfl rfl) rfl <| WO.D (fun h60 => ?_) (fun h60 => ?_)
  rotate_left
  ·refine Wn <| WC.cF rfl <| WC.exits <| loopR_exit <| after_exit rfl ?_
   obtain ⟨q', rfl⟩ : ∃ q', q = q' + 3 := ⟨q - 3, by omega⟩
   have hE : val 1073741824 us = v.natAbs * w.natAbs := by
    rw [huv, List.take_of_length_le (by omega), dv, dw]
   refine WC.draw (z := 8) rfl (by kernel_rfl) <| WD.U (oLdP (l := .agg [_, _, _]) rfl rfl (g1 (by omega) (g1 (by decide) (g1 (by decide) g0))) rfl rfl) rfl <| WD.U (oCall rfl (nsign_run _) (by simp)) rfl <| WD.U (oLdP (l := .agg [_, _, _]) rfl rfl (g1 (by omega) (g1 (by decide) g0)) rfl rfl) rfl <| WD.U (oCall rfl (nsign_run _) (by simp)) rfl <| WD.U (oNeq rfl rfl) rfl <| Dm rfl rfl <| WD.S (oCallF [.v (.bool (decide (v.sign ≠ w.sign))), .sl 1 (us.map d64)] [(q' + 3, { cells := (us.map d64).flatten, sz := 1, elem := 3, st := 1 })] rfl (nmade_run (decide (v.sign ≠ w.sign)) 1 us (.inl rfl) hud (by omega)) (.data (by simp) (.own _ (by simp) g0 (by show (0 : Nat) ≠ 2; decide) rfl (by decide) (by simp [keys]) rfl rows_d64 data_rows_d64 .nil)) (by intro p hp; rw [List.mem_singleton] at hp; subst hp; exact ⟨_, g0, by show (0 : Nat) ≠ 2; decide, rfl⟩)) rfl <| WD.S0 (oSt (cs' := [_, _, _]) rfl rfl rfl (g1 (by omega) (g1 (by omega) g0)) rfl rfl rfl rfl) <| WD.nil (drawOk_of (by kernel_rfl)) rfl <| WC.weak [(4, _)] ⟨rfl, trivial⟩ <| WC.ret <| post (n := 0) (.inr rfl) rfl ?_ (by simp)
   have e1 : (if decide (v.sign ≠ w.sign) = true then -((val 1073741824 us : Nat) : Int) else ((val 1073741824 us : Nat) : Int)) = v * w := by
    rw [made_mul (by intro h; rw [hE]; rcases h with h | h <;> rw [h] <;> simp), hE, Int.natCast_mul]
    have h1 := sign_mul_abs v
    have h2 := sign_mul_abs w
    grind
   rw [← e1]; rfl
  refine Wn <| WC.cT rfl <| WC.skips <| WC.block <| Rg 2 rfl <| Um rfl rfl <| Ua rfl rfl <| Wn <| Rg 1 rfl <| Ua rfl rfl <| Wn <| WC.assoc <| Rg 3 rfl <| Um rfl rfl <| WO.U (oLenM rfl rfl) rfl <| Um rfl rfl <| Nw [(2, _), (3, _), (4, _), (5, _), (6, _), (7, _), (8, _), (9, _), (58, _), (59, _), (63, _), (64, _)] ⟨rfl, rfl, rfl, rfl, rfl, rfl, rfl, rfl, rfl, rfl, rfl, rfl, trivial⟩ <| WC.block <| WC.loopV (α := Nat × Nat × (List Nat)) (fun ⟨k, c, us1⟩ => [(2, .ptr 0 0), (3, .ptr 1 0), (4, .ptr 2 0), (5, .sl (if xs.length = 0 then 0 else 1) (xs.map d64)), (6, .sl (if ys.length = 0 then 0 else 1) (ys.map d64)), (7, .ref q 1 0 us1.length), (8, .v (.int .i64 (i : Int))), (9, .v (.int .i64 (c : Int))), (58, .v (.int .i64 (xs.length : Int))), (59, .v (.int .i64 (i : Int))), (63, .v (.int .i64 (ys.length : Int))), (64, .v (.int .i64 (k : Int)))]) (fun ⟨k, c, us1⟩ => [(q, { cells := (us1.map d64).flatten, sz := 1, elem := 3, st := 0 }), (2, { cells := [.v (.int .i64 0), .v (.bool false), .sl 0 []], sz := 3, elem := 66, st := 0 }), (1, { cells := (lvN w).cells, sz := 3, elem := 66, st := 0 }), (0, { cells := (lvN v).cells, sz := 3, elem := 66, st := 0 })]) (fun ⟨k, c, us1⟩ n => k ≤ ys.length ∧ us1.length = us.length ∧ Dg 1073741824 us1 ∧ c < 1073741824 ∧ val 1073741824 us1 + 1073741824 ^ (i + k) * c = val 1073741824 us + 1073741824 ^ i * (xs.getD i default * val 1073741824 (ys.take k)) ∧ (∀ j, i + k ≤ j → us1.getD j default = us.getD j default)) (fun ⟨k, c, us1⟩ => ys.length - k) (0, 0, us) ⟨rfl, rfl, rfl, rfl, rfl, rfl, rfl, rfl, rfl, rfl, rfl, rfl, trivial⟩ ⟨g0, g1 (by omega) g0, g1 (by omega) (g1 (by decide) g0), g1 (by omega) (g1 (by decide) (g1 (by decide) g0)), trivial⟩ ⟨Nat.zero_le _, rfl, hud, by decide, by simp [val], fun _ _ => rfl⟩ ?_
  rintro ⟨k, c, us1⟩ n hG
  change WC _ _ _ _ _ [(2, .ptr 0 0), (3, .ptr 1 0), (4, .ptr 2 0), (5, .sl (if xs.length = 0 then 0 else 1) (xs.map d64)), (6, .sl (if ys.length = 0 then 0 else 1) (ys.map d64)), (7, .ref q 1 0 us1.length), (8, .v (.int .i64 (i : Int))), (9, .v (.int .i64 (c : Int))), (58, .v (.int .i64 (xs.length : Int))), (59, .v (.int .i64 (i : Int))), (63, .v (.int .i64 (ys.length : Int))), (64, .v (.int .i64 (k : Int)))] ([(q, { cells := (us1.map d64).flatten, sz := 1, elem := 3, st := 0 }), (2, { cells := [.v (.int .i64 0), .v (.bool false), .sl 0 []], sz := 3, elem := 66, st := 0 }), (1, { cells := (lvN w).cells, sz := 3, elem := 66, st := 0 }), (0, { cells := (lvN v).cells, sz := 3, elem := 66, st := 0 })]) n _
  obtain ⟨hk, hl1, hd1, hc1, hv1, hz1⟩ := hG
  refine Rg 1 rfl <| WO.U (oLss rfl rfl) rfl <| WO.D (fun h65 => ?_) (fun h65 => ?_)
  rotate_left
  ·refine Wn <| WC.cF rfl <| WC.exits <| loopR_exit <| after_exit rfl <| WC.reg1z (z := 8) rfl <| Um rfl rfl <| Um rfl rfl <| Um rfl rfl <| WO.U (oLenM rfl rfl) rfl <| WO.U (cI (((i + ys.length : Nat) : Int)) (oAdd64 rfl rfl (by omega)) (by omega)) rfl <| Um rfl rfl <| WO.U (oIxR rfl rfl rfl rfl rfl (by omega) rfl) rfl <| WO.S0 (oStO (f := d64) (us := us1) c rfl rfl rfl g0 (fun _ => rfl) rfl rfl (by omega) rfl) <| Wn <| after_normal <| WC.weak [(2, _), (3, _), (4, _), (5, _), (6, _), (7, _), (58, _), (59, _)] ⟨rfl, rfl, rfl, rfl, rfl, rfl, rfl, rfl, trivial⟩ <| WC.reg1z (z := 2) rfl <| WO.U (cI (((i + 1 : Nat) : Int)) (oAdd64 rfl rfl (by omega)) (by omega)) rfl <| Um rfl rfl <| Wn <| loopR_normal <| ⟨⟨i + 1, q, us1.set (i + ys.length) c⟩, ⟨rfl, rfl, rfl, rfl, rfl, congrArg some (by rw [List.length_set]), rfl, rfl, trivial⟩, ⟨g0, g1 (by omega) (g1 (by omega) g0), g1 (by omega) (g1 (by omega) (g1 (by decide) g0)), g1 (by omega) (g1 (by omega) (g1 (by decide) (g1 (by decide) g0))), trivial⟩, ⟨by omega, by rw [List.length_set]; omega, hd1.set _ hc1, ?_, ?_, hq⟩, by show xs.length - (i + 1) < xs.length - i; omega⟩
   ·have hk' : k = ys.length := by omega
    subst hk'
    have h1 := val_set (B := 1073741824) us1 (i + ys.length) c (by omega)
    rw [hz1 _ (Nat.le_refl _), huz _ (Nat.le_refl _), Nat.mul_zero, Nat.add_zero] at h1
    rw [h1, hv1, huv, take_succ_val, List.take_of_length_le (Nat.le_refl _), Nat.add_mul, Nat.mul_assoc]
   ·intro j hj
    rw [lgetD_set (by omega), hz1 j (by omega)]; exact huz j (by omega)
  refine Wn <| WC.cT rfl <| WC.skips <| WC.block <| Rg 2 rfl <| Um rfl rfl <| Ua rfl rfl <| Nw [(2, _), (3, _), (4, _), (5, _), (6, _), (7, _), (8, _), (9, _), (10, _), (58, _), (59, _), (63, _), (64, _)] ⟨rfl, rfl, rfl, rfl, rfl, rfl, rfl, rfl, rfl, rfl, rfl, rfl, rfl, trivial⟩ ?_
  have hp : xs.getD i default < 1073741824 := getD_lt qv (by omega)
  have hqk : ys.getD k default < 1073741824 := getD_lt qw (by omega)
  have ho : us1.getD (i + k) default < 1073741824 := getD_lt hd1 (by omega)
  have hpq := mul30 hp hqk
  refine WC.draw (z := 19) rfl (by kernel_rfl) <| Dm rfl rfl <| Dm rfl rfl <| Dm rfl rfl <| Dm rfl rfl <| WD.U (cI (((i + k : Nat) : Int)) (oAdd64 rfl rfl (by omega)) (by omega)) rfl <| WD.U (oIxR rfl rfl rfl rfl rfl (by omega) rfl) rfl <| WD.U (oLdO (f := d64) (us := us1) (j := i + k) rfl rfl g0 (fun _ => rfl) rfl (by decide) (by omega) rfl) rfl <| Dm rfl rfl <| Dm rfl rfl <| WD.U (oIxM rfl rfl rfl rfl rfl (by omega) rfl) rfl <| WD.U (oLd rfl rfl rfl) rfl <| Dm rfl rfl <| Dm rfl rfl <| WD.U (oIxM rfl rfl rfl rfl rfl (by omega) rfl) rfl <| WD.U (oLd rfl rfl rfl) rfl <| WD.U (cI (((xs.getD i default * ys.getD k default : Nat) : Int)) (oMul64 rfl rfl (by rw [← Int.natCast_mul]; omega)) (by simp)) rfl <| WD.U (cI (((xs.getD i default * ys.getD k default + us1.getD (i + k) default : Nat) : Int)) (oAdd64 rfl rfl (by omega)) (by omega)) rfl <| WD.U (cI ((((c + (xs.getD i default * ys.getD k default + us1.getD (i + k) default)) : Nat) : Int)) (oAdd64 rfl rfl (by omega)) (by omega)) rfl <| WD.U (oAs rfl) rfl <| WD.nil (drawOk_of (by kernel_rfl)) rfl <| WC.weak [(2, _), (3, _), (4, _), (5, _), (6, _), (7, _), (8, _), (9, _), (10, _), (58, _), (59, _), (63, _), (64, _)] ⟨rfl, rfl, rfl, rfl, rfl, rfl, rfl, rfl, rfl, rfl, rfl, rfl, rfl, trivial⟩ <| Rg 8 rfl <| Um rfl rfl ?_
  refine Um rfl rfl <| Um rfl rfl <| WO.U (cI (((i + k : Nat) : Int)) (oAdd64 rfl rfl (by omega)) (by omega)) rfl <| Um rfl rfl <| WO.U (oRemN (a := (c + (xs.getD i default * ys.getD k default + us1.getD (i + k) default))) (b := 1073741824) rfl rfl (by decide)) rfl <| WO.U (oIxR rfl rfl rfl rfl rfl (by omega) rfl) rfl <| WO.S0 (oStO (f := d64) (us := us1) ((c + (xs.getD i default * ys.getD k default + us1.getD (i + k) default)) % 1073741824) rfl rfl rfl g0 (fun _ => rfl) rfl rfl (by omega) rfl) <| Nw [(2, _), (3, _), (4, _), (5, _), (6, _), (7, _), (8, _), (9, _), (58, _), (59, _), (63, _), (64, _)] ⟨rfl, rfl, rfl, rfl, rfl, rfl, rfl, rfl, rfl, rfl, rfl, rfl, trivial⟩ <| WC.reg1z (z := 3) rfl <| Um rfl rfl <| WO.U (oQuoN (a := (c + (xs.getD i default * ys.getD k default + us1.getD (i + k) default))) (b := 1073741824) rfl rfl (by decide) (by omega)) rfl <| Ua rfl rfl <| Wn <| after_normal <| WC.reg1z (z := 2) rfl <| WO.U (cI (((k + 1 : Nat) : Int)) (oAdd64 rfl rfl (by omega)) (by omega)) rfl <| Um rfl rfl <| Wn <| loopR_normal <| ⟨⟨k + 1, (c + (xs.getD i default * ys.getD k default + us1.getD (i + k) default)) / 1073741824, us1.set (i + k) ((c + (xs.getD i default * ys.getD k default + us1.getD (i + k) default)) % 1073741824)⟩, ⟨rfl, rfl, rfl, rfl, rfl, congrArg some (by rw [List.length_set]), rfl, rfl, rfl, rfl, rfl, rfl, trivial⟩, ⟨g0, g1 (by omega) (g1 (by omega) g0), g1 (by omega) (g1 (by omega) (g1 (by decide) g0)), g1 (by omega) (g1 (by omega) (g1 (by decide) (g1 (by decide) g0))), trivial⟩, ⟨by omega, by rw [List.length_set]; exact hl1, hd1.set _ (Nat.mod_lt _ (by decide)), by omega, mul_step hv1 (by omega), ?_⟩, by show ys.length - (k + 1) < ys.length - k; omega⟩
  intro j hj
  rw [lgetD_set (by omega)]; exact hz1 j (by omega)
 refine Rg 3 rfl <| WO.S (oBx rfl rfl) rfl <| WO.S (oBx rfl rfl) rfl <| WO.S (oAl rfl) rfl <| Wn <| WC.assoc <| Rg 30 rfl <| WO.U (oFaP rfl rfl rfl rfl rfl) rfl <| WO.U (oLdP rfl rfl rfl rfl rfl) rfl <| WO.U (oLenM rfl rfl) rfl <| WO.U (oEql rfl rfl) rfl <| WO.D (fun h14 => ?_) (fun h14 => ?_)
 rotate_left
 ·refine Um rfl rfl <| WO.K rfl rfl <| WO.K rfl rfl <| WO.K rfl rfl <| WO.K rfl rfl <| WO.U (oPkF rfl rfl) rfl <| Um rfl rfl <| WO.K rfl rfl <| WO.K rfl rfl <| WO.K rfl rfl <| WO.U (oPkF rfl rfl) rfl <| Um rfl rfl <| WO.K rfl rfl <| WO.K rfl rfl <| WO.K rfl rfl <| WO.U (oPkF rfl rfl) rfl <| Um rfl rfl <| WO.K rfl rfl <| WO.K rfl rfl <| WO.K rfl rfl <| WO.U (oPkF rfl rfl) rfl <| Um rfl rfl <| WO.K rfl rfl <| WO.K rfl rfl ?_
  refine WO.K rfl rfl <| WO.U (oPkF rfl rfl) rfl <| Nw [(2, _), (3, _), (4, _), (40, _)] ⟨rfl, rfl, rfl, rfl, trivial⟩ <| WC.cF rfl <| WC.skips <| WC.weak [(2, _), (3, _), (4, _)] ⟨rfl, rfl, rfl, trivial⟩ ?_
  exact J3 _ (by omega)
 refine Um rfl rfl <| WO.Ug rfl (oFaP rfl rfl rfl rfl rfl) rfl <| WO.Ug rfl (oLdP rfl rfl rfl rfl rfl) rfl <| WO.Ug rfl (oLenM rfl rfl) rfl <| WO.Ug rfl (oEql rfl rfl) rfl <| WO.D (fun h19 => ?_) (fun h19 => ?_)
 rotate_left
 ·refine WO.U (oPkT rfl rfl) rfl <| Um rfl rfl <| WO.K rfl rfl <| WO.K rfl rfl <| WO.K rfl rfl <| WO.U (oPkF rfl rfl) rfl <| Um rfl rfl <| WO.K rfl rfl <| WO.K rfl rfl <| WO.K rfl rfl <| WO.U (oPkF rfl rfl) rfl <| Um rfl rfl <| WO.K rfl rfl <| WO.K rfl rfl <| WO.K rfl rfl <| WO.U (oPkF rfl rfl) rfl <| Um rfl rfl <| WO.K rfl rfl <| WO.K rfl rfl <| WO.K rfl rfl <| WO.U (oPkF rfl rfl) rfl <| Nw [(2, _), (3, _), (4, _), (40, _)] ⟨rfl, rfl, rfl, rfl, trivial⟩ <| WC.cF rfl ?_
  refine WC.skips <| WC.weak [(2, _), (3, _), (4, _)] ⟨rfl, rfl, rfl, trivial⟩ ?_
  exact J3 _ (by omega)
 refine WO.U (oPkT rfl rfl) rfl <| Um rfl rfl <| WO.Ug rfl (oFaP rfl rfl rfl rfl rfl) rfl <| WO.Ug rfl (oLdP rfl rfl rfl rfl rfl) rfl <| WO.Ug rfl (oGtr rfl rfl) rfl <| WO.D (fun h24 => ?_) (fun h24 => ?_)
 rotate_left
 ·refine WO.U (oPkT rfl rfl) rfl <| Um rfl rfl <| WO.K rfl rfl <| WO.K rfl rfl <| WO.K rfl rfl <| WO.U (oPkF rfl rfl) rfl <| Um rfl rfl <| WO.K rfl rfl <| WO.K rfl rfl <| WO.K rfl rfl <| WO.U (oPkF rfl rfl) rfl <| Um rfl rfl <| WO.K rfl rfl <| WO.K rfl rfl <| WO.K rfl rfl <| WO.U (oPkF rfl rfl) rfl <| Nw [(2, _), (3, _), (4, _), (40, _)] ⟨rfl, rfl, rfl, rfl, trivial⟩ <| WC.cF rfl <| WC.skips <| WC.weak [(2, _), (3, _), (4, _)] ⟨rfl, rfl, rfl, trivial⟩ ?_
  exact J3 _ (by omega)
 refine WO.U (oPkT rfl rfl) rfl <| Um rfl rfl <| WO.Ug rfl (oFaP rfl rfl rfl rfl rfl) rfl <| WO.Ug rfl (oLdP rfl rfl rfl rfl rfl) rfl <| WO.Ug rfl (oLss rfl rfl) rfl <| WO.D (fun h29 => ?_) (fun h29 => ?_)
 rotate_left
 ·refine WO.U (oPkT rfl rfl) rfl <| Um rfl rfl <| WO.K rfl rfl <| WO.K rfl rfl <| WO.K rfl rfl <| WO.U (oPkF rfl rfl) rfl <| Um rfl rfl <| WO.K rfl rfl <| WO.K rfl rfl <| WO.K rfl rfl <| WO.U (oPkF rfl rfl) rfl <| Nw [(2, _), (3, _), (4, _), (40, _)] ⟨rfl, rfl, rfl, rfl, trivial⟩ <| WC.cF rfl <| WC.skips <| WC.weak [(2, _), (3, _), (4, _)] ⟨rfl, rfl, rfl, trivial⟩ ?_
  exact J3 _ (by omega)
 refine WO.U (oPkT rfl rfl) rfl <| Um rfl rfl <| WO.Ug rfl (oFaP rfl rfl rfl rfl rfl) rfl <| WO.Ug rfl (oLdP rfl rfl rfl rfl rfl) rfl <| WO.Ug rfl (oGtr rfl rfl) rfl <| WO.D (fun h34 => ?_) (fun h34 => ?_)
 rotate_left
 ·refine WO.U (oPkT rfl rfl) rfl <| Um rfl rfl <| WO.K rfl rfl <| WO.K rfl rfl <| WO.K rfl rfl <| WO.U (oPkF rfl rfl) rfl <| Nw [(2, _), (3, _), (4, _), (40, _)] ⟨rfl, rfl, rfl, rfl, trivial⟩ <| WC.cF rfl <| WC.skips <| WC.weak [(2, _), (3, _), (4, _)] ⟨rfl, rfl, rfl, trivial⟩ ?_
  exact J3 _ (by omega)
 refine WO.U (oPkT rfl rfl) rfl <| Um rfl rfl <| WO.Ug rfl (oFaP rfl rfl rfl rfl rfl) rfl <| WO.Ug rfl (oLdP rfl rfl rfl rfl rfl) rfl <| WO.Ug rfl (oLss rfl rfl) rfl <| WO.D (fun h39 => ?_) (fun h39 => ?_)
 rotate_left
 ·refine WO.U (oPkT rfl rfl) rfl <| Nw [(2, _), (3, _), (4, _), (40, _)] ⟨rfl, rfl, rfl, rfl, trivial⟩ <| WC.cF rfl <| WC.skips <| WC.weak [(2, _), (3, _), (4, _)] ⟨rfl, rfl, rfl, trivial⟩ ?_
  exact J3 _ (by omega)
 refine WO.U (oPkT rfl rfl) rfl <| Nw [(2, _), (3, _), (4, _), (40, _)] ⟨rfl, rfl, rfl, rfl, trivial⟩ <| WC.cT rfl <| WC.assoc ?_
 have h1 := na_small (ndg_len.1 h14)
 have h2 := na_small (ndg_len.1 h19)
 have h3 := prod_small (v := v) (w := w) (by omega) (by omega)
 refine Rg 7 rfl <| WO.U (oFaP rfl rfl rfl rfl rfl) rfl <| WO.U (cI v (oLdP rfl rfl rfl rfl rfl) h1) rfl <| WO.U (oFaP rfl rfl rfl rfl rfl) rfl <| WO.U (cI w (oLdP rfl rfl rfl rfl rfl) h2) rfl <| WO.U (oMul64 rfl rfl (by omega)) rfl <| WO.U (oBd (cs := [_, _, _]) rfl rfl rfl rfl rfl) rfl <| WO.S0 (oSt (cs' := [_, _, _]) rfl rfl rfl rfl rfl rfl rfl rfl) <| Wn <| WC.rets <| post (n := 0) (.inr rfl) rfl ?_ (by simp)
 rw [lvN_small (v := v * w) (by unfold smallN; omega)]; rfl
theorem nover_run (v w : Int) (hw0 : w ≠ 0) (hv : len30 v < 549755813888) (hw : len30 w < 549755813888) : Run Try.prog T E0 (.call 80 [lvN v, lvN w] (.tup [lvN (v.tdiv w), lvN (v.tmod w)])) := by
 obtain ⟨xs, hxs, dv, qv, tv, lxv⟩ := ns_of v
 obtain ⟨ys, hys, dw, qw, tw, lyw⟩ := ns_of w
 have bv := na_bd v
 have bw := na_bd w
 refine mkcall Try.func80 rfl rfl (Nat.le_of_ble_eq_true rfl) ?_
 have J3 : ∀  (n : Nat) , WC Try.prog T E0 Try.f80.ntmps (codeR (codeR (codeOf Try.f80))) [(2, .ptr 0 0), (3, .ptr 1 0), (4, .ptr 2 0), (5, .ptr 3 0)] [(3, { cells := [.v (.int .i64 0), .v (.bool false), .sl 0 []], sz := 3, elem := 66, st := 0 }), (2, { cells := [.v (.int .i64 0), .v (.bool false), .sl 0 []], sz := 3, elem := 66, st := 0 }), (1, { cells := (lvN w).cells, sz := 3, elem := 66, st := 0 }), (0, { cells := (lvN v).cells, sz := 3, elem := 66, st := 0 })] n (Post T Try.f80.results.toList (.tup [lvN (v.tdiv w), lvN (v.tmod w)])) := by
  intro  n
  have hy1 : 1 ≤ ys.length := by
   rcases Nat.eq_zero_or_pos ys.length with h | h
   ·rw [List.length_eq_zero_iff.1 h] at dw; simp [val] at dw; omega
   ·exact h
  obtain ⟨r, hr, k3, qs, k4, rs, rfl, hk3, hk4, hqd, hrd, hval, hrest, hql, hrl⟩ := ndivided_run (if xs.length = 0 then 0 else 1) (if ys.length = 0 then 0 else 1) xs ys kind_ok qv qw tv tw hy1 (by omega) (by omega)
  obtain ⟨hq1, hq2⟩ := quo_law (v := v) (w := w) (q := val 1073741824 qs) (r := val 1073741824 rs) (by rw [← dw, ← dv]; exact hval) (by rw [← dw]; exact hrest)
  have hz : v = 0 → val 1073741824 qs = 0 ∧ val 1073741824 rs = 0 := by
   intro h
   rw [dv, h] at hval
   have hy0 : 0 < val 1073741824 ys := by omega
   have h2 : val 1073741824 qs * val 1073741824 ys = 0 := by simp at hval; omega
   rcases Nat.mul_eq_zero.1 h2 with h3 | h3
   ·simp at hval; omega
   ·omega
  refine WC.draw (z := 10) rfl (by kernel_rfl) <| WD.U (oLdP (l := .agg [_, _, _]) rfl rfl rfl rfl rfl) rfl <| WD.U (oCall rfl ((hxs ▸ nlist_run v)) (by simp)) rfl <| WD.U (oLdP (l := .agg [_, _, _]) rfl rfl rfl rfl rfl) rfl <| WD.U (oCall rfl ((hys ▸ nlist_run w)) (by simp)) rfl <| WD.U (oCall rfl (hr) (by simp)) rfl <| Dm rfl rfl <| WD.U (oEx rfl rfl) rfl <| WD.U (oEx rfl rfl) rfl <| WD.U (oAs rfl) rfl <| WD.U (oAs rfl) rfl <| WD.nil (drawOk_of (by kernel_rfl)) rfl <| WC.draw (z := 14) rfl (by kernel_rfl) <| WD.U (oLdP (l := .agg [_, _, _]) rfl rfl rfl rfl rfl) rfl <| WD.U (oCall rfl (nsign_run _) (by simp)) rfl <| WD.U (oLdP (l := .agg [_, _, _]) rfl rfl rfl rfl rfl) rfl <| WD.U (oCall rfl (nsign_run _) (by simp)) rfl <| WD.U (oNeq rfl rfl) rfl <| Dm rfl rfl <| WD.U (oCall rfl (nmade_run (decide (v.sign ≠ w.sign)) k3 qs hk3 hqd (by omega)) (by simp)) rfl <| WD.U (oLdP (l := .agg [_, _, _]) rfl rfl rfl rfl rfl) rfl <| WD.U (oCall rfl (nsign_run _) (by simp)) rfl <| WD.U (OP.cast (b := .v (.bool (decide (v < 0)))) (oLss rfl rfl) (by rw [dec_sign])) rfl <| Dm rfl rfl ?_
  refine WD.U (oCall rfl (nmade_run (decide (v < 0)) k4 rs hk4 hrd (by omega)) (by simp)) rfl <| WD.S0 (oSt (cs' := [_, _, _]) rfl rfl rfl rfl rfl rfl rfl rfl) <| WD.S0 (oSt (cs' := [_, _, _]) rfl rfl rfl rfl rfl rfl rfl rfl) <| WD.nil (drawOk_of (by kernel_rfl)) rfl <| WC.weak [(4, _), (5, _)] ⟨rfl, rfl, trivial⟩ <| WC.ret <| post (n := 0) (.inr rfl) rfl ?_ (by simp)
  rw [hq1, hq2, ← made_quo (fun h => (hz h).1) hw0, ← made_sg (fun h => (hz h).2)]; rfl
 refine Rg 4 rfl <| WO.S (oBx rfl rfl) rfl <| WO.S (oBx rfl rfl) rfl <| WO.S (oAl rfl) rfl <| WO.S (oAl rfl) rfl <| Wn <| WC.assoc <| Rg 10 rfl <| WO.U (oFaP rfl rfl rfl rfl rfl) rfl <| WO.U (oLdP rfl rfl rfl rfl rfl) rfl <| WO.U (oLenM rfl rfl) rfl <| WO.U (oEql rfl rfl) rfl <| WO.D (fun h11 => ?_) (fun h11 => ?_)
 rotate_left
 ·refine Um rfl rfl <| WO.K rfl rfl <| WO.K rfl rfl <| WO.K rfl rfl <| WO.K rfl rfl <| WO.U (oPkF rfl rfl) rfl <| Nw [(2, _), (3, _), (4, _), (5, _), (17, _)] ⟨rfl, rfl, rfl, rfl, rfl, trivial⟩ <| WC.cF rfl <| WC.skips <| WC.weak [(2, _), (3, _), (4, _), (5, _)] ⟨rfl, rfl, rfl, rfl, trivial⟩ ?_
  exact J3 _
 refine Um rfl rfl <| WO.Ug rfl (oFaP rfl rfl rfl rfl rfl) rfl <| WO.Ug rfl (oLdP rfl rfl rfl rfl rfl) rfl <| WO.Ug rfl (oLenM rfl rfl) rfl <| WO.Ug rfl (oEql rfl rfl) rfl <| WO.D (fun h16 => ?_) (fun h16 => ?_)
 rotate_left
 ·refine WO.U (oPkT rfl rfl) rfl <| Nw [(2, _), (3, _), (4, _), (5, _), (17, _)] ⟨rfl, rfl, rfl, rfl, rfl, trivial⟩ <| WC.cF rfl <| WC.skips <| WC.weak [(2, _), (3, _), (4, _), (5, _)] ⟨rfl, rfl, rfl, rfl, trivial⟩ ?_
  exact J3 _
 refine WO.U (oPkT rfl rfl) rfl <| Nw [(2, _), (3, _), (4, _), (5, _), (17, _)] ⟨rfl, rfl, rfl, rfl, rfl, trivial⟩ <| WC.cT rfl <| WC.assoc ?_
 have hia := na_small (ndg_len.1 h11)
 have hiw := na_small (ndg_len.1 h16)
 have sv := ndg_len.1 h11
 have b1 : (v.tdiv w).natAbs ≤ v.natAbs := by rw [Int.natAbs_tdiv]; exact Nat.div_le_self _ _
 have b2 : (v.tmod w).natAbs ≤ v.natAbs := by rw [Int.natAbs_tmod]; exact Nat.mod_le _ _
 unfold smallN at sv
 refine WC.draw (z := 14) rfl (by kernel_rfl) <| WD.U (oFaP rfl rfl rfl rfl rfl) rfl <| WD.U (cI v (oLdP rfl rfl rfl rfl rfl) hia) rfl <| WD.U (oFaP rfl rfl rfl rfl rfl) rfl <| WD.U (cI w (oLdP rfl rfl rfl rfl rfl) hiw) rfl <| WD.U (oQuo64 rfl rfl hw0 (by omega)) rfl <| WD.U (oBd (cs := [_, _, _]) rfl rfl rfl rfl rfl) rfl <| WD.U (oFaP rfl rfl rfl rfl rfl) rfl <| WD.U (cI v (oLdP rfl rfl rfl rfl rfl) hia) rfl <| WD.U (oFaP rfl rfl rfl rfl rfl) rfl <| WD.U (cI w (oLdP rfl rfl rfl rfl rfl) hiw) rfl <| WD.U (oRem rfl rfl hw0) rfl <| WD.U (oBd (cs := [_, _, _]) rfl rfl rfl rfl rfl) rfl <| WD.S0 (oSt (cs' := [_, _, _]) rfl rfl rfl rfl rfl rfl rfl rfl) <| WD.S0 (oSt (cs' := [_, _, _]) rfl rfl rfl rfl rfl rfl rfl rfl) <| WD.nil (drawOk_of (by kernel_rfl)) rfl <| WC.weak [(4, _), (5, _)] ⟨rfl, rfl, trivial⟩ <| WC.rets <| post (n := 0) (.inr rfl) rfl ?_ (by simp)
 rw [lvN_small (v := v.tdiv w) (by unfold smallN; omega), lvN_small (v := v.tmod w) (by unfold smallN; omega)]; rfl
theorem nless_run (v w : Int) (hv : len30 v < 1099511627775) (hw : len30 w < 1099511627775) : Run Try.prog T E0 (.call 82 [lvN v, lvN w] (lvN (v - w))) := by
 refine mkcall Try.func82 rfl rfl (Nat.le_of_ble_eq_true rfl) <| Rg 3 rfl <| WO.S (oBx rfl rfl) rfl <| WO.S (oBx rfl rfl) rfl <| WO.S (oAl rfl) rfl <| Wn <| WC.draw (z := 5) rfl (by kernel_rfl) <| WD.U (oLdP (l := .agg [_, _, _]) rfl rfl rfl rfl rfl) rfl <| WD.U (oLdP (l := .agg [_, _, _]) rfl rfl rfl rfl rfl) rfl <| WD.U (oCall rfl (nminus_run _) (by simp)) rfl <| WD.U (oCall rfl (nplus_run v (-w) hv (by rw [len30_neg]; exact hw)) (by simp)) rfl <| WD.S0 (oSt (cs' := [_, _, _]) rfl rfl rfl rfl rfl rfl rfl rfl) <| WD.nil (drawOk_of (by kernel_rfl)) rfl <| WC.ret <| post (n := 0) (.inr rfl) rfl ?_ (by simp)
 rw [Int.sub_eq_add_neg]; rfl
theorem ncmp_run (v w : Int) (hv : len30 v < 1099511627775) (hw : len30 w < 1099511627775) : Run Try.prog T E0 (.call 59 [lvN v, lvN w] (.v (.int .i64 (v - w).sign))) := by
 refine mkcall Try.func59 rfl rfl (Nat.le_of_ble_eq_true rfl) <| Rg 3 rfl <| WO.S (oBx rfl rfl) rfl <| WO.S (oBx rfl rfl) rfl <| Ua rfl rfl <| Wn <| Rg 5 rfl <| WO.U (oLdP (l := .agg [_, _, _]) rfl rfl rfl rfl rfl) rfl <| WO.U (oLdP (l := .agg [_, _, _]) rfl rfl rfl rfl rfl) rfl <| WO.U (oCall rfl (nless_run v w hv hw) (by simp)) rfl <| WO.U (oCall rfl (nsign_run _) (by simp)) rfl <| Ua rfl rfl <| Wn <| WC.ret ?_
 exact post (n := 0) (.inr rfl) rfl rfl (by simp)
theorem nabs_run (v : Int) : Run Try.prog T E0 (.call 81 [lvN v] (lvN v.natAbs)) := by
 refine mkcall Try.func81 rfl rfl (Nat.le_of_ble_eq_true rfl) <| Rg 2 rfl <| WO.S (oBx rfl rfl) rfl <| WO.S (oAl rfl) rfl <| Wn <| WC.assoc <| Rg 3 rfl <| WO.U (oLdP (l := .agg [_, _, _]) rfl rfl rfl rfl rfl) rfl <| WO.U (oCall rfl (nsign_run _) (by simp)) rfl <| WO.U (oLss rfl rfl) rfl <| WO.D (fun h5 => ?_) (fun h5 => ?_)
 rotate_left
 ·refine Wn <| WC.cF rfl <| WC.skips <| Rg 2 rfl <| WO.U (oLdP (l := .agg [_, _, _]) rfl rfl rfl rfl rfl) rfl <| WO.S0 (oSt (cs' := [_, _, _]) rfl rfl rfl rfl rfl rfl rfl rfl) <| Wn <| WC.ret <| post (n := 0) (.inr rfl) rfl ?_ (by simp)
  have : ¬ v < 0 := fun k => h5 (Int.sign_neg_iff.2 k)
  have e : (v.natAbs : Int) = v := by omega
  rw [e]; rfl
 refine Wn <| WC.cT rfl <| WC.assoc <| Rg 3 rfl <| WO.U (oLdP (l := .agg [_, _, _]) rfl rfl rfl rfl rfl) rfl <| WO.U (oCall rfl (nminus_run _) (by simp)) rfl <| WO.S0 (oSt (cs' := [_, _, _]) rfl rfl rfl rfl rfl rfl rfl rfl) <| Wn <| WC.rets <| post (n := 0) (.inr rfl) rfl ?_ (by simp)
 have := Int.sign_neg_iff.1 h5
 have e : (v.natAbs : Int) = -v := by omega
 rw [e]; rfl
theorem ngcd_run (v w : Int) (hv : len30 v < 549755813888) (hw : len30 w < 549755813888) : Run Try.prog T E0 (.call 58 [lvN v, lvN w] (lvN (v.gcd w : Nat))) := by
 refine mkcall Try.func58 rfl rfl (Nat.le_of_ble_eq_true rfl) <| Rg 3 rfl <| WO.S (oBx rfl rfl) rfl <| WO.S (oBx rfl rfl) rfl <| WO.S (oAl rfl) rfl <| Wn <| WC.block <| WC.loopV (α := Int × Int) (fun ⟨a, b⟩ => [(2, .ptr 0 0), (3, .ptr 1 0), (4, .ptr 2 0)]) (fun ⟨a, b⟩ => [(0, { cells := (lvN a).cells, sz := 3, elem := 66, st := 0 }), (1, { cells := (lvN b).cells, sz := 3, elem := 66, st := 0 }), (2, { cells := [.v (.int .i64 0), .v (.bool false), .sl 0 []], sz := 3, elem := 66, st := 0 })]) (fun ⟨a, b⟩ n => Int.gcd a b = v.gcd w ∧ len30 a < 549755813888 ∧ len30 b < 549755813888 ∧ 3 ≤ n) (fun ⟨a, b⟩ => b.natAbs) (v, w) ⟨rfl, rfl, rfl, trivial⟩ ⟨rfl, rfl, rfl, trivial⟩ ⟨rfl, hv, hw, by omega⟩ ?_
 rintro ⟨a, b⟩ n hF
 change WC _ _ _ _ _ [(2, .ptr 0 0), (3, .ptr 1 0), (4, .ptr 2 0)] ([(0, { cells := (lvN a).cells, sz := 3, elem := 66, st := 0 }), (1, { cells := (lvN b).cells, sz := 3, elem := 66, st := 0 }), (2, { cells := [.v (.int .i64 0), .v (.bool false), .sl 0 []], sz := 3, elem := 66, st := 0 })]) n _
 obtain ⟨hg, hla, hlb, hn3⟩ := hF
 refine WC.assoc <| Rg 3 rfl <| WO.U (oLdP (l := .agg [_, _, _]) rfl rfl rfl rfl rfl) rfl <| WO.U (oCall rfl (nsign_run _) (by simp)) rfl <| WO.U (oNeq rfl rfl) rfl <| WO.D (fun h9 => ?_) (fun h9 => ?_)
 rotate_left
 ·refine Wn <| WC.cF rfl <| WC.exits <| loopR_exit <| after_exit rfl <| Rg 3 rfl <| WO.U (oLdP (l := .agg [_, _, _]) rfl rfl rfl rfl rfl) rfl <| WO.U (oCall rfl (nabs_run a) (by simp)) rfl <| WO.S0 (oSt (cs' := [_, _, _]) rfl rfl rfl rfl rfl rfl rfl rfl) <| Wn <| WC.ret <| post (n := 0) (.inr rfl) rfl ?_ (by simp)
  have hb0 : b = 0 := by
   have := Int.sign_eq_zero_iff_zero (a := b); omega
  subst hb0
  rw [Int.gcd_zero_right] at hg
  rw [← hg]; rfl
 refine Wn <| WC.cT rfl <| WC.skips <| WC.block1 ?_
 have hb0 : b ≠ 0 := by
  intro h; subst h; simp at h9
 have hlm : len30 (a.tmod b) < 549755813888 := by have := len30_tmod a b; omega
 have hlt : (a.tmod b).natAbs < b.natAbs := by rw [Int.natAbs_tmod]; exact Nat.mod_lt _ (by omega)
 refine Rg 10 rfl <| WO.U (oLdP (l := .agg [_, _, _]) rfl rfl rfl rfl rfl) rfl <| WO.U (oLdP (l := .agg [_, _, _]) rfl rfl rfl rfl rfl) rfl <| WO.U (oCall rfl (nover_run a b hb0 hla hlb) (by simp)) rfl <| Um rfl rfl <| WO.U (oEx rfl rfl) rfl <| WO.U (oEx rfl rfl) rfl <| WO.S (oAl rfl) rfl <| WO.S (oAl rfl) rfl <| WO.S0 (oSt (cs' := [_, _, _]) rfl rfl rfl (g1 (by omega) g0) rfl rfl rfl rfl) <| WO.S0 (oSt (cs' := [_, _, _]) rfl rfl rfl (g1 (by omega) g0) rfl rfl rfl rfl) <| Wn <| WC.draw1z (z := 4) rfl (by kernel_rfl) <| WD.U (oLdP (l := .agg [_, _, _]) rfl rfl (g1 (by omega) (g1 (by omega) (g1 (by omega) (g1 (by omega) (g1 (by decide) g0))))) rfl rfl) rfl <| WD.U (oLdP (l := .agg [_, _, _]) rfl rfl g0 rfl rfl) rfl <| WD.S0 (oSt (cs' := [_, _, _]) rfl rfl rfl (g1 (by omega) (g1 (by omega) (g1 (by omega) (g1 (by omega) g0)))) rfl rfl rfl rfl) <| WD.S0 (oSt (cs' := [_, _, _]) rfl rfl rfl (g1 (by decide) (g1 (by omega) (g1 (by omega) (g1 (by omega) (g1 (by omega) (g1 (by decide) g0)))))) rfl rfl rfl rfl) <| WD.nil (drawOk_of (by kernel_rfl)) rfl <| after0_normal <| loopR_normal <| ⟨⟨b, a.tmod b⟩, ⟨rfl, rfl, rfl, trivial⟩, ⟨g1 (by decide) g0, g0, g1 (by decide) (g1 (by decide) (g1 (by omega) (g1 (by omega) (g1 (by omega) (g1 (by omega) (g1 (by decide) (g1 (by decide) g0))))))), trivial⟩, ⟨by rw [gcd_tmod, hg], hlb, hlm, by omega⟩, hlt⟩
theorem nsmall_run (v : Int) : Run Try.prog T E0 (.call 32 [lvN v] (.tup [.v (.int .i64 (if -1152921504606846976 ≤ v ∧ v ≤ 1152921504606846976 then v else 0)), .v (.bool (decide (-1152921504606846976 ≤ v ∧ v ≤ 1152921504606846976)))])) := by
 refine mkcall Try.func32 rfl rfl (Nat.le_of_ble_eq_true rfl) <| Rg 3 rfl <| WO.S (oBx rfl rfl) rfl <| Ua rfl rfl <| Ua rfl rfl <| Wn <| WC.assoc <| Rg 14 rfl <| WO.U (oFaP rfl rfl rfl rfl rfl) rfl <| WO.U (oLdP rfl rfl rfl rfl rfl) rfl <| WO.U (oLenM rfl rfl) rfl <| WO.U (oGtr rfl rfl) rfl <| WO.D (fun h7 => ?_) (fun h7 => ?_)
 ·refine Um rfl rfl <| WO.K rfl rfl <| WO.K rfl rfl <| WO.K rfl rfl <| WO.U (oPkT rfl rfl) rfl <| Um rfl rfl <| WO.K rfl rfl <| WO.K rfl rfl <| WO.K rfl rfl <| WO.U (oPkT rfl rfl) rfl <| Nw [(1, _), (17, _)] ⟨rfl, rfl, trivial⟩ <| WC.cT rfl <| WC.assoc <| Rg 2 rfl <| Ua rfl rfl <| Ua rfl rfl <| Wn <| WC.rets <| post (n := 0) (.inr rfl) rfl ?_ (by simp)
  have hn : ¬ (-1152921504606846976 ≤ v ∧ v ≤ 1152921504606846976) := inN.1 (by first | exact .inl h7 | exact .inr (.inl h11) | exact .inr (.inr h16))
  rw [if_neg hn, decide_eq_false hn]; rfl
 refine Um rfl rfl <| WO.Ug rfl (oFaP rfl rfl rfl rfl rfl) rfl <| WO.Ug rfl (oLdP rfl rfl rfl rfl rfl) rfl <| WO.Ug rfl (oGtr rfl rfl) rfl <| WO.D (fun h11 => ?_) (fun h11 => ?_)
 ·refine WO.U (oPkF rfl rfl) rfl <| Um rfl rfl <| WO.K rfl rfl <| WO.K rfl rfl <| WO.K rfl rfl <| WO.U (oPkT rfl rfl) rfl <| Nw [(1, _), (17, _)] ⟨rfl, rfl, trivial⟩ <| WC.cT rfl <| WC.assoc <| Rg 2 rfl <| Ua rfl rfl <| Ua rfl rfl <| Wn <| WC.rets <| post (n := 0) (.inr rfl) rfl ?_ (by simp)
  have hn : ¬ (-1152921504606846976 ≤ v ∧ v ≤ 1152921504606846976) := inN.1 (by first | exact .inl h7 | exact .inr (.inl h11) | exact .inr (.inr h16))
  rw [if_neg hn, decide_eq_false hn]; rfl
 refine WO.U (oPkF rfl rfl) rfl <| Um rfl rfl <| WO.Ug rfl (oFaP rfl rfl rfl rfl rfl) rfl <| WO.Ug rfl (oLdP rfl rfl rfl rfl rfl) rfl <| WO.Ug rfl (oLss rfl rfl) rfl <| WO.D (fun h16 => ?_) (fun h16 => ?_)
 ·refine WO.U (oPkF rfl rfl) rfl <| Nw [(1, _), (17, _)] ⟨rfl, rfl, trivial⟩ <| WC.cT rfl <| WC.assoc <| Rg 2 rfl <| Ua rfl rfl <| Ua rfl rfl <| Wn <| WC.rets <| post (n := 0) (.inr rfl) rfl ?_ (by simp)
  have hn : ¬ (-1152921504606846976 ≤ v ∧ v ≤ 1152921504606846976) := inN.1 (by first | exact .inl h7 | exact .inr (.inl h11) | exact .inr (.inr h16))
  rw [if_neg hn, decide_eq_false hn]; rfl
 refine WO.U (oPkF rfl rfl) rfl <| Nw [(1, _), (17, _)] ⟨rfl, rfl, trivial⟩ <| WC.cF rfl <| WC.skips <| Rg 4 rfl <| WO.U (oFaP rfl rfl rfl rfl rfl) rfl <| WO.U (oLdP rfl rfl rfl rfl rfl) rfl <| Ua rfl rfl <| Ua rfl rfl <| Wn <| WC.ret <| post (n := 0) (.inr rfl) rfl ?_ (by simp)
 have hn : -1152921504606846976 ≤ v ∧ v ≤ 1152921504606846976 := by
  by_cases h : -1152921504606846976 ≤ v ∧ v ≤ 1152921504606846976
  ·exact h
  ·have := inN.2 h; omega
 have hs : na v = v := na_small (by unfold smallN; omega)
 rw [if_pos hn, decide_eq_true hn]
 exact congrArg (fun z => LV.tup [.v (.int .i64 z), .v (.bool true)]) hs
theorem nnvalid_run (a : NM) (h1 : I64 a.1) (h2 : I64 a.2) : Run Try.prog T E0 (.call 29 [lvM a] (.v (.bool (decide (VN a))))) := by
 have m1 := len30_i64 h1
 have m2 := len30_i64 h2
 have l1 : len30 (1 : Int) ≤ 3 := len30_small (by decide)
 have l2 : len30 ((a.1.gcd a.2 : Nat) : Int) ≤ 3 := len30_of (by
  unfold I64 at h1 h2
  by_cases h0 : a.2 = 0
  ·rw [h0]; simp; omega
  ·have h1 : a.1.gcd a.2 ≤ a.2.natAbs := Nat.le_of_dvd (by omega) (Nat.gcd_dvd_right _ _)
   simp; omega)
 have h1' := h1
 have h2' := h2
 unfold I64 at h1 h2
 refine mkcall Try.func29 rfl rfl (Nat.le_of_ble_eq_true rfl) <| Rg 2 rfl <| WO.S (oBx rfl rfl) rfl <| Ua rfl rfl <| Wn <| WC.assoc <| Rg 18 rfl <| WO.U (oFaP rfl rfl rfl rfl rfl) rfl <| WO.U (oLdP rfl rfl rfl rfl rfl) rfl <| WO.U (oLss rfl rfl) rfl <| WO.D (fun h5 => ?_) (fun h5 => ?_)
 ·refine Um rfl rfl <| WO.K rfl rfl <| WO.K rfl rfl <| WO.K rfl rfl <| WO.U (oPkT rfl rfl) rfl <| Um rfl rfl <| WO.K rfl rfl <| WO.K rfl rfl <| WO.K rfl rfl <| WO.U (oPkT rfl rfl) rfl <| Um rfl rfl <| WO.K rfl rfl <| WO.K rfl rfl <| WO.K rfl rfl <| WO.U (oPkT rfl rfl) rfl <| Nw [(1, _), (20, _)] ⟨rfl, rfl, trivial⟩ <| WC.cT rfl <| WC.assoc ?_
  have hV : ¬ VN a := by unfold VN; omega
  refine Rg 1 rfl <| Ua rfl rfl <| Wn <| WC.rets <| post (n := 0) (.inr rfl) rfl ?_ (by simp)
  exact congrArg (fun z => LV.v (.bool z)) (decide_eq_false hV).symm
 refine Um rfl rfl <| WO.Ug rfl (oFaP rfl rfl rfl rfl rfl) rfl <| WO.Ug rfl (oLdP rfl rfl rfl rfl rfl) rfl <| WO.Ug rfl (oGtr rfl rfl) rfl <| WO.D (fun h9 => ?_) (fun h9 => ?_)
 ·refine WO.U (oPkF rfl rfl) rfl <| Um rfl rfl <| WO.K rfl rfl <| WO.K rfl rfl <| WO.K rfl rfl <| WO.U (oPkT rfl rfl) rfl <| Um rfl rfl <| WO.K rfl rfl <| WO.K rfl rfl <| WO.K rfl rfl <| WO.U (oPkT rfl rfl) rfl <| Nw [(1, _), (20, _)] ⟨rfl, rfl, trivial⟩ <| WC.cT rfl <| WC.assoc ?_
  have hV : ¬ VN a := by unfold VN; omega
  refine Rg 1 rfl <| Ua rfl rfl <| Wn <| WC.rets <| post (n := 0) (.inr rfl) rfl ?_ (by simp)
  exact congrArg (fun z => LV.v (.bool z)) (decide_eq_false hV).symm
 refine WO.U (oPkF rfl rfl) rfl <| Um rfl rfl <| WO.Ug rfl (oFaP rfl rfl rfl rfl rfl) rfl <| WO.Ug rfl (oLdP rfl rfl rfl rfl rfl) rfl <| WO.Ug rfl (oGtr rfl rfl) rfl <| WO.D (fun h14 => ?_) (fun h14 => ?_)
 ·refine WO.U (oPkF rfl rfl) rfl <| Um rfl rfl <| WO.K rfl rfl <| WO.K rfl rfl <| WO.K rfl rfl <| WO.U (oPkT rfl rfl) rfl <| Nw [(1, _), (20, _)] ⟨rfl, rfl, trivial⟩ <| WC.cT rfl <| WC.assoc ?_
  have hV : ¬ VN a := by unfold VN; omega
  refine Rg 1 rfl <| Ua rfl rfl <| Wn <| WC.rets <| post (n := 0) (.inr rfl) rfl ?_ (by simp)
  exact congrArg (fun z => LV.v (.bool z)) (decide_eq_false hV).symm
 refine WO.U (oPkF rfl rfl) rfl <| Um rfl rfl <| WO.Ug rfl (oFaP rfl rfl rfl rfl rfl) rfl <| WO.Ug rfl (oLdP rfl rfl rfl rfl rfl) rfl <| WO.Ug rfl (oLss rfl rfl) rfl <| WO.D (fun h19 => ?_) (fun h19 => ?_)
 ·refine WO.U (oPkF rfl rfl) rfl <| Nw [(1, _), (20, _)] ⟨rfl, rfl, trivial⟩ <| WC.cT rfl <| WC.assoc ?_
  have hV : ¬ VN a := by unfold VN; omega
  refine Rg 1 rfl <| Ua rfl rfl <| Wn <| WC.rets <| post (n := 0) (.inr rfl) rfl ?_ (by simp)
  exact congrArg (fun z => LV.v (.bool z)) (decide_eq_false hV).symm
 refine WO.U (oPkF rfl rfl) rfl <| Nw [(1, _), (20, _)] ⟨rfl, rfl, trivial⟩ <| WC.cF rfl <| WC.skips <| WC.draw (z := 11) rfl (by kernel_rfl) <| WD.U (oFaP rfl rfl rfl rfl rfl) rfl <| WD.U (oLdP rfl rfl rfl rfl rfl) rfl <| WD.U (oCall rfl (nof_run _ (by unfold I64; omega)) (by simp)) rfl <| WD.U (oFaP rfl rfl rfl rfl rfl) rfl <| WD.U (oLdP rfl rfl rfl rfl rfl) rfl <| WD.U (oCall rfl (nof_run _ (by unfold I64; omega)) (by simp)) rfl <| WD.U (oCall rfl (ngcd_run a.1 a.2 (by omega) (by omega)) (by simp)) rfl <| WD.U (oCall rfl (nof_run _ (by unfold I64; omega)) (by simp)) rfl <| WD.U (oCall rfl (ncmp_run (a.1.gcd a.2 : Nat) 1 (by omega) (by omega)) (by simp)) rfl <| WD.U (oEql rfl rfl) rfl <| WD.U (oAs rfl) rfl <| WD.nil (drawOk_of (by kernel_rfl)) rfl <| WC.ret <| post (n := 0) (.inr rfl) rfl ?_ (by simp)
 have hV : decide ((((a.1.gcd a.2 : Nat) : Int) - 1).sign = 0) = decide (VN a) := by
  apply decide_eq_decide.2; rw [gcd_one]; unfold VN; omega
 exact congrArg (fun z => LV.v (.bool z)) hV
theorem nfrom_run (x : Rat) : Run Try.prog T E0 (.call 63 [lvQ x] (.tup [lvM ((outN x).getD (0, 0)), .v (.bool (outN x).isSome)])) := by
 refine mkcall Try.func63 rfl rfl (Nat.le_of_ble_eq_true rfl) <| Rg 3 rfl <| WO.S (oBx rfl rfl) rfl <| WO.S (oAl rfl) rfl <| Ua rfl rfl <| Wn <| Rg 8 rfl <| WO.U (oFaP rfl rfl rfl rfl rfl) rfl <| WO.U (oLdP (l := .agg [_, _, _]) rfl rfl rfl rfl rfl) rfl <| WO.U (oCall rfl (nsmall_run x.num) (by simp)) rfl <| Um rfl rfl <| WO.U (oEx rfl rfl) rfl <| WO.U (oEx rfl rfl) rfl <| WO.B (fun h13 => ?_) (fun h13 => ?_)
 rotate_left
 ·refine Ua rfl rfl <| Ua rfl rfl <| Wn <| Rg 8 rfl <| WO.U (oFaP rfl rfl rfl rfl rfl) rfl <| WO.U (oLdP (l := .agg [_, _, _]) rfl rfl rfl rfl rfl) rfl <| WO.U (oCall rfl (nsmall_run x.den) (by simp)) rfl <| Um rfl rfl <| WO.U (oEx rfl rfl) rfl <| WO.U (oEx rfl rfl) rfl <| WO.B (fun h19 => ?_) (fun h19 => ?_)
  ·refine Ua rfl rfl <| Ua rfl rfl <| Nw [(2, _), (4, _), (5, _), (6, _), (7, _)] ⟨rfl, rfl, rfl, rfl, rfl, trivial⟩ <| WC.assoc <| Rg 6 rfl <| Um rfl rfl <| WO.U (oNot rfl) rfl <| Um rfl rfl <| WO.K rfl rfl <| WO.K rfl rfl <| WO.U (oPkT rfl rfl) rfl <| Wn <| WC.cT rfl <| WC.assoc ?_
   have hV : outN x = none := by
    unfold outN; rw [if_neg]; simp at *; omega
   refine Rg 3 rfl <| WO.U (oBd (cs := [_, _]) rfl rfl rfl rfl rfl) rfl <| WO.S0 (oSt (cs' := [_, _]) rfl rfl rfl rfl rfl rfl rfl rfl) <| Ua rfl rfl <| Wn <| WC.rets <| post (n := 0) (.inr rfl) rfl ?_ (by simp)
   first | (rw [hV]; rfl) | (rw [hV, if_pos k1, if_pos k2]; rfl)
  refine Ua rfl rfl <| Ua rfl rfl <| Nw [(2, _), (4, _), (5, _), (6, _), (7, _)] ⟨rfl, rfl, rfl, rfl, rfl, trivial⟩ <| WC.assoc <| Rg 6 rfl <| Um rfl rfl <| WO.U (oNot rfl) rfl <| Um rfl rfl <| WO.K rfl rfl <| WO.K rfl rfl <| WO.U (oPkT rfl rfl) rfl <| Wn <| WC.cT rfl <| WC.assoc ?_
  have hV : outN x = none := by
   unfold outN; rw [if_neg]; simp at *; omega
  refine Rg 3 rfl <| WO.U (oBd (cs := [_, _]) rfl rfl rfl rfl rfl) rfl <| WO.S0 (oSt (cs' := [_, _]) rfl rfl rfl rfl rfl rfl rfl rfl) <| Ua rfl rfl <| Wn <| WC.rets <| post (n := 0) (.inr rfl) rfl ?_ (by simp)
  first | (rw [hV]; rfl) | (rw [hV, if_pos k1, if_pos k2]; rfl)
 refine Ua rfl rfl <| Ua rfl rfl <| Wn <| Rg 8 rfl <| WO.U (oFaP rfl rfl rfl rfl rfl) rfl <| WO.U (oLdP (l := .agg [_, _, _]) rfl rfl rfl rfl rfl) rfl <| WO.U (oCall rfl (nsmall_run x.den) (by simp)) rfl <| Um rfl rfl <| WO.U (oEx rfl rfl) rfl <| WO.U (oEx rfl rfl) rfl <| WO.B (fun h19 => ?_) (fun h19 => ?_)
 rotate_left
 ·refine Ua rfl rfl <| Ua rfl rfl <| Nw [(2, _), (4, _), (5, _), (6, _), (7, _)] ⟨rfl, rfl, rfl, rfl, rfl, trivial⟩ <| WC.assoc <| Rg 6 rfl <| Um rfl rfl <| WO.U (oNot rfl) rfl <| Um rfl rfl <| WO.Ug rfl (oMv rfl) rfl <| WO.Ug rfl (oNot rfl) rfl <| WO.U (oPkF rfl rfl) rfl <| Wn <| WC.cT rfl <| WC.assoc ?_
  have hV : outN x = none := by
   unfold outN; rw [if_neg]; simp at *; omega
  refine Rg 3 rfl <| WO.U (oBd (cs := [_, _]) rfl rfl rfl rfl rfl) rfl <| WO.S0 (oSt (cs' := [_, _]) rfl rfl rfl rfl rfl rfl rfl rfl) <| Ua rfl rfl <| Wn <| WC.rets <| post (n := 0) (.inr rfl) rfl ?_ (by simp)
  first | (rw [hV]; rfl) | (rw [hV, if_pos k1, if_pos k2]; rfl)
 refine Ua rfl rfl <| Ua rfl rfl <| Nw [(2, _), (4, _), (5, _), (6, _), (7, _)] ⟨rfl, rfl, rfl, rfl, rfl, trivial⟩ <| WC.assoc <| Rg 6 rfl <| Um rfl rfl <| WO.U (oNot rfl) rfl <| Um rfl rfl <| WO.Ug rfl (oMv rfl) rfl <| WO.Ug rfl (oNot rfl) rfl <| WO.U (oPkF rfl rfl) rfl <| Wn <| WC.cF rfl <| WC.skips ?_
 have k1 := of_decide_eq_true h13
 have k2 := of_decide_eq_true h19
 have hV : outN x = some (x.num, (x.den : Int)) := by
  unfold outN; rw [if_pos ⟨k1, k2.2⟩]
 refine Rg 5 rfl <| Um rfl rfl <| Um rfl rfl <| WO.U (oBd (cs := [_, _]) rfl rfl rfl rfl rfl) rfl <| WO.S0 (oSt (cs' := [_, _]) rfl rfl rfl rfl rfl rfl rfl rfl) <| Ua rfl rfl <| Nw [(2, _), (3, _)] ⟨rfl, rfl, trivial⟩ <| WC.ret <| post (n := 0) (.inr rfl) rfl ?_ (by simp)
 first | (rw [hV]; rfl) | (rw [hV, if_pos k1, if_pos k2]; rfl)
theorem nnum_run (x : Rat) : Run Try.prog T E0 (.call 33 [lvQ x] (lvO (outN x))) := by
 refine mkcall Try.func33 rfl rfl (Nat.le_of_ble_eq_true rfl) <| Rg 3 rfl <| WO.S (oBx rfl rfl) rfl <| WO.S (oAl rfl) rfl <| Ua rfl rfl <| Wn <| Rg 8 rfl <| WO.U (oLdP (l := .agg [_, _, _, _, _, _]) rfl rfl rfl rfl rfl) rfl <| WO.U (oCall rfl (nfrom_run x) (by simp)) rfl <| Um rfl rfl <| WO.U (oEx rfl rfl) rfl <| WO.U (oEx rfl rfl) rfl <| WO.B (fun h10 => ?_) (fun h10 => ?_)
 ·refine WO.S (oAl rfl) rfl <| WO.S0 (oSt (cs' := [_, _]) rfl rfl rfl g0 rfl rfl rfl rfl) <| Ua rfl rfl <| Wn <| WC.assoc <| Rg 2 rfl <| Um rfl rfl <| WO.U (oNot rfl) rfl <| Wn <| WC.cF rfl <| WC.skips <| Rg 3 rfl <| WO.U (oLdP (l := .agg [_, _]) rfl rfl g0 rfl rfl) rfl <| WO.S0 (oSt (cs' := [_, _]) rfl rfl rfl rfl rfl rfl rfl rfl) <| Ua rfl rfl <| Wn <| WC.ret <| post (n := 0) (.inr rfl) rfl ?_ (by simp)
  cases hV : outN x with
  | none => first | rfl | (rw [hV] at h10; cases h10)
  | some a => first | rfl | (rw [hV] at h10; cases h10) | (rw [hV]; rfl)
 refine WO.S (oAl rfl) rfl <| WO.S0 (oSt (cs' := [_, _]) rfl rfl rfl g0 rfl rfl rfl rfl) <| Ua rfl rfl <| Wn <| WC.assoc <| Rg 2 rfl <| Um rfl rfl <| WO.U (oNot rfl) rfl <| Wn <| WC.cT rfl <| WC.assoc <| Rg 3 rfl <| WO.U (oBd (cs := [_, _]) rfl rfl rfl rfl rfl) rfl <| WO.S0 (oSt (cs' := [_, _]) rfl rfl rfl rfl rfl rfl rfl rfl) <| Ua rfl rfl <| Wn <| WC.rets <| post (n := 0) (.inr rfl) rfl ?_ (by simp)
 cases hV : outN x with
 | none => first | rfl | (rw [hV] at h10; cases h10)
 | some a => first | rfl | (rw [hV] at h10; cases h10) | (rw [hV]; rfl)
end Go.Proofs.Ytcmieifjephdcaa
set_option linter.unusedVariables false
set_option linter.unusedSimpArgs false
set_option maxRecDepth 100000
set_option maxHeartbeats 4000000
namespace Go.Proofs.Ytcmieifjephdcaa
open Go.Ab Go.RowKit
theorem idx1_run (k : Nat) (ns : List NM) (g : FuncId) (cap : List LV) (p : NM → Bool) (hcap : ∀ c, c ∈ cap → Go.Ab.Data c) (ln : ns.length < 4611686018427387904) (hp : ∀ a, a ∈ ns → Run Try.prog T E0 (.call g ([lvM a] ++ cap) (.v (.bool (p a))))) : Run Try.prog T E0 (.call 95 [.sl k (ns.map mc), .fn (.func g) [] cap] (.v (.int .i64 (fidx p ns)))) := by
 refine mkcall Try.func95 rfl rfl (Nat.le_of_ble_eq_true rfl) <| Rg 1 rfl <| Ua rfl rfl <| Wn <| WC.assoc <| Rg 3 rfl <| Um rfl rfl <| WO.U (oLenM rfl rfl) rfl <| Um rfl rfl <| Wn <| WC.block <| WC.loopV (α := Nat) (fun i => [(0, .sl k (ns.map mc)), (1, .fn (.func g) [] cap), (7, .v (.int .i64 (ns.length : Int))), (8, .v (.int .i64 (i : Int)))]) (fun i => []) (fun i n => i ≤ ns.length ∧ (ns.take i).any p = false) (fun i => ns.length - i) (0) ⟨rfl, rfl, rfl, rfl, trivial⟩ trivial ⟨Nat.zero_le _, by simp⟩ ?_
 rintro i n hF
 change WC _ _ _ _ _ [(0, .sl k (ns.map mc)), (1, .fn (.func g) [] cap), (7, .v (.int .i64 (ns.length : Int))), (8, .v (.int .i64 (i : Int)))] ([]) n _
 obtain ⟨hi, ha⟩ := hF
 refine Rg 1 rfl <| WO.U (oLss rfl rfl) rfl <| WO.D (fun h9 => ?_) (fun h9 => ?_)
 rotate_left
 ·refine Wn <| WC.cF rfl <| WC.exits <| loopR_exit <| after_exit rfl <| Rg 1 rfl <| Ua rfl rfl <| Wn <| WC.ret <| post (n := 0) (.inr rfl) rfl ?_ (by first | (simp [-data_sl]; done) | simp)
  exact congrArg (fun z => LV.v (.int .i64 z)) (fidx_none ha (by omega)).symm
 refine Wn <| WC.cT rfl <| WC.skips <| WC.block <| Rg 2 rfl <| Um rfl rfl <| Ua rfl rfl <| Wn <| Rg 6 rfl <| Um rfl rfl <| Um rfl rfl <| Um rfl rfl <| WO.U (oIxM rfl rfl rfl rfl rfl (by omega) rfl) rfl <| WO.U (oLd (l := .agg [_, _]) rfl rfl rfl) rfl <| WO.U (oCallV rfl rfl (hp _ (getD_mem (by omega))) (allData_of (by simpa [-data_sl] using hcap))) rfl <| WO.B (fun h16 => ?_) (fun h16 => ?_)
 rotate_left
 ·refine Wn <| WC.cF1 rfl <| WC.skip <| after_normal <| WC.reg1z (z := 2) rfl <| WO.U (cI (((i + 1 : Nat) : Int)) (oAdd64 rfl rfl (by omega)) (by omega)) rfl <| Um rfl rfl <| Wn <| loopR_normal <| ⟨i + 1, ⟨rfl, rfl, rfl, rfl, trivial⟩, trivial, ⟨by omega, take_any ha (by omega) h16⟩, by show ns.length - (i + 1) < ns.length - i; omega⟩
 refine Wn <| WC.cT1 rfl <| Rg 2 rfl <| Um rfl rfl <| Ua rfl rfl <| Nw [(4, _)] ⟨rfl, trivial⟩ <| WC.ret <| after_ret <| loopR_ret <| after_ret <| post (n := 0) (.inr rfl) rfl ?_ (by first | (simp [-data_sl]; done) | simp)
 exact congrArg (fun z => LV.v (.int .i64 z)) (fidx_hit ha (by omega) h16).symm
theorem con1_run (k : Nat) (ns : List NM) (g : FuncId) (cap : List LV) (p : NM → Bool) (hcap : ∀ c, c ∈ cap → Go.Ab.Data c) (ln : ns.length < 4611686018427387904) (hp : ∀ a, a ∈ ns → Run Try.prog T E0 (.call g ([lvM a] ++ cap) (.v (.bool (p a))))) : Run Try.prog T E0 (.call 83 [.sl k (ns.map mc), .fn (.func g) [] cap] (.v (.bool (ns.any p)))) := by
 refine mkcall Try.func83 rfl rfl (Nat.le_of_ble_eq_true rfl) <| Rg 1 rfl <| Ua rfl rfl <| Wn <| Rg 5 rfl <| Um rfl rfl <| Um rfl rfl <| WO.U (oCall rfl (idx1_run k ns g cap p hcap ln hp) (by simpa [-data_sl] using hcap)) rfl <| WO.U (oGeq rfl rfl) rfl <| Ua rfl rfl <| Wn <| WC.ret <| post (n := 0) (.inr rfl) rfl ?_ (by first | (simp [-data_sl]; done) | simp)
 exact congrArg (fun z => LV.v (.bool z)) (fidx_nonneg p ns)
theorem not1_run (a : NM) (g : FuncId) (cap : List LV) (b : Bool) (hcap : ∀ c, c ∈ cap → Go.Ab.Data c) (hg : Run Try.prog T E0 (.call g ([lvM a] ++ cap) (.v (.bool b)))) : Run Try.prog T E0 (.call 84 [lvM a, .ro [.fn (.func g) [] cap]] (.v (.bool (!b)))) := by
 refine mkcall Try.func84 rfl rfl (Nat.le_of_ble_eq_true rfl) <| Rg 2 rfl <| WO.S (oBx rfl rfl) rfl <| Ua rfl rfl <| Wn <| Rg 5 rfl <| WO.U (oLd (cs := [.fn (.func g) [] cap]) (l := .fn (.func g) [] cap) rfl rfl rfl) rfl <| WO.U (oLdP (l := .agg [_, _]) rfl rfl rfl rfl rfl) rfl <| WO.U (oCallV rfl rfl hg (allData_of (by simpa [-data_sl] using hcap))) rfl <| WO.U (oNot rfl) rfl <| Ua rfl rfl <| Wn <| WC.ret ?_
 exact post (n := 0) (.inr rfl) rfl rfl (by simp)
theorem all1_run (k : Nat) (ns : List NM) (g : FuncId) (cap : List LV) (p : NM → Bool) (hcap : ∀ c, c ∈ cap → Go.Ab.Data c) (ln : ns.length < 4611686018427387904) (hp : ∀ a, a ∈ ns → Run Try.prog T E0 (.call g ([lvM a] ++ cap) (.v (.bool (p a))))) : Run Try.prog T E0 (.call 64 [.sl k (ns.map mc), .fn (.func g) [] cap] (.v (.bool (ns.all p)))) := by
 refine mkcall Try.func64 rfl rfl (Nat.le_of_ble_eq_true rfl) <| Rg 2 rfl <| WO.S (oBx rfl rfl) rfl <| Ua rfl rfl <| Wn <| Rg 5 rfl <| Um rfl rfl <| WO.U (oMf rfl) rfl <| WO.S (oCallF [.sl k (ns.map mc), .fn (.func 84) [] [.ro [.fn (.func g) [] cap]]] [(0, { cells := [.fn (.func g) [] cap], sz := 1, elem := 64, st := 1 })] rfl (con1_run k ns 84 [.ro [.fn (.func g) [] cap]] (fun a => !p a) (by simpa [-data_sl] using hcap) ln (fun a ha => not1_run a g cap (p a) hcap (hp a ha))) (.data (by simp [-data_sl]) (.fnp g0 (by show (0 : Nat) ≠ 2; decide) (by simp [keys]) (fun c hc => by have hc' := List.mem_singleton.1 hc; subst hc'; exact .fn _ _ _ (by simp) hcap) .nil)) (by intro q hq; rw [List.mem_singleton] at hq; subst hq; exact ⟨_, g0, by show (0 : Nat) ≠ 2; decide, rfl⟩)) rfl <| WO.U (oNot rfl) rfl <| Ua rfl rfl <| Wn <| WC.ret <| post (n := 0) (.inr rfl) rfl ?_ (by first | (simp [-data_sl]; done) | simp)
 exact congrArg (fun z => LV.v (.bool z)) (any_not p ns)
theorem idx2_run (k : Nat) (ns : List M1) (g : FuncId) (cap : List LV) (p : M1 → Bool) (hcap : ∀ c, c ∈ cap → Go.Ab.Data c) (ln : ns.length < 4611686018427387904) (hp : ∀ a, a ∈ ns → Run Try.prog T E0 (.call g ([.sl a.1 (a.2.map mc)] ++ cap) (.v (.bool (p a))))) : Run Try.prog T E0 (.call 87 [.sl k (ns.map fM), .fn (.func g) [] cap] (.v (.int .i64 (fidx p ns)))) := by
 refine mkcall Try.func87 rfl rfl (Nat.le_of_ble_eq_true rfl) <| Rg 1 rfl <| Ua rfl rfl <| Wn <| WC.assoc <| Rg 3 rfl <| Um rfl rfl <| WO.U (oLenM rfl rfl) rfl <| Um rfl rfl <| Wn <| WC.block <| WC.loopV (α := Nat) (fun i => [(0, .sl k (ns.map fM)), (1, .fn (.func g) [] cap), (7, .v (.int .i64 (ns.length : Int))), (8, .v (.int .i64 (i : Int)))]) (fun i => []) (fun i n => i ≤ ns.length ∧ (ns.take i).any p = false) (fun i => ns.length - i) (0) ⟨rfl, rfl, rfl, rfl, trivial⟩ trivial ⟨Nat.zero_le _, by simp⟩ ?_
 rintro i n hF
 change WC _ _ _ _ _ [(0, .sl k (ns.map fM)), (1, .fn (.func g) [] cap), (7, .v (.int .i64 (ns.length : Int))), (8, .v (.int .i64 (i : Int)))] ([]) n _
 obtain ⟨hi, ha⟩ := hF
 refine Rg 1 rfl <| WO.U (oLss rfl rfl) rfl <| WO.D (fun h9 => ?_) (fun h9 => ?_)
 rotate_left
 ·refine Wn <| WC.cF rfl <| WC.exits <| loopR_exit <| after_exit rfl <| Rg 1 rfl <| Ua rfl rfl <| Wn <| WC.ret <| post (n := 0) (.inr rfl) rfl ?_ (by first | (simp [-data_sl]; done) | simp)
  exact congrArg (fun z => LV.v (.int .i64 z)) (fidx_none ha (by omega)).symm
 refine Wn <| WC.cT rfl <| WC.skips <| WC.block <| Rg 2 rfl <| Um rfl rfl <| Ua rfl rfl <| Wn <| Rg 6 rfl <| Um rfl rfl <| Um rfl rfl <| Um rfl rfl <| WO.U (oIxM rfl rfl rfl rfl rfl (by omega) rfl) rfl <| WO.U (oLd rfl rfl rfl) rfl <| WO.U (oCallV rfl rfl (hp _ (getD_mem (by omega))) (allData_of (by simpa [-data_sl] using hcap))) rfl <| WO.B (fun h16 => ?_) (fun h16 => ?_)
 rotate_left
 ·refine Wn <| WC.cF1 rfl <| WC.skip <| after_normal <| WC.reg1z (z := 2) rfl <| WO.U (cI (((i + 1 : Nat) : Int)) (oAdd64 rfl rfl (by omega)) (by omega)) rfl <| Um rfl rfl <| Wn <| loopR_normal <| ⟨i + 1, ⟨rfl, rfl, rfl, rfl, trivial⟩, trivial, ⟨by omega, take_any ha (by omega) h16⟩, by show ns.length - (i + 1) < ns.length - i; omega⟩
 refine Wn <| WC.cT1 rfl <| Rg 2 rfl <| Um rfl rfl <| Ua rfl rfl <| Nw [(4, _)] ⟨rfl, trivial⟩ <| WC.ret <| after_ret <| loopR_ret <| after_ret <| post (n := 0) (.inr rfl) rfl ?_ (by first | (simp [-data_sl]; done) | simp)
 exact congrArg (fun z => LV.v (.int .i64 z)) (fidx_hit ha (by omega) h16).symm
theorem con2_run (k : Nat) (ns : List M1) (g : FuncId) (cap : List LV) (p : M1 → Bool) (hcap : ∀ c, c ∈ cap → Go.Ab.Data c) (ln : ns.length < 4611686018427387904) (hp : ∀ a, a ∈ ns → Run Try.prog T E0 (.call g ([.sl a.1 (a.2.map mc)] ++ cap) (.v (.bool (p a))))) : Run Try.prog T E0 (.call 71 [.sl k (ns.map fM), .fn (.func g) [] cap] (.v (.bool (ns.any p)))) := by
 refine mkcall Try.func71 rfl rfl (Nat.le_of_ble_eq_true rfl) <| Rg 1 rfl <| Ua rfl rfl <| Wn <| Rg 5 rfl <| Um rfl rfl <| Um rfl rfl <| WO.U (oCall rfl (idx2_run k ns g cap p hcap ln hp) (by simpa [-data_sl] using hcap)) rfl <| WO.U (oGeq rfl rfl) rfl <| Ua rfl rfl <| Wn <| WC.ret <| post (n := 0) (.inr rfl) rfl ?_ (by first | (simp [-data_sl]; done) | simp)
 exact congrArg (fun z => LV.v (.bool z)) (fidx_nonneg p ns)
theorem not2_run (a : M1) (g : FuncId) (cap : List LV) (b : Bool) (hcap : ∀ c, c ∈ cap → Go.Ab.Data c) (hg : Run Try.prog T E0 (.call g ([.sl a.1 (a.2.map mc)] ++ cap) (.v (.bool b)))) : Run Try.prog T E0 (.call 72 [.sl a.1 (a.2.map mc), .ro [.fn (.func g) [] cap]] (.v (.bool (!b)))) := by
 refine mkcall Try.func72 rfl rfl (Nat.le_of_ble_eq_true rfl) <| Rg 1 rfl <| Ua rfl rfl <| Wn <| Rg 5 rfl <| WO.U (oLd (cs := [.fn (.func g) [] cap]) (l := .fn (.func g) [] cap) rfl rfl rfl) rfl <| Um rfl rfl <| WO.U (oCallV rfl rfl hg (allData_of (by simpa [-data_sl] using hcap))) rfl <| WO.U (oNot rfl) rfl <| Ua rfl rfl <| Wn <| WC.ret ?_
 exact post (n := 0) (.inr rfl) rfl rfl (by simp)
theorem all2_run (k : Nat) (ns : List M1) (g : FuncId) (cap : List LV) (p : M1 → Bool) (hcap : ∀ c, c ∈ cap → Go.Ab.Data c) (ln : ns.length < 4611686018427387904) (hp : ∀ a, a ∈ ns → Run Try.prog T E0 (.call g ([.sl a.1 (a.2.map mc)] ++ cap) (.v (.bool (p a))))) : Run Try.prog T E0 (.call 45 [.sl k (ns.map fM), .fn (.func g) [] cap] (.v (.bool (ns.all p)))) := by
 refine mkcall Try.func45 rfl rfl (Nat.le_of_ble_eq_true rfl) <| Rg 2 rfl <| WO.S (oBx rfl rfl) rfl <| Ua rfl rfl <| Wn <| Rg 5 rfl <| Um rfl rfl <| WO.U (oMf rfl) rfl <| WO.S (oCallF [.sl k (ns.map fM), .fn (.func 72) [] [.ro [.fn (.func g) [] cap]]] [(0, { cells := [.fn (.func g) [] cap], sz := 1, elem := 78, st := 1 })] rfl (con2_run k ns 72 [.ro [.fn (.func g) [] cap]] (fun a => !p a) (by simpa [-data_sl] using hcap) ln (fun a ha => not2_run a g cap (p a) hcap (hp a ha))) (.data (by simp [-data_sl]) (.fnp g0 (by show (0 : Nat) ≠ 2; decide) (by simp [keys]) (fun c hc => by have hc' := List.mem_singleton.1 hc; subst hc'; exact .fn _ _ _ (by simp) hcap) .nil)) (by intro q hq; rw [List.mem_singleton] at hq; subst hq; exact ⟨_, g0, by show (0 : Nat) ≠ 2; decide, rfl⟩)) rfl <| WO.U (oNot rfl) rfl <| Ua rfl rfl <| Wn <| WC.ret <| post (n := 0) (.inr rfl) rfl ?_ (by first | (simp [-data_sl]; done) | simp)
 exact congrArg (fun z => LV.v (.bool z)) (any_not p ns)
theorem vv_run (k : Nat) (ns : List NM) (hI : IV ns) (ln : ns.length < 4611686018427387904) : Run Try.prog T E0 (.call 37 [.sl k (ns.map mc)] (.v (.bool (VV ns)))) := by
 refine mkcall Try.func37 rfl rfl (Nat.le_of_ble_eq_true rfl) <| Rg 1 rfl <| Ua rfl rfl <| Wn <| Rg 8 rfl <| Um rfl rfl <| WO.U (oLenM rfl rfl) rfl <| WO.U (oLeq rfl rfl) rfl <| WO.D (fun h5 => ?_) (fun h5 => ?_)
 ·refine Um rfl rfl <| WO.Ug rfl (oMv rfl) rfl <| WO.Ug rfl (oCall rfl (all1_run k ns 65 [] vn (by simp) ln (fun a ha => nvalid_run a (hI a ha).1 (hI a ha).2)) (by first | (simp [-data_sl]; done) | simp)) rfl <| WO.U (oPkT rfl rfl) rfl <| Ua rfl rfl <| Wn <| WC.ret <| post (n := 0) (.inr rfl) rfl ?_ (by first | (simp [-data_sl]; done) | simp)
  exact congrArg (fun z => LV.v (.bool z)) (show ns.all vn = VV ns by unfold VV; rw [decide_eq_true (by omega), Bool.true_and])
 refine Um rfl rfl <| WO.K rfl rfl <| WO.K rfl rfl <| WO.U (oPkF rfl rfl) rfl <| Ua rfl rfl <| Wn <| WC.ret <| post (n := 0) (.inr rfl) rfl ?_ (by first | (simp [-data_sl]; done) | simp)
 exact congrArg (fun z => LV.v (.bool z)) (show false = VV ns by unfold VV; rw [decide_eq_false (by omega), Bool.false_and])
theorem vrow_run (r : M1) (k : Nat) (a : List M1) (hI : IV r.2) (hne : 0 < a.length) (ln : r.2.length < 4611686018427387904) : Run Try.prog T E0 (.call 46 [.sl r.1 (r.2.map mc), .ro [.sl k (a.map fM)]] (.v (.bool (VMr a r)))) := by
 refine mkcall Try.func46 rfl rfl (Nat.le_of_ble_eq_true rfl) <| Rg 1 rfl <| Ua rfl rfl <| Wn <| Rg 12 rfl <| Um rfl rfl <| WO.U (oLenM rfl rfl) rfl <| WO.U (oLd (cs := [.sl k (a.map fM)]) rfl rfl rfl) rfl <| WO.U (oIxM (j := 0) rfl rfl rfl rfl (by omega) (by omega) rfl) rfl <| WO.U (oLd rfl rfl rfl) rfl <| WO.U (oLenM rfl rfl) rfl <| WO.U (oEql rfl rfl) rfl <| WO.D (fun h10 => ?_) (fun h10 => ?_)
 ·refine Um rfl rfl <| WO.Ug rfl (oMv rfl) rfl <| WO.Ug rfl (oCall rfl (vv_run r.1 r.2 hI ln) (by first | (simp [-data_sl]; done) | simp)) rfl <| WO.U (oPkT rfl rfl) rfl <| Ua rfl rfl <| Wn <| WC.ret <| post (n := 0) (.inr rfl) rfl ?_ (by first | (simp [-data_sl]; done) | simp)
  exact congrArg (fun z => LV.v (.bool z)) (show VV r.2 = VMr a r by unfold VMr; rw [decide_eq_true (by omega), Bool.true_and])
 refine Um rfl rfl <| WO.K rfl rfl <| WO.K rfl rfl <| WO.U (oPkF rfl rfl) rfl <| Ua rfl rfl <| Wn <| WC.ret <| post (n := 0) (.inr rfl) rfl ?_ (by first | (simp [-data_sl]; done) | simp)
 exact congrArg (fun z => LV.v (.bool z)) (show false = VMr a r by unfold VMr; rw [decide_eq_false (by omega), Bool.false_and])
theorem mvalid_run (k : Nat) (a : List M1) (hI : IM a) (ln : a.length < 4611686018427387904) (lr : ∀ r, r ∈ a → r.2.length < 4611686018427387904) : Run Try.prog T E0 (.call 23 [.sl k (a.map fM)] (.v (.bool (VM a)))) := by
 refine mkcall Try.func23 rfl rfl (Nat.le_of_ble_eq_true rfl) <| Rg 2 rfl <| WO.S (oBx rfl rfl) rfl <| Ua rfl rfl <| Wn <| Rg 9 rfl <| WO.U (oLdP rfl rfl rfl rfl rfl) rfl <| WO.U (oLenM rfl rfl) rfl <| WO.U (oLeq rfl rfl) rfl <| WO.D (fun h5 => ?_) (fun h5 => ?_)
 ·refine Um rfl rfl <| WO.Ug rfl (oLdP rfl rfl rfl rfl rfl) rfl <| WO.Ug rfl (oMf rfl) rfl <| WO.Sg rfl (oCallF [.sl k (a.map fM), .fn (.func 46) [] [.ro [.sl k (a.map fM)]]] [(0, { cells := [.sl k (a.map fM)], sz := 1, elem := 23, st := 1 })] rfl (all2_run k a 46 [.ro [.sl k (a.map fM)]] (VMr a) (by simp [-data_sl]) ln (fun r hr => vrow_run r k a (hI r hr) (List.length_pos_of_mem hr) (lr r hr))) (.data (by simp [-data_sl]) (.fnp g0 (by show (0 : Nat) ≠ 2; decide) (by simp [keys]) (fun c hc => by have hc' := List.mem_singleton.1 hc; subst hc'; exact dsl dfM _ _) .nil)) (by intro q hq; rw [List.mem_singleton] at hq; subst hq; exact ⟨_, g0, by show (0 : Nat) ≠ 2; decide, rfl⟩)) rfl <| WO.U (oPkT rfl rfl) rfl <| Ua rfl rfl <| Wn <| WC.ret <| post (n := 0) (.inr rfl) rfl ?_ (by first | (simp [-data_sl]; done) | simp)
  exact congrArg (fun z => LV.v (.bool z)) (show a.all (VMr a) = VM a by unfold VM; rw [decide_eq_true (by omega), Bool.true_and])
 refine Um rfl rfl <| WO.K rfl rfl <| WO.K rfl rfl <| WO.K rfl rfl <| WO.U (oPkF rfl rfl) rfl <| Ua rfl rfl <| Wn <| WC.ret <| post (n := 0) (.inr rfl) rfl ?_ (by first | (simp [-data_sl]; done) | simp)
 exact congrArg (fun z => LV.v (.bool z)) (show false = VM a by unfold VM; rw [decide_eq_false (by omega), Bool.false_and])
theorem mwidth_run (k : Nat) (a : List M1) : Run Try.prog T E0 (.call 27 [.sl k (a.map fM)] (.v (.int .i64 ((wd a : Nat) : Int)))) := by
 refine mkcall Try.func27 rfl rfl (Nat.le_of_ble_eq_true rfl) <| Rg 1 rfl <| Ua rfl rfl <| Wn <| WC.assoc <| Rg 3 rfl <| Um rfl rfl <| WO.U (oLenM rfl rfl) rfl <| WO.U (oEql rfl rfl) rfl <| WO.D (fun h5 => ?_) (fun h5 => ?_)
 ·refine Wn <| WC.cT rfl <| WC.assoc <| Rg 1 rfl <| Ua rfl rfl <| Wn <| WC.rets <| post (n := 0) (.inr rfl) rfl ?_ (by first | (simp [-data_sl]; done) | simp)
  exact congrArg (fun z => LV.v (.int .i64 ((z : Nat) : Int))) (show 0 = wd a by unfold wd; rw [if_pos (by omega)])
 refine Wn <| WC.cF rfl <| WC.skips <| Rg 5 rfl <| Um rfl rfl <| WO.U (oIxM (j := 0) rfl rfl rfl rfl (by omega) (by omega) rfl) rfl <| WO.U (oLd rfl rfl rfl) rfl <| WO.U (oLenM rfl rfl) rfl <| Ua rfl rfl <| Wn <| WC.ret <| post (n := 0) (.inr rfl) rfl ?_ (by first | (simp [-data_sl]; done) | simp)
 exact congrArg (fun z => LV.v (.int .i64 ((z : Nat) : Int))) (show (a.getD 0 default).2.length = wd a by unfold wd; rw [if_neg (by omega)])
theorem nrats_run (k : Nat) (ns : List NM) (ln : ns.length < 1099511627776) (hI : IV ns) (h0 : ∀ a, a ∈ ns → a.2 ≠ 0) : Run Try.prog T E0 (.call 39 [.sl k (ns.map mc)] (.sl (kd (ns.map nx).length) ((ns.map nx).map xc))) := by
 refine mkcall Try.func39 rfl rfl (Nat.le_of_ble_eq_true rfl) <| Rg 1 rfl <| Ua rfl rfl <| Wn <| Rg 1 rfl <| Ua rfl rfl <| Wn <| WC.assoc <| Rg 3 rfl <| Um rfl rfl <| WO.U (oLenM rfl rfl) rfl <| Um rfl rfl <| Wn <| WC.block <| WC.loopV (α := Nat × Nat × (List X)) (fun ⟨i, q, ds⟩ => [(3, outV q 4 (ds.map xc)), (6, .sl k (ns.map mc)), (7, .v (.int .i64 (ns.length : Int))), (8, .v (.int .i64 (i : Int)))]) (fun ⟨i, q, ds⟩ => outH q 4 58 (ds.map xc) []) (fun ⟨i, q, ds⟩ n => i ≤ ns.length ∧ ds = (ns.take i).map nx ∧ ds.length = i ∧ q < n) (fun ⟨i, q, ds⟩ => ns.length - i) (0, 0, []) ⟨rfl, rfl, rfl, rfl, trivial⟩ trivial ⟨Nat.zero_le _, by simp, rfl, by omega⟩ ?_
 rintro ⟨i, q, ds⟩ n hF
 change WC _ _ _ _ _ [(3, outV q 4 (ds.map xc)), (6, .sl k (ns.map mc)), (7, .v (.int .i64 (ns.length : Int))), (8, .v (.int .i64 (i : Int)))] (outH q 4 58 (ds.map xc) []) n _
 obtain ⟨hi, hds, hdl, hq⟩ := hF
 refine Rg 1 rfl <| WO.U (oLss rfl rfl) rfl <| WO.D (fun h9 => ?_) (fun h9 => ?_)
 rotate_left
 ·refine Wn <| WC.cF rfl <| WC.exits <| loopR_exit <| after_exit rfl <| Rg 2 rfl <| Um rfl rfl <| Ua rfl rfl <| Wn <| WC.ret ?_
  rw [List.take_of_length_le (by omega)] at hds
  rw [← hds, ← outR_kd]
  exact postOut (n := 0) (.inr rfl) rfl (by decide) (rows_of (n := 4) (fun _ => rfl)) (data_of dxc)
 refine Wn <| WC.cT rfl <| WC.skips <| WC.block <| Rg 4 rfl <| WO.U (oIxM rfl rfl rfl rfl rfl (by omega) rfl) rfl <| WO.U (oLd (l := .agg [_, _]) rfl rfl rfl) rfl <| WO.S (oAl rfl) rfl <| WO.S0 (oSt (cs' := [_, _]) rfl rfl rfl g0 rfl rfl rfl rfl) <| WO.nil ?_
 have hm := getD_mem (us := ns) (i := i) (by omega)
 refine WC.reg1z (z := 6) rfl <| Um rfl rfl <| WO.U (oLdP (l := .agg [_, _]) rfl rfl g0 rfl rfl) rfl <| WO.U (oCall rfl (nrat_run (ns.getD i default) (hI _ hm).1 (hI _ hm).2 (h0 _ hm)) (by first | (simp [-data_sl]; done) | simp)) rfl <| WO.U (oBs' (cs := [_, _, _, _]) (rows := [[_, _, _, _]]) rfl rfl (by decide) rfl rfl rfl) rfl <| WO.weakH (outH q 4 58 ((ds).map xc) []) (Hp.le_skip (outH_none (by omega) rfl) (Hp.le_skip (outH_none (by omega) rfl) (Hp.le_refl _))) <| WO.apM (te := ti58) (f := xc) (q := q) (us := ds) (u := (nx (ns.getD i default))) rfl rfl rfl rfl rfl (fun _ => rfl) (by decide) (by show (2 * (ds.length + 1) + 256) * 64 ≤ _; omega) (by omega) rfl rfl rfl <| Ua rfl rfl <| Wn <| after_normal <| WC.reg1z (z := 2) rfl <| WO.U (cI (((i + 1 : Nat) : Int)) (oAdd64 rfl rfl (by omega)) (by omega)) rfl <| Um rfl rfl <| Wn <| loopR_normal <| ⟨⟨i + 1, _, ds ++ [nx (ns.getD i default)]⟩, ⟨rfl, rfl, rfl, rfl, trivial⟩, subsM_out, ⟨by omega, by rw [take_map_succ (by omega), hds], by simp; omega, by omega⟩, by show ns.length - (i + 1) < ns.length - i; omega⟩
theorem mrats_run (k : Nat) (ns : List M1) (ln : ns.length < 1099511627776) (hI : IM ns) (h0 : ∀ r, r ∈ ns → ∀ a, a ∈ r.2 → a.2 ≠ 0) (lr : ∀ r, r ∈ ns → r.2.length < 1099511627776) : Run Try.prog T E0 (.call 26 [.sl k (ns.map fM)] (.sl (kd (ns.map nxr).length) ((ns.map nxr).map fX))) := by
 refine mkcall Try.func26 rfl rfl (Nat.le_of_ble_eq_true rfl) <| Rg 1 rfl <| Ua rfl rfl <| Wn <| Rg 1 rfl <| Ua rfl rfl <| Wn <| WC.assoc <| Rg 3 rfl <| Um rfl rfl <| WO.U (oLenM rfl rfl) rfl <| Um rfl rfl <| Wn <| WC.block <| WC.loopV (α := Nat × Nat × (List X1)) (fun ⟨i, q, ds⟩ => [(3, outV q 1 (ds.map fX)), (6, .sl k (ns.map fM)), (7, .v (.int .i64 (ns.length : Int))), (8, .v (.int .i64 (i : Int)))]) (fun ⟨i, q, ds⟩ => outH q 1 75 (ds.map fX) []) (fun ⟨i, q, ds⟩ n => i ≤ ns.length ∧ ds = (ns.take i).map nxr ∧ ds.length = i ∧ q < n) (fun ⟨i, q, ds⟩ => ns.length - i) (0, 0, []) ⟨rfl, rfl, rfl, rfl, trivial⟩ trivial ⟨Nat.zero_le _, by simp, rfl, by omega⟩ ?_
 rintro ⟨i, q, ds⟩ n hF
 change WC _ _ _ _ _ [(3, outV q 1 (ds.map fX)), (6, .sl k (ns.map fM)), (7, .v (.int .i64 (ns.length : Int))), (8, .v (.int .i64 (i : Int)))] (outH q 1 75 (ds.map fX) []) n _
 obtain ⟨hi, hds, hdl, hq⟩ := hF
 refine Rg 1 rfl <| WO.U (oLss rfl rfl) rfl <| WO.D (fun h9 => ?_) (fun h9 => ?_)
 rotate_left
 ·refine Wn <| WC.cF rfl <| WC.exits <| loopR_exit <| after_exit rfl <| Rg 2 rfl <| Um rfl rfl <| Ua rfl rfl <| Wn <| WC.ret ?_
  rw [List.take_of_length_le (by omega)] at hds
  rw [← hds, ← outR_kd]
  exact postOut (n := 0) (.inr rfl) rfl (by decide) (rows_of (n := 1) (fun _ => rfl)) (data_of dfX)
 refine Wn <| WC.cT rfl <| WC.skips <| WC.block <| Rg 3 rfl <| WO.U (oIxM rfl rfl rfl rfl rfl (by omega) rfl) rfl <| WO.U (oLd rfl rfl rfl) rfl <| Ua rfl rfl <| WO.nil ?_
 have hm := getD_mem (us := ns) (i := i) (by omega)
 refine WC.reg1z (z := 6) rfl <| Um rfl rfl <| Um rfl rfl <| WO.U (oCall rfl (nrats_run (ns.getD i default).1 (ns.getD i default).2 (lr _ hm) (hI _ hm) (h0 _ hm)) (by first | (simp [-data_sl]; done) | simp)) rfl <| WO.U (oBs' (cs := [_]) (rows := [[_]]) rfl rfl (by decide) rfl rfl rfl) rfl <| WO.apM (te := ti75) (f := fX) (q := q) (us := ds) (u := (nxr (ns.getD i default))) rfl rfl rfl rfl rfl (fun _ => rfl) (by decide) (by show (2 * (ds.length + 1) + 256) * 24 ≤ _; omega) (by omega) rfl rfl rfl <| Ua rfl rfl <| Wn <| after_normal <| WC.reg1z (z := 2) rfl <| WO.U (cI (((i + 1 : Nat) : Int)) (oAdd64 rfl rfl (by omega)) (by omega)) rfl <| Um rfl rfl <| Wn <| loopR_normal <| ⟨⟨i + 1, _, ds ++ [nxr (ns.getD i default)]⟩, ⟨rfl, rfl, rfl, rfl, trivial⟩, subsM_out, ⟨by omega, by rw [take_map_succ (by omega), hds], by simp; omega, by omega⟩, by show ns.length - (i + 1) < ns.length - i; omega⟩
theorem nouts_run (k : Nat) (ns : List X) (ln : ns.length < 1099511627776)  : Run Try.prog T E0 (.call 40 [.sl k (ns.map xc)] (lvOV (ns.mapM (fun x => outN x.1)))) := by
 refine mkcall Try.func40 rfl rfl (Nat.le_of_ble_eq_true rfl) <| Rg 2 rfl <| Ua rfl rfl <| Ua rfl rfl <| Wn <| Rg 1 rfl <| Ua rfl rfl <| Wn <| WC.assoc <| Rg 3 rfl <| Um rfl rfl <| WO.U (oLenM rfl rfl) rfl <| Um rfl rfl <| Wn <| WC.block <| WC.loopV (α := Nat × Nat × (List NM)) (fun ⟨i, q, ds⟩ => [(4, outV q 2 (ds.map mc)), (9, .sl k (ns.map xc)), (10, .v (.int .i64 (ns.length : Int))), (11, .v (.int .i64 (i : Int)))]) (fun ⟨i, q, ds⟩ => outH q 2 26 (ds.map mc) []) (fun ⟨i, q, ds⟩ n => i ≤ ns.length ∧ (ns.take i).mapM (fun x => outN x.1) = some ds ∧ ds.length = i ∧ q < n) (fun ⟨i, q, ds⟩ => ns.length - i) (0, 0, []) ⟨rfl, rfl, rfl, rfl, trivial⟩ trivial ⟨Nat.zero_le _, by simp, rfl, by omega⟩ ?_
 rintro ⟨i, q, ds⟩ n hF
 change WC _ _ _ _ _ [(4, outV q 2 (ds.map mc)), (9, .sl k (ns.map xc)), (10, .v (.int .i64 (ns.length : Int))), (11, .v (.int .i64 (i : Int)))] (outH q 2 26 (ds.map mc) []) n _
 obtain ⟨hi, hds, hdl, hq⟩ := hF
 refine Rg 1 rfl <| WO.U (oLss rfl rfl) rfl <| WO.D (fun h12 => ?_) (fun h12 => ?_)
 rotate_left
 ·refine Wn <| WC.cF rfl <| WC.exits <| loopR_exit <| after_exit rfl <| Rg 3 rfl <| Um rfl rfl <| Ua rfl rfl <| Ua rfl rfl <| Wn <| WC.ret ?_
  rw [List.take_of_length_le (by omega)] at hds
  rw [hds]
  exact postOutT (n := 0) (.inr rfl) rfl (by decide) (rows_of (n := 2) (fun _ => rfl)) (data_of dmc) (by simp [lvOV, outR_kd])
 refine Wn <| WC.cT rfl <| WC.skips <| WC.block <| Rg 4 rfl <| WO.U (oIxM rfl rfl rfl rfl rfl (by omega) rfl) rfl <| WO.U (oLd (l := .agg [_, _, _, _]) rfl rfl rfl) rfl <| WO.S (oAl rfl) rfl <| WO.S0 (oSt (cs' := [_, _, _, _]) rfl rfl rfl g0 rfl rfl rfl rfl) <| Wn <| Rg 8 rfl <| WO.U (oLdP (l := .agg [_, _, _, _]) rfl rfl g0 rfl rfl) rfl <| WO.U (OP.cast (b := .tup [lvM ((outN (ns.getD i default).1).getD (0, 0)), .v (.int .i64 (if (outN (ns.getD i default).1).isSome = true then 0 else 3))]) (oCall rfl (nout_run (ns.getD i default)) (by first | (simp [-data_sl]; done) | simp)) (by rw [lvO_eq])) rfl <| Um rfl rfl <| WO.U (oEx rfl rfl) rfl <| WO.U (oEx rfl rfl) rfl <| WO.S (oAl rfl) rfl <| WO.S0 (oSt (cs' := [_, _]) rfl rfl rfl g0 rfl rfl rfl rfl) <| Ua rfl rfl <| Nw [(4, _), (7, _), (8, _), (9, _), (10, _), (11, _)] ⟨rfl, rfl, rfl, rfl, rfl, rfl, trivial⟩ <| WC.assoc <| Rg 2 rfl <| Um rfl rfl ?_
 refine WO.U (oNeq rfl rfl) rfl <| WO.D (fun h21 => ?_) (fun h21 => ?_)
 ·refine Wn <| WC.cT rfl <| WC.assoc ?_
  have hno2 : outN (ns.getD i default).1 = none := by
   cases ho : outN (ns.getD i default).1 with
   | none => rfl
   | some _ => rw [ho] at h21; exact absurd rfl h21
  have hno : ns.mapM (fun x => outN x.1) = none := mapM_no (i := i) (by omega) hno2
  refine Rg 3 rfl <| Um rfl rfl <| Ua rfl rfl <| Ua rfl rfl <| Wn <| WC.rets <| after_ret <| loopR_ret <| after_ret <| post (n := 0) (.inr rfl) rfl ?_ (by first | (simp [-data_sl]; done) | simp)
  first | (rw [hno]; rfl) | (rw [hno, hno2]; rfl)
 refine Wn <| WC.cF rfl <| WC.skips ?_
 obtain ⟨o, ho⟩ : ∃ o, outN (ns.getD i default).1 = some o := by
  cases ho : outN (ns.getD i default).1 with
  | none => rw [ho] at h21; exact absurd (by decide) h21
  | some o => exact ⟨o, rfl⟩
 refine WC.reg1z (z := 5) rfl <| Um rfl rfl <| WO.U (OP.cast (b := lvM o) (oLdP (l := .agg [_, _]) rfl rfl g0 rfl rfl) (by simp only [ho, Option.getD_some]; rfl)) rfl <| WO.U (oBs' (cs := [_, _]) (rows := [[_, _]]) rfl rfl (by decide) rfl rfl rfl) rfl <| WO.weakH (outH q 2 26 ((ds).map mc) []) (Hp.le_skip (outH_none (by omega) rfl) (Hp.le_skip (outH_none (by omega) rfl) (Hp.le_skip (outH_none (by omega) rfl) (Hp.le_skip (outH_none (by omega) rfl) (Hp.le_refl _))))) <| WO.apM (te := ti26) (f := mc) (q := q) (us := ds) (u := o) rfl rfl rfl rfl rfl (fun _ => rfl) (by decide) (by show (2 * (ds.length + 1) + 256) * 16 ≤ _; omega) (by omega) rfl rfl rfl <| Ua rfl rfl <| Wn <| after_normal <| WC.reg1z (z := 2) rfl <| WO.U (cI (((i + 1 : Nat) : Int)) (oAdd64 rfl rfl (by omega)) (by omega)) rfl <| Um rfl rfl <| Wn <| loopR_normal <| ⟨⟨i + 1, _, ds ++ [o]⟩, ⟨rfl, rfl, rfl, rfl, trivial⟩, subsM_out, ⟨by omega, mapM_take hds (by omega) ho, by simp; omega, by omega⟩, by show ns.length - (i + 1) < ns.length - i; omega⟩
theorem mouts_run (k : Nat) (ns : List X1) (ln : ns.length < 1099511627776) (lr : ∀ r, r ∈ ns → r.2.length < 1099511627776) : Run Try.prog T E0 (.call 36 [.sl k (ns.map fX)] (lvOM (ns.mapM (fun r => r.2.mapM fun x => outN x.1)))) := by
 refine mkcall Try.func36 rfl rfl (Nat.le_of_ble_eq_true rfl) <| Rg 2 rfl <| Ua rfl rfl <| Ua rfl rfl <| Wn <| Rg 1 rfl <| Ua rfl rfl <| Wn <| WC.assoc <| Rg 3 rfl <| Um rfl rfl <| WO.U (oLenM rfl rfl) rfl <| Um rfl rfl <| Wn <| WC.block <| WC.loopV (α := Nat × Nat × (List M1) × (List (List NM))) (fun ⟨i, q, ds, es⟩ => [(4, outV q 1 (ds.map fM)), (9, .sl k (ns.map fX)), (10, .v (.int .i64 (ns.length : Int))), (11, .v (.int .i64 (i : Int)))]) (fun ⟨i, q, ds, es⟩ => outH q 1 24 (ds.map fM) []) (fun ⟨i, q, ds, es⟩ n => i ≤ ns.length ∧ (ns.take i).mapM (fun r => r.2.mapM fun x => outN x.1) = some es ∧ ds.length = i ∧ q < n ∧ ds = es.map kM) (fun ⟨i, q, ds, es⟩ => ns.length - i) (0, 0, [], []) ⟨rfl, rfl, rfl, rfl, trivial⟩ trivial ⟨Nat.zero_le _, by simp, rfl, by omega, rfl⟩ ?_
 rintro ⟨i, q, ds, es⟩ n hF
 change WC _ _ _ _ _ [(4, outV q 1 (ds.map fM)), (9, .sl k (ns.map fX)), (10, .v (.int .i64 (ns.length : Int))), (11, .v (.int .i64 (i : Int)))] (outH q 1 24 (ds.map fM) []) n _
 obtain ⟨hi, hds, hdl, hq, hek⟩ := hF
 refine Rg 1 rfl <| WO.U (oLss rfl rfl) rfl <| WO.D (fun h12 => ?_) (fun h12 => ?_)
 rotate_left
 ·refine Wn <| WC.cF rfl <| WC.exits <| loopR_exit <| after_exit rfl <| Rg 3 rfl <| Um rfl rfl <| Ua rfl rfl <| Ua rfl rfl <| Wn <| WC.ret ?_
  rw [List.take_of_length_le (by omega)] at hds
  rw [hds]
  exact postOutT (n := 0) (.inr rfl) rfl (by decide) (rows_of (n := 1) (fun _ => rfl)) (data_of dfM) (by subst hek; simp [lvOM, outR_kd])
 refine Wn <| WC.cT rfl <| WC.skips <| WC.block <| Rg 3 rfl <| WO.U (oIxM rfl rfl rfl rfl rfl (by omega) rfl) rfl <| WO.U (oLd rfl rfl rfl) rfl <| Ua rfl rfl <| WO.nil ?_
 have hm := getD_mem (us := ns) (i := i) (by omega)
 refine Rg 7 rfl <| Um rfl rfl <| WO.U (oCall rfl (nouts_run (ns.getD i default).1 (ns.getD i default).2 (lr _ hm)) (by first | (simp [-data_sl]; done) | simp)) rfl <| Um rfl rfl <| WO.U (oEx rfl rfl) rfl <| WO.U (oEx rfl rfl) rfl <| Ua rfl rfl <| Ua rfl rfl <| Nw [(4, _), (7, _), (8, _), (9, _), (10, _), (11, _)] ⟨rfl, rfl, rfl, rfl, rfl, rfl, trivial⟩ <| WC.assoc <| Rg 2 rfl <| Um rfl rfl <| WO.U (oNeq rfl rfl) rfl <| WO.D (fun h21 => ?_) (fun h21 => ?_)
 ·refine Wn <| WC.cT rfl <| WC.assoc ?_
  have hno2 : ((ns.getD i default).2.mapM fun x => outN x.1) = none := by
   cases ho : ((ns.getD i default).2.mapM fun x => outN x.1) with
   | none => rfl
   | some _ => rw [ho] at h21; exact absurd rfl h21
  have hno : ns.mapM (fun r => r.2.mapM fun x => outN x.1) = none := mapM_no (i := i) (by omega) hno2
  refine Rg 3 rfl <| Um rfl rfl <| Ua rfl rfl <| Ua rfl rfl <| Wn <| WC.rets <| after_ret <| loopR_ret <| after_ret <| post (n := 0) (.inr rfl) rfl ?_ (by first | (simp [-data_sl]; done) | simp)
  first | (rw [hno]; rfl) | (rw [hno, hno2]; rfl)
 refine Wn <| WC.cF rfl <| WC.skips ?_
 obtain ⟨o, ho⟩ : ∃ o, ((ns.getD i default).2.mapM fun x => outN x.1) = some o := by
  cases ho : ((ns.getD i default).2.mapM fun x => outN x.1) with
  | none => rw [ho] at h21; exact absurd (by decide) h21
  | some o => exact ⟨o, rfl⟩
 refine WC.reg1z (z := 5) rfl <| Um rfl rfl <| WO.U (OP.cast (b := .sl (kd o.length) (o.map mc)) (oMv rfl) (by simp only [ho, Option.getD_some])) rfl <| WO.U (oBs' (cs := [_]) (rows := [[_]]) rfl rfl (by decide) rfl rfl rfl) rfl <| WO.apM (te := ti24) (f := fM) (q := q) (us := ds) (u := (kM o)) rfl rfl rfl rfl rfl (fun _ => rfl) (by decide) (by show (2 * (ds.length + 1) + 256) * 24 ≤ _; omega) (by omega) rfl rfl rfl <| Ua rfl rfl <| Wn <| after_normal <| WC.reg1z (z := 2) rfl <| WO.U (cI (((i + 1 : Nat) : Int)) (oAdd64 rfl rfl (by omega)) (by omega)) rfl <| Um rfl rfl <| Wn <| loopR_normal <| ⟨⟨i + 1, _, ds ++ [kM o], es ++ [o]⟩, ⟨rfl, rfl, rfl, rfl, trivial⟩, subsM_out, ⟨by omega, mapM_take hds (by omega) ho, by simp; omega, by omega, by rw [hek, List.map_append]; rfl⟩, by show ns.length - (i + 1) < ns.length - i; omega⟩
end Go.Proofs.Ytcmieifjephdcaa
set_option linter.unusedVariables false
set_option linter.unusedSimpArgs false
set_option maxRecDepth 100000
set_option maxHeartbeats 8000000
namespace Go.Proofs.Ytcmieifjephdcaa
open Go.Ab Go.RowKit
theorem madded_run (ka kb : Nat) (al bl : List X) (c : X) (ln : al.length < 1099511627776) (hl : al.length ≤ bl.length) (ha : ∀ x, x ∈ al → Bd 34359738368 x.1) (hb : ∀ x, x ∈ bl → Bd 34359738368 x.1) (hc : Bd 34359738368 c.1) : ∃ r, Run Try.prog T E0 (.call 54 [.sl ka (al.map xc), lvX c, .sl kb (bl.map xc)] r) ∧ ∃ ds : List X, r = .sl 1 (ds.map xc) ∧ ds.map (·.1) = rad (al.map (·.1)) (rsc c.1 (bl.map (·.1))) := by
 refine mkcallE Try.func54 rfl rfl (Nat.le_of_ble_eq_true rfl) <| Rg 2 rfl <| WO.S (oBx rfl rfl) rfl <| Ua rfl rfl <| Wn <| Rg 4 rfl <| Um rfl rfl <| WO.U (oLenM rfl rfl) rfl <| WO.S (oMk (a := al.length) (b := al.length) rfl rfl rfl rfl (by omega) (by omega) (by decide) (by omega) (by show 64 * al.length ≤ _; omega) (by omega)) rfl <| Ua rfl rfl <| Wn <| WC.assoc <| Rg 3 rfl <| Um rfl rfl <| WO.U (oLenM rfl rfl) rfl <| Um rfl rfl <| Wn <| WC.block <| WC.loopV (α := Nat × (List X)) (fun ⟨i, us⟩ => [(0, .sl ka (al.map xc)), (2, .sl kb (bl.map xc)), (4, .ptr (0 + 0) 0), (7, .ref (0 + 2 + 2) 4 0 us.length), (13, .v (.int .i64 (al.length : Int))), (14, .v (.int .i64 (i : Int)))]) (fun ⟨i, us⟩ => [(0 + 2 + 2, { cells := (us.map xc).flatten, sz := 4, elem := 58, st := 0 }), (0, { cells := xc c, sz := 4, elem := 58, st := 0 })]) (fun ⟨i, us⟩ n => i ≤ al.length ∧ us.length = al.length ∧ (∀ j, j < i → (us.getD j default).1 = (al.getD j default).1 + c.1 * (bl.getD j default).1)) (fun ⟨i, us⟩ => al.length - i) (0, List.replicate al.length x0) ⟨rfl, rfl, rfl, congrArg some (by rw [List.length_replicate]; rfl), rfl, rfl, trivial⟩ ⟨g0.trans (by rw [List.map_replicate]; rfl), g1 (by decide) g0, trivial⟩ ⟨Nat.zero_le _, by simp, by intro j hj; omega⟩ ?_
 rintro ⟨i, us⟩ n hF
 change WC _ _ _ _ _ [(0, .sl ka (al.map xc)), (2, .sl kb (bl.map xc)), (4, .ptr (0 + 0) 0), (7, .ref (0 + 2 + 2) 4 0 us.length), (13, .v (.int .i64 (al.length : Int))), (14, .v (.int .i64 (i : Int)))] ([(0 + 2 + 2, { cells := (us.map xc).flatten, sz := 4, elem := 58, st := 0 }), (0, { cells := xc c, sz := 4, elem := 58, st := 0 })]) n _
 obtain ⟨hi, hul, hus⟩ := hF
 refine Rg 1 rfl <| WO.U (oLss rfl rfl) rfl <| WO.D (fun h15 => ?_) (fun h15 => ?_)
 rotate_left
 ·refine Wn <| WC.cF rfl <| WC.exits <| loopR_exit <| after_exit rfl <| Rg 2 rfl <| Um rfl rfl <| Ua rfl rfl <| Wn <| WC.ret <| ⟨.sl 1 (us.map xc), ⟨us, rfl, ?_⟩, postRef (n := 0) _ (.inr rfl) rfl (by simp) g0 (by show (0 : Nat) ≠ 2; decide) rfl (by decide) rfl (rows_of (n := 4) (fun _ => rfl)) (data_of dxc)⟩
  refine list_eq (by rw [rad_len]; simp; omega) fun j hj => ?_
  simp only [List.length_map] at hj
  rw [gmap_getD rfl, rad_getD (by simp; omega), rsc_getD, gmap_getD rfl, gmap_getD rfl]
  exact hus j (by omega)
 refine Wn <| WC.cT rfl <| WC.skips <| WC.block <| Rg 2 rfl <| Um rfl rfl <| Ua rfl rfl <| WO.nil ?_
 have hma := getD_mem (us := al) (i := i) (by omega)
 have hmb := getD_mem (us := bl) (i := i) (by omega)
 refine Rg 8 rfl <| Um rfl rfl <| Um rfl rfl <| Um rfl rfl <| Um rfl rfl <| WO.U (oIxM rfl rfl rfl rfl rfl (by omega) rfl) rfl <| WO.U (oLd (l := .agg [_, _, _, _]) rfl rfl rfl) rfl <| WO.U (oIxR rfl rfl rfl rfl rfl (by omega) rfl) rfl <| WO.S0 (oStO (f := xc) (us := us) (al.getD i default) rfl rfl rfl g0 (fun _ => rfl) rfl rfl (by omega) rfl) <| Nw [(0, _), (2, _), (4, _), (7, _), (8, _), (13, _), (14, _)] ⟨rfl, rfl, rfl, rfl, rfl, rfl, rfl, trivial⟩ <| Rg 6 rfl <| Um rfl rfl <| Um rfl rfl <| WO.U (oIxM rfl rfl rfl rfl rfl (by omega) rfl) rfl <| WO.U (oLd (l := .agg [_, _, _, _]) rfl rfl rfl) rfl <| WO.U (oCall rfl (rsign_run (bl.getD i default)) (by first | (simp [-data_sl]; done) | simp)) rfl <| WO.U (oNeq rfl rfl) rfl <| WO.D (fun h29 => ?_) (fun h29 => ?_)
 rotate_left
 ·refine Wn <| WC.cF1 rfl <| WC.skip <| after_normal <| WC.reg1z (z := 2) rfl <| WO.U (cI (((i + 1 : Nat) : Int)) (oAdd64 rfl rfl (by omega)) (by omega)) rfl <| Um rfl rfl <| Wn <| loopR_normal <| ⟨⟨i + 1, us.set i (al.getD i default)⟩, ⟨rfl, rfl, rfl, congrArg some (by rw [List.length_set]), rfl, rfl, trivial⟩, ⟨g0, g1 (by decide) (g1 (by decide) g0), trivial⟩, ⟨by omega, by rw [List.length_set]; exact hul, ?_⟩, by show al.length - (i + 1) < al.length - i; omega⟩
  intro j hj
  rw [gset_getD (by omega)]
  by_cases e : i = j
  ·subst e; rw [if_pos rfl, num_sign.1 (show (bl.getD i default).1.num.sign = 0 by omega), Rat.mul_zero, Rat.add_zero]
  ·rw [if_neg e]; exact hus j (by omega)
 refine Wn <| WC.cT1 rfl <| WC.draw1z (z := 15) rfl (by kernel_rfl) <| Dm rfl rfl <| Dm rfl rfl <| Dm rfl rfl <| Dm rfl rfl <| WD.U (oIxM rfl rfl rfl rfl rfl (by omega) rfl) rfl <| WD.U (oLd (l := .agg [_, _, _, _]) rfl rfl rfl) rfl <| WD.U (oLdP (l := .agg [_, _, _, _]) rfl rfl (g1 (by decide) (g1 (by decide) g0)) rfl rfl) rfl <| Dm rfl rfl <| Dm rfl rfl <| WD.U (oIxM rfl rfl rfl rfl rfl (by omega) rfl) rfl <| WD.U (oLd (l := .agg [_, _, _, _]) rfl rfl rfl) rfl <| WD.U (oCall rfl (rmul_run c (bl.getD i default) (hc.mono (by omega)) ((hb _ hmb).mono (by omega))) (by first | (simp [-data_sl]; done) | simp)) rfl <| WD.U (oCall rfl (radd_run (al.getD i default) (xmul c (bl.getD i default)) ((ha _ hma).mono (by omega)) ((hc.mul (hb _ hmb)).mono (by omega))) (by first | (simp [-data_sl]; done) | simp)) rfl <| WD.U (oIxR rfl rfl rfl rfl rfl (by omega) rfl) rfl <| WD.S0 (oStO (f := xc) (us := us.set i (al.getD i default)) (xadd (al.getD i default) (xmul c (bl.getD i default))) rfl rfl rfl g0 (fun _ => rfl) rfl rfl (by rw [List.length_set]; omega) rfl) <| WD.nil (drawOk_of (by kernel_rfl)) rfl <| after_normal <| WC.weak [(0, _), (2, _), (4, _), (7, _), (13, _), (14, _)] ⟨rfl, rfl, rfl, rfl, rfl, rfl, trivial⟩ <| WC.reg1z (z := 2) rfl <| WO.U (cI (((i + 1 : Nat) : Int)) (oAdd64 rfl rfl (by omega)) (by omega)) rfl <| Um rfl rfl ?_
 refine Wn <| loopR_normal <| ⟨⟨i + 1, ((us.set i (al.getD i default)).set i (xadd (al.getD i default) (xmul c (bl.getD i default))))⟩, ⟨rfl, rfl, rfl, congrArg some (by rw [List.length_set, List.length_set]), rfl, rfl, trivial⟩, ⟨g0, g1 (by decide) (g1 (by decide) (g1 (by decide) g0)), trivial⟩, ⟨by omega, by rw [List.length_set, List.length_set]; exact hul, ?_⟩, by show al.length - (i + 1) < al.length - i; omega⟩
 intro j hj
 rw [set_set', gset_getD (by omega)]
 by_cases e : i = j
 ·subst e; rw [if_pos rfl]; rfl
 ·rw [if_neg e]; exact hus j (by omega)
theorem mscaled_run (ka : Nat) (al : List X) (c : X) (ln : al.length < 1099511627776) (ha : ∀ x, x ∈ al → Bd 34359738368 x.1) (hc : Bd 34359738368 c.1) : ∃ r, Run Try.prog T E0 (.call 52 [.sl ka (al.map xc), lvX c] r) ∧ ∃ ds : List X, r = .sl 1 (ds.map xc) ∧ ds.map (·.1) = rsc c.1 (al.map (·.1)) := by
 obtain ⟨r, hr, ds, rfl, hds⟩ := madded_run 1 ka (List.replicate al.length x0) al c (by simp; omega) (by simp) (by intro x hx; rw [(List.mem_replicate.1 hx).2]; exact Bd0 (by decide)) ha hc
 have hv : ds.map (·.1) = rsc c.1 (al.map (·.1)) := by
  rw [hds]
  refine list_eq (by rw [rad_len, rsc_len]; simp) fun j hj => ?_
  rw [rad_len] at hj
  rw [rad_getD hj]
  have : ((List.replicate al.length x0).map (·.1)).getD j default = 0 := by
   rw [gmap_getD rfl]
   simp only [List.getD_eq_getElem?_getD, List.getElem?_replicate]
   split <;> rfl
  rw [this, Rat.zero_add]
 refine mkcallE Try.func52 rfl rfl (Nat.le_of_ble_eq_true rfl) <| Rg 2 rfl <| WO.S (oBx rfl rfl) rfl <| Ua rfl rfl <| Wn <| WC.draw (z := 7) rfl (by kernel_rfl) <| Dm rfl rfl <| WD.U (oLenM rfl rfl) rfl <| WD.S (oMk (a := al.length) (b := al.length) rfl rfl rfl rfl (by omega) (by omega) (by decide) (by omega) (by show 64 * al.length ≤ _; omega) (by omega)) rfl <| WD.U (oLdP (l := .agg [_, _, _, _]) rfl rfl (g1 (by decide) g0) rfl rfl) rfl <| Dm rfl rfl <| WD.S (oCallF [.sl 1 ((List.replicate al.length x0).map xc), lvX c, .sl ka (al.map xc)] [(0 + 2 + 2, { cells := ((List.replicate al.length x0).map xc).flatten, sz := 4, elem := 58, st := 1 })] rfl hr (.own (ob := { cells := ((List.replicate al.length x0).map xc).flatten, sz := 4, elem := 58, st := 0 }) _ (by simp) (g0.trans (by rw [List.map_replicate]; rfl)) (by show (0 : Nat) ≠ 2; decide) rfl (by decide) (by simp [keys]) rfl (rows_of (n := 4) (fun _ => rfl)) (data_of dxc) (.data (by simp) (.data (by simp [-data_sl]) .nil))) (by intro p hp; rw [List.mem_singleton] at hp; subst hp; exact ⟨{ cells := ((List.replicate al.length x0).map xc).flatten, sz := 4, elem := 58, st := 0 }, g0.trans (by rw [List.map_replicate]; rfl), by show (0 : Nat) ≠ 2; decide, rfl⟩)) rfl <| WD.U (oAs rfl) rfl <| WD.nil (drawOk_of (by kernel_rfl)) rfl <| WC.ret ?_
 exact ⟨_, ⟨ds, rfl, hv⟩, post (n := 0) (.inr rfl) rfl rfl (by first | (simp [-data_sl]; done) | simp)⟩
theorem clone_own (rows : List X1) (hne : 0 < rows.length) (ln : rows.length < 1099511627776) : ∃ sz len ob, Run Try.prog T E0 (.callO 47 [.sl 1 (rows.map fX)] (.ref 0 sz 0 len) ob) ∧ sz = 1 ∧ len = rows.length ∧ ob = { cells := (rows.map fX).flatten, sz := 1, elem := 75, st := 0 } := by
 refine mkcallO Try.func47 rfl rfl (Nat.le_of_ble_eq_true rfl) <| Rg 1 rfl <| Ua rfl rfl <| Wn <| WC.assoc <| Rg 2 rfl <| Um rfl rfl <| WO.U (OP.cast (b := .v (.bool false)) (oNilE rfl rfl) rfl) rfl <| Wn <| WC.cF rfl <| WC.skips <| Rg 4 rfl <| WO.U (oBs' (cs := []) (rows := []) rfl rfl (by decide) rfl rfl rfl) rfl <| Um rfl rfl <| WO.S (oApS (xs := []) (rows := rows.map fX) rfl rfl rfl rfl rfl (by decide) (by simp) (rows_of (f := fX) (n := 1) (fun _ => rfl)) (by simpa using hne) (by rw [List.length_map]; show (2 * (0 + rows.length) + 256) * 24 ≤ _; omega) (by rw [List.length_map]; show 0 + rows.length < _; omega)) rfl <| Ua rfl rfl <| Wn <| WC.ret <| ⟨1, rows.length, { cells := (rows.map fX).flatten, sz := 1, elem := 75, st := 0 }, ⟨rfl, rfl, rfl⟩, .inr rfl, _, congrArg some (congrArg (fun z => [LV.ref _ 1 0 z]) (show ([] : List (List LV)).length + (rows.map fX).length = rows.length by simp)), g0, rfl, rfl, ?_⟩
 intro c hc; obtain ⟨row, hr, hc⟩ := List.mem_flatten.1 hc; exact data_of dfX row hr c hc
end Go.Proofs.Ytcmieifjephdcaa
set_option linter.unusedVariables false
set_option linter.unusedSimpArgs false
set_option maxRecDepth 100000
set_option maxHeartbeats 16000000
namespace Go.Proofs.Ytcmieifjephdcaa
open Go.Ab Go.RowKit
theorem mreduced_wc (rows0 : List X1) (cols w : Nat) (hne : 0 < rows0.length) (ln : rows0.length < 1000000) (hw : Wid w (vX rows0)) (hcw : cols ≤ w) (hc10 : cols ≤ 10) (lw : w < 1000000) (hb : BdL 2 (vX rows0)) : WC Try.prog T E0 Try.f25.ntmps (codeOf Try.f25) (argsEnv 0 [.sl 1 (rows0.map fX), .v (.int .i64 (cols : Int))]) [] 0 (fun x e h n => (x = .normal ∨ x = .ret) ∧ ∃ (q : Nat) (rows : List X1) (d : X), vX rows = (gjn (vX rows0) cols).1 ∧ d.1 = gjd (vX rows0) cols ∧ resE e T h Try.f25.results.toList = some [.ref 4 1 0 rows.length, outV q 1 ((gjn (vX rows0) cols).2.map d64), lvX d] ∧ getH h 4 = some { cells := (rows.map fX).flatten, sz := 1, elem := 75, st := 0 } ∧ ((gjn (vX rows0) cols).2.map d64 ≠ [] → getH h q = some { cells := ((gjn (vX rows0) cols).2.map d64).flatten, sz := 1, elem := 3, st := 0 })) := by
 obtain ⟨_, _, _, hr1, rfl, rfl, rfl⟩ := clone_own rows0 hne (by omega)
 refine Rg 3 rfl <| Ua rfl rfl <| Ua rfl rfl <| WO.S (oAl rfl) rfl <| Wn <| Rg 3 rfl <| Um rfl rfl <| WO.S (oCallO rfl hr1 (by first | (simp [-data_sl]; done) | simp)) rfl <| Ua rfl rfl <| Wn <| Rg 3 rfl <| WO.U (oCall rfl (whole_run 1 (by unfold I64; omega)) (by first | (simp [-data_sl]; done) | simp)) rfl <| WO.S (oAl rfl) rfl <| WO.S0 (oSt (cs' := [_, _, _, _]) rfl rfl rfl rfl rfl rfl rfl rfl) <| Wn <| Rg 1 rfl <| Ua rfl rfl <| Wn <| WC.assoc <| Rg 2 rfl <| Um rfl rfl <| Um rfl rfl <| Wn <| WC.block ?_
 refine WC.loopV (α := Nat × Nat × (List X1) × (List Nat) × X) (fun ⟨c, q, rows, leads, d⟩ => [(6, .ptr (0 + (0 + 1 + 1)) 0), (7, .ref (0 + 3 + 1) 1 0 rows.length), (8, .ptr (0 + 3 + 3 + 1) 0), (9, outV q 1 (leads.map d64)), (18, .v (.int .i64 (cols : Int))), (19, .v (.int .i64 (c : Int)))]) (fun ⟨c, q, rows, leads, d⟩ => outH q 1 3 (leads.map d64) [((0 + 3 + 1), { cells := (rows.map fX).flatten, sz := 1, elem := 75, st := 0 }), ((0 + 3 + 3 + 1), { cells := xc d, sz := 4, elem := 58, st := 0 }), (2, { cells := [.v (.int .i64 0), .sl 0 [], .v (.int .i64 0), .sl 0 []], sz := 4, elem := 58, st := 0 })]) (fun ⟨c, q, rows, leads, d⟩ n => c ≤ cols ∧ vX rows = (gjn (vX rows0) c).1 ∧ leads = (gjn (vX rows0) c).2 ∧ 8 ≤ q ∧ q < n ∧ d.1 = gjd (vX rows0) c ∧ Bd (bd c) d.1) (fun ⟨c, q, rows, leads, d⟩ => cols - c) (0, 8, rows0, [], xint 1) ⟨rfl, rfl, rfl, rfl, rfl, rfl, trivial⟩ ⟨rfl, rfl, rfl, trivial⟩ ⟨Nat.zero_le _, rfl, rfl, by omega, by omega, rfl, Bd1.mono (by unfold bd; omega)⟩ ?_
 rintro ⟨c, q, rows, leads, d⟩ n hF
 change WC _ _ _ _ _ [(6, .ptr (0 + (0 + 1 + 1)) 0), (7, .ref (0 + 3 + 1) 1 0 rows.length), (8, .ptr (0 + 3 + 3 + 1) 0), (9, outV q 1 (leads.map d64)), (18, .v (.int .i64 (cols : Int))), (19, .v (.int .i64 (c : Int)))] (outH q 1 3 (leads.map d64) [((0 + 3 + 1), { cells := (rows.map fX).flatten, sz := 1, elem := 75, st := 0 }), ((0 + 3 + 3 + 1), { cells := xc d, sz := 4, elem := 58, st := 0 }), (2, { cells := [.v (.int .i64 0), .sl 0 [], .v (.int .i64 0), .sl 0 []], sz := 4, elem := 58, st := 0 })]) n _
 obtain ⟨hc, hv, hld, hq5, hqn, hdv, hdb⟩ := hF
 have GI := GInv.all hb hw c
 have hrl0 : rows.length = rows0.length := by rw [← vX_len rows, hv, gjn_len, vX_len]
 have hll : leads.length ≤ rows.length := by have := GI.led; rw [vX_len] at this; rw [hld]; omega
 have hwid : ∀ i, i < rows.length → (rows.getD i default).2.length = w := by
  intro i hi
  have := GI.wid.row (i := i) (by rw [← hv, vX_len]; exact hi)
  rw [← hv, vX_getD] at this
  simpa using this
 refine Rg 1 rfl <| WO.U (oLss rfl rfl) rfl <| WO.D (fun h20 => ?_) (fun h20 => ?_)
 rotate_left
 ·refine Wn <| WC.cF rfl <| WC.exits <| loopR_exit <| after_exit rfl <| WC.draw (z := 6) rfl (by kernel_rfl) <| Dm rfl rfl <| Dm rfl rfl <| WD.U (oLdP (l := .agg [_, _, _, _]) rfl rfl (outH_get (by omega) (g1 (by decide) g0)) rfl rfl) rfl <| WD.U (oAs rfl) rfl <| WD.U (oAs rfl) rfl <| WD.S0 (oSt (cs' := [_, _, _, _]) rfl rfl rfl (outH_get (by omega) (g1 (by decide) (g1 (by decide) g0))) rfl rfl rfl rfl) <| WD.nil (drawOk_of (by kernel_rfl)) rfl <| WC.ret ?_
  have hcc : c = cols := by omega
  subst hcc
  refine ⟨.inr rfl, q, rows, d, hv, hdv, ?_, g1 (by decide) (outH_get (by omega) g0), ?_⟩
  ·rw [← hld]; rfl
  ·rw [← hld]; exact fun hu => g1 (by omega) (outH_self hu)
 refine Wn <| WC.cT rfl <| WC.skips <| WC.block <| Rg 2 rfl <| Um rfl rfl <| Ua rfl rfl <| Wn <| Rg 3 rfl <| Um rfl rfl <| WO.U (oLenO rfl rfl) rfl <| Ua rfl rfl <| Wn <| Rg 2 rfl <| Um rfl rfl <| Ua rfl rfl <| Wn <| WC.block <| WC.loopV (α := Nat) (fun a => [(6, .ptr (0 + (0 + 1 + 1)) 0), (7, .ref (0 + 3 + 1) 1 0 rows.length), (8, .ptr (0 + 3 + 3 + 1) 0), (9, outV q 1 (leads.map d64)), (10, .v (.int .i64 (c : Int))), (11, .v (.int .i64 (leads.length : Int))), (12, .v (.int .i64 (a : Int))), (18, .v (.int .i64 (cols : Int))), (19, .v (.int .i64 (c : Int)))]) (fun a => outH q 1 3 (leads.map d64) [((0 + 3 + 1), { cells := (rows.map fX).flatten, sz := 1, elem := 75, st := 0 }), ((0 + 3 + 3 + 1), { cells := xc d, sz := 4, elem := 58, st := 0 }), (2, { cells := [.v (.int .i64 0), .sl 0 [], .v (.int .i64 0), .sl 0 []], sz := 4, elem := 58, st := 0 })]) (fun a n => leads.length ≤ a ∧ a ≤ rows.length ∧ (∀ k, leads.length ≤ k → k < a → ent (vX rows) k c = 0) ∧ q < n) (fun a => rows.length - a) (leads.length) ⟨rfl, rfl, rfl, rfl, rfl, rfl, rfl, rfl, rfl, trivial⟩ (subsM_mk3 outH_self (outH_get (by omega) g0) (outH_get (by omega) (g1 (by decide) g0)) (outH_get (by omega) (g1 (by decide) (g1 (by decide) g0)))) ⟨Nat.le_refl _, hll, by intro k h1 h2; omega, by omega⟩ ?_
 rintro a n hG
 change WC _ _ _ _ _ [(6, .ptr (0 + (0 + 1 + 1)) 0), (7, .ref (0 + 3 + 1) 1 0 rows.length), (8, .ptr (0 + 3 + 3 + 1) 0), (9, outV q 1 (leads.map d64)), (10, .v (.int .i64 (c : Int))), (11, .v (.int .i64 (leads.length : Int))), (12, .v (.int .i64 (a : Int))), (18, .v (.int .i64 (cols : Int))), (19, .v (.int .i64 (c : Int)))] (outH q 1 3 (leads.map d64) [((0 + 3 + 1), { cells := (rows.map fX).flatten, sz := 1, elem := 75, st := 0 }), ((0 + 3 + 3 + 1), { cells := xc d, sz := 4, elem := 58, st := 0 }), (2, { cells := [.v (.int .i64 0), .sl 0 [], .v (.int .i64 0), .sl 0 []], sz := 4, elem := 58, st := 0 })]) n _
 obtain ⟨hle1, hle2, hz, hqn2⟩ := hG
 refine WC.assoc <| Rg 15 rfl <| Um rfl rfl <| Um rfl rfl <| WO.U (oLenR rfl rfl) rfl <| WO.U (oLss rfl rfl) rfl <| WO.D (fun h28 => ?_) (fun h28 => ?_)
 rotate_left
 ·refine Um rfl rfl <| WO.K rfl rfl <| WO.K rfl rfl <| WO.K rfl rfl <| WO.K rfl rfl <| WO.K rfl rfl <| WO.K rfl rfl <| WO.K rfl rfl <| WO.K rfl rfl <| WO.K rfl rfl <| WO.U (oPkF rfl rfl) rfl <| Nw [(6, _), (7, _), (8, _), (9, _), (10, _), (11, _), (12, _), (18, _), (19, _), (30, _), (31, _), (32, _), (33, _), (34, _), (35, _), (36, _), (37, _), (38, _), (39, _)] ⟨rfl, rfl, rfl, rfl, rfl, rfl, rfl, rfl, rfl, rfl, rfl, rfl, rfl, rfl, rfl, rfl, rfl, rfl, rfl, trivial⟩ <| WC.cF rfl <| WC.exits <| loopR_exit <| after_exit rfl <| WC.weak [(6, _), (7, _), (8, _), (9, _), (10, _), (11, _), (12, _), (18, _), (19, _), (30, _), (31, _), (32, _), (33, _), (34, _), (35, _), (36, _), (37, _), (38, _)] ⟨rfl, rfl, rfl, rfl, rfl, rfl, rfl, rfl, rfl, rfl, rfl, rfl, rfl, rfl, rfl, rfl, rfl, rfl, trivial⟩ <| WC.assoc <| Rg 4 rfl <| Um rfl rfl <| Um rfl rfl <| WO.U (oLenR rfl rfl) rfl <| WO.U (oEql rfl rfl) rfl ?_
  refine WO.D (fun h45 => ?_) (fun h45 => ?_)
  rotate_left
  ·omega
  refine Nw [(6, _), (7, _), (8, _), (9, _), (10, _), (11, _), (12, _), (18, _), (19, _), (30, _), (31, _), (32, _), (33, _), (34, _), (35, _), (36, _), (37, _), (38, _), (45, _)] ⟨rfl, rfl, rfl, rfl, rfl, rfl, rfl, rfl, rfl, rfl, rfl, rfl, rfl, rfl, rfl, rfl, rfl, rfl, rfl, trivial⟩ <| WC.cT rfl <| WC.exits <| after_exit rfl <| WC.weak [(6, _), (7, _), (8, _), (9, _), (18, _), (19, _), (30, _), (31, _), (32, _), (33, _), (34, _), (35, _), (36, _), (37, _), (38, _)] ⟨rfl, rfl, rfl, rfl, rfl, rfl, rfl, rfl, rfl, rfl, rfl, rfl, rfl, rfl, rfl, trivial⟩ <| WC.reg1z (z := 2) rfl <| WO.U (cI (((c + 1 : Nat) : Int)) (oAdd64 rfl rfl (by omega)) (by omega)) rfl <| Um rfl rfl <| Wn <| loopR_normal ?_
  have hpv : pivot (vX rows) leads.length c = a := pivot_eq hle1 (by rw [vX_len]; exact hle2) hz (.inl (by rw [vX_len]; omega))
  have hpn : pivot (gjn (vX rows0) c).1 (gjn (vX rows0) c).2.length c = (gjn (vX rows0) c).1.length := by rw [← hv, ← hld, hpv, vX_len]; omega
  refine ⟨⟨c + 1, q, rows, leads, d⟩, ⟨rfl, rfl, rfl, rfl, rfl, rfl, trivial⟩, (subsM_mk3 outH_self (outH_get (by omega) g0) (outH_get (by omega) (g1 (by decide) g0)) (outH_get (by omega) (g1 (by decide) (g1 (by decide) g0)))), ⟨by omega, by rw [gjn_no hpn]; exact hv, by rw [gjn_no hpn]; exact hld, by omega, by omega, by rw [gjd_no hpn]; exact hdv, hdb.mono (bd_le (by omega))⟩, by show cols - (c + 1) < cols - c; omega⟩
 refine Um rfl rfl <| WO.Ug rfl (oMv rfl) rfl <| WO.Ug rfl (oMv rfl) rfl <| WO.Ug rfl (oIxR (j := a) rfl rfl rfl rfl (by omega) (by omega) rfl) rfl <| WO.Ug rfl (oLdO (f := fX) (us := rows) (j := a) rfl rfl (outH_get (by omega) g0) (fun _ => rfl) rfl (by decide) (by omega) rfl) rfl <| WO.Ug rfl (oMv rfl) rfl <| WO.Ug rfl (oIxM rfl rfl rfl rfl rfl (by have := hwid a (by omega); omega) rfl) rfl <| WO.Ug rfl (oLd (l := .agg [_, _, _, _]) rfl rfl rfl) rfl <| WO.Ug rfl (oCall rfl (rsign_run ((rows.getD a default).2.getD c default)) (by first | (simp [-data_sl]; done) | simp)) rfl <| WO.Ug rfl (oEql rfl rfl) rfl <| WO.D (fun h38 => ?_) (fun h38 => ?_)
 ·have hez : ent (vX rows) a c = 0 := by rw [← vX_ent]; exact num_sign.1 h38
  refine WO.U (oPkT rfl rfl) rfl <| Nw [(6, _), (7, _), (8, _), (9, _), (10, _), (11, _), (12, _), (18, _), (19, _), (30, _), (31, _), (32, _), (33, _), (34, _), (35, _), (36, _), (37, _), (38, _), (39, _)] ⟨rfl, rfl, rfl, rfl, rfl, rfl, rfl, rfl, rfl, rfl, rfl, rfl, rfl, rfl, rfl, rfl, rfl, rfl, rfl, trivial⟩ <| WC.cT rfl <| WC.skips <| WC.block1 <| WC.reg1z (z := 3) rfl <| Um rfl rfl <| WO.U (cI (((a + 1 : Nat) : Int)) (oAdd64 rfl rfl (by omega)) (by omega)) rfl <| Ua rfl rfl <| Wn <| after0_normal <| loopR_normal <| ⟨a + 1, ⟨rfl, rfl, rfl, rfl, rfl, rfl, rfl, rfl, rfl, trivial⟩, (subsM_mk3 outH_self (outH_get (by omega) g0) (outH_get (by omega) (g1 (by decide) g0)) (outH_get (by omega) (g1 (by decide) (g1 (by decide) g0)))), ⟨by omega, by omega, ?_, by omega⟩, by show rows.length - (a + 1) < rows.length - a; omega⟩
  intro k h1 h2
  by_cases e : k = a
  ·subst e; exact hez
  ·exact hz k h1 (by omega)
 have hen : ent (vX rows) a c ≠ 0 := by rw [← vX_ent]; exact fun k => h38 (num_sign.2 k)
 refine WO.U (oPkT rfl rfl) rfl <| Nw [(6, _), (7, _), (8, _), (9, _), (10, _), (11, _), (12, _), (18, _), (19, _), (30, _), (31, _), (32, _), (33, _), (34, _), (35, _), (36, _), (37, _), (38, _), (39, _)] ⟨rfl, rfl, rfl, rfl, rfl, rfl, rfl, rfl, rfl, rfl, rfl, rfl, rfl, rfl, rfl, rfl, rfl, rfl, rfl, trivial⟩ <| WC.cF rfl <| WC.exits <| loopR_exit <| after_exit rfl <| WC.weak [(6, _), (7, _), (8, _), (9, _), (10, _), (11, _), (12, _), (18, _), (19, _), (30, _), (31, _), (32, _), (33, _), (34, _), (35, _), (36, _), (37, _), (38, _)] ⟨rfl, rfl, rfl, rfl, rfl, rfl, rfl, rfl, rfl, rfl, rfl, rfl, rfl, rfl, rfl, rfl, rfl, rfl, trivial⟩ <| WC.assoc <| Rg 4 rfl <| Um rfl rfl <| Um rfl rfl <| WO.U (oLenR rfl rfl) rfl <| WO.U (oEql rfl rfl) rfl <| WO.D (fun h45 => ?_) (fun h45 => ?_)
 ·omega
 refine Nw [(6, _), (7, _), (8, _), (9, _), (10, _), (11, _), (12, _), (18, _), (19, _), (30, _), (31, _), (32, _), (33, _), (34, _), (35, _), (36, _), (37, _), (38, _), (45, _)] ⟨rfl, rfl, rfl, rfl, rfl, rfl, rfl, rfl, rfl, rfl, rfl, rfl, rfl, rfl, rfl, rfl, rfl, rfl, rfl, trivial⟩ <| WC.cF rfl <| WC.skips <| WC.assoc ?_
 have hrl : leads.length < rows.length := by omega
 have hpv : pivot (vX rows) leads.length c = a := pivot_eq hle1 (by rw [vX_len]; exact hle2) hz (.inr hen)
 rw [hv, hld] at hpv
 have hal : a < (gjn (vX rows0) c).1.length := by rw [← hv, vX_len]; omega
 have hgy := gjn_yes hpv hal
 have hsp : ent (sw (vX rows) a leads.length) leads.length c ≠ 0 := by rw [ent_sw (by rw [vX_len]; omega) (by rw [vX_len]; omega)]; exact hen
 have hbv : BdL (bd c) (vX rows) := by rw [hv]; exact GI.bds
 have hbc : bd c ≤ 268435456 := bd_le (d := 9) (by omega)
 have hbp := bd_pos c
 obtain ⟨M, hM⟩ : ∃ M, M = mid (vX rows) a leads.length c := ⟨_, rfl⟩
 have hMl : M.length = rows.length := by rw [hM, mid_len, vX_len]
 have hMb : BdL (2 * bd c + 1) M := by rw [hM]; exact hbv.mid (by omega) hsp
 have hMw : Wid w M := by rw [hM]; exact (show Wid w (vX rows) by rw [hv]; exact GI.wid).mid (by rw [vX_len]; omega) (by rw [vX_len]; omega) c
 refine Rg 3 rfl <| Um rfl rfl <| Um rfl rfl <| WO.U (oNeq rfl rfl) rfl <| WO.D (fun h48 => ?_) (fun h48 => ?_)
 rotate_left
 ·refine Nw [(6, _), (7, _), (8, _), (9, _), (10, _), (11, _), (12, _), (18, _), (19, _), (30, _), (31, _), (32, _), (33, _), (34, _), (35, _), (36, _), (37, _), (38, _), (48, _)] ⟨rfl, rfl, rfl, rfl, rfl, rfl, rfl, rfl, rfl, rfl, rfl, rfl, rfl, rfl, rfl, rfl, rfl, rfl, rfl, trivial⟩ <| WC.cF rfl <| WC.skips ?_
  obtain ⟨rows1, hr1⟩ : ∃ z, z = rows := ⟨_, rfl⟩
  obtain ⟨d1, hd1e⟩ : ∃ z, z = d := ⟨_, rfl⟩
  have hae : a = leads.length := by omega
  have hd1 : d1.1 = d.1 := by rw [hd1e]
  have hv1 : vX rows1 = sw (vX rows) a leads.length := by rw [hr1, hae, sw_same (by rw [vX_len]; omega)]
  have hl1 : rows1.length = rows.length := by simp [hr1]
  have hp1 : ((rows1.getD leads.length default).2.getD c default).1 ≠ 0 := by rw [vX_ent, hv1]; exact hsp
  have hb1 : BdL (bd c) (vX rows1) := by rw [hv1]; exact hbv.sw _ _
  have hbr : ∀ x, x ∈ (rows1.getD leads.length default).2 → Bd (bd c) x.1 := by
   intro x hx
   have := hb1.row leads.length
   rw [vX_getD] at this
   exact this _ (List.mem_map.2 ⟨x, hx, rfl⟩)
  have hwr : (rows1.getD leads.length default).2.length = w := by
   have := ((show Wid w (vX rows) by rw [hv]; exact GI.wid).sw (i := a) (r := leads.length) (by rw [vX_len]; omega) (by rw [vX_len]; omega)).row (i := leads.length) (by rw [sw_len, vX_len]; omega)
   rw [← hv1, vX_getD, List.length_map] at this; exact this
  have hbpp := hbr _ (getD_mem (show c < (rows1.getD leads.length default).2.length by omega))
  have hb1p := Bd1.div hbpp hp1
  obtain ⟨p, hpe⟩ : ∃ p, p = (rows1.getD leads.length default).2.getD c default := ⟨_, rfl⟩
  have hpv1 : p.1 = ent (vX rows) a c := by rw [hpe, vX_ent, hv1, ent_sw (by rw [vX_len]; omega) (by rw [vX_len]; omega)]
  have hd1b : Bd (bd c) d1.1 := by rw [hd1]; exact hdb
  have hd2v : (xmul d1 p).1 = gjd (vX rows0) (c + 1) := by
   rw [gjd_yes hpv hal, ← hv, ← hld]
   show d1.1 * p.1 = _
   rw [hpv1, hd1, if_neg (by omega), hdv]
  have hd2b : Bd (bd (c + 1)) (xmul d1 p).1 := (hd1b.mul (show Bd (bd c) p.1 by rw [hpe]; exact hbpp)).mono (by rw [bd_succ]; omega)
  refine WC.weakM (outH q 1 3 (leads.map d64) [((0 + 3 + 1), { cells := (rows1.map fX).flatten, sz := 1, elem := 75, st := 0 }), ((0 + 3 + 3 + 1), { cells := xc d1, sz := 4, elem := 58, st := 0 }), (2, { cells := [.v (.int .i64 0), .sl 0 [], .v (.int .i64 0), .sl 0 []], sz := 4, elem := 58, st := 0 })]) (subsM_mk3 outH_self (outH_get (by omega) (g0.trans (by rw [hr1]))) (outH_get (by omega) (g1 (by decide) (g0.trans (by rw [hd1e])))) (outH_get (by omega) (g1 (by decide) (g1 (by decide) g0)))) <| Rg 9 rfl <| Um rfl rfl <| Um rfl rfl <| WO.U (oIxR (j := leads.length) rfl rfl rfl rfl (by omega) (by omega) rfl) rfl <| WO.U (oLdO (f := fX) (us := rows1) (j := leads.length) rfl rfl (outH_get (by omega) g0) (fun _ => rfl) rfl (by decide) (by omega) rfl) rfl <| Um rfl rfl <| WO.U (oIxM rfl rfl rfl rfl rfl (by omega) rfl) rfl <| WO.U (OP.cast (b := lvX p) (oLd (l := .agg [_, _, _, _]) rfl rfl rfl) (by rw [hpe]; rfl)) rfl <| WO.S (oAl rfl) rfl <| WO.S0 (oSt (cs' := xc p) rfl rfl rfl g0 rfl rfl rfl rfl) <| Nw [(6, _), (7, _), (8, _), (9, _), (10, _), (11, _), (13, _), (18, _), (19, _), (30, _), (31, _), (32, _), (33, _), (34, _), (35, _), (36, _), (37, _), (38, _)] ⟨rfl, rfl, rfl, rfl, rfl, rfl, rfl, rfl, rfl, rfl, rfl, rfl, rfl, rfl, rfl, rfl, rfl, rfl, trivial⟩ <| Rg 4 rfl <| WO.U (oLdP (l := .agg [_, _, _, _]) rfl rfl (g1 (by omega) (g1 (by omega) (outH_get (by omega) (g1 (by decide) g0)))) rfl rfl) rfl <| WO.U (oLdP (l := lvX p) rfl rfl g0 rfl rfl) rfl <| WO.U (oCall rfl (rmul_run d1 p (hd1b.mono (by omega)) (by rw [hpe]; exact hbpp.mono (by omega))) (by first | (simp [-data_sl]; done) | simp)) rfl <| WO.S0 (oSt (cs' := [_, _, _, _]) rfl rfl rfl (g1 (by omega) (g1 (by omega) (outH_get (by omega) (g1 (by decide) g0)))) rfl rfl rfl rfl) <| Nw [(6, _), (7, _), (8, _), (9, _), (10, _), (11, _), (13, _), (18, _), (19, _), (30, _), (31, _), (32, _), (33, _), (34, _), (35, _), (36, _), (37, _), (38, _)] ⟨rfl, rfl, rfl, rfl, rfl, rfl, rfl, rfl, rfl, rfl, rfl, rfl, rfl, rfl, rfl, rfl, rfl, rfl, trivial⟩ ?_
  obtain ⟨r, hr, np, rfl, hnp⟩ := mscaled_run (rows1.getD leads.length default).1 (rows1.getD leads.length default).2 (xdiv (xint 1) p) (by omega) (fun x hx => (hbr x hx).mono (by omega)) (by rw [hpe]; exact hb1p.mono (by omega))
  refine WC.draw (z := 12) rfl (by kernel_rfl) <| Dm rfl rfl <| Dm rfl rfl <| Dm rfl rfl <| Dm rfl rfl <| WD.U (oIxR (j := leads.length) rfl rfl rfl rfl (by omega) (by omega) rfl) rfl <| WD.U (oLdO (f := fX) (us := rows1) (j := leads.length) rfl rfl (g1 (by omega) (g1 (by omega) (g1 (by omega) (outH_get (by omega) g0)))) (fun _ => rfl) rfl (by decide) (by omega) rfl) rfl <| WD.U (oCall rfl (whole_run 1 (by unfold I64; omega)) (by first | (simp [-data_sl]; done) | simp)) rfl <| WD.U (oLdP (l := lvX p) rfl rfl (g1 (by omega) g0) rfl rfl) rfl <| WD.U (oCall rfl (rdiv_run (xint 1) p (by rw [hpe]; exact hp1) (Bd1.mono (by omega)) (by rw [hpe]; exact hbpp.mono (by omega))) (by first | (simp [-data_sl]; done) | simp)) rfl <| WD.U (oCall rfl (hr) (by first | (simp [-data_sl]; done) | simp)) rfl <| WD.U (oIxR (j := leads.length) rfl rfl rfl rfl (by omega) (by omega) rfl) rfl <| WD.S0 (oStO (f := fX) (us := rows1) (1, np) rfl rfl rfl (g1 (by omega) (g1 (by omega) (g1 (by omega) (outH_get (by omega) g0)))) (fun _ => rfl) rfl rfl (by omega) rfl) <| WD.nil (drawOk_of (by kernel_rfl)) rfl <| WC.weak [(6, _), (7, _), (8, _), (9, _), (10, _), (11, _), (18, _), (19, _), (30, _), (31, _), (32, _), (33, _), (34, _), (35, _), (36, _), (37, _), (38, _)] ⟨rfl, rfl, rfl, rfl, rfl, rfl, rfl, rfl, rfl, rfl, rfl, rfl, rfl, rfl, rfl, rfl, rfl, trivial⟩ <| WC.assoc ?_
  obtain ⟨rowsM, hr2⟩ : ∃ z, z = rows1.set leads.length (1, np) := ⟨_, rfl⟩
  rw [← hr2]
  have hl2 : rowsM.length = rows.length := by rw [hr2, List.length_set]; exact hl1
  have hv2 : vX rowsM = M := by
   rw [hr2, vX_set, hv1, hM]; unfold mid
   rw [hnp, ← vX_getD, hv1]
   have : (xdiv (xint 1) p).1 = 1 / ent (sw (vX rows) a leads.length) leads.length c := by show (1 : Rat) / p.1 = _; rw [hpv1, ent_sw (by rw [vX_len]; omega) (by rw [vX_len]; omega)]
   rw [this]
  refine Rg 3 rfl <| Um rfl rfl <| WO.U (oLenR rfl rfl) rfl <| Um rfl rfl <| Nw [(6, _), (7, _), (8, _), (9, _), (10, _), (11, _), (18, _), (19, _), (30, _), (31, _), (32, _), (33, _), (34, _), (35, _), (36, _), (37, _), (38, _), (87, _), (88, _)] ⟨rfl, rfl, rfl, rfl, rfl, rfl, rfl, rfl, rfl, rfl, rfl, rfl, rfl, rfl, rfl, rfl, rfl, rfl, rfl, trivial⟩ <| WC.block <| WC.loopV (α := Nat × (List X1)) (fun ⟨j, rows2⟩ => [(6, .ptr (0 + (0 + 1 + 1)) 0), (7, .ref (0 + 3 + 1) 1 0 rows2.length), (8, .ptr (0 + 3 + 3 + 1) 0), (9, outV q 1 (leads.map d64)), (10, .v (.int .i64 (c : Int))), (11, .v (.int .i64 (leads.length : Int))), (18, .v (.int .i64 (cols : Int))), (19, .v (.int .i64 (c : Int))), (87, .v (.int .i64 (rows.length : Int))), (88, .v (.int .i64 (j : Int)))]) (fun ⟨j, rows2⟩ => outH q 1 3 (leads.map d64) [((0 + 3 + 1), { cells := (rows2.map fX).flatten, sz := 1, elem := 75, st := 0 }), ((0 + 3 + 3 + 1), { cells := xc (xmul d1 p), sz := 4, elem := 58, st := 0 }), (2, { cells := [.v (.int .i64 0), .sl 0 [], .v (.int .i64 0), .sl 0 []], sz := 4, elem := 58, st := 0 })]) (fun ⟨j, rows2⟩ n => j ≤ rows.length ∧ rows2.length = rows.length ∧ (∀ k, k < rows.length → (vX rows2).getD k default = if k < j then elr M leads.length c k else M.getD k default) ∧ q < n) (fun ⟨j, rows2⟩ => rows.length - j) (0, rowsM) ⟨rfl, congrArg some (by rw [hl2]), rfl, rfl, rfl, rfl, rfl, rfl, rfl, rfl, trivial⟩ (subsM_mk3 (fun hu => (g1 (by omega) (g1 (by omega) (g1 (by omega) (g1 (by omega) (outH_self hu)))))) g0 (g1 (by omega) g0) (g1 (by omega) (g1 (by omega) (g1 (by omega) (g1 (by omega) (outH_get (by omega) (g1 (by decide) (g1 (by decide) g0)))))))) ⟨Nat.zero_le _, hl2, by intro k hk; rw [if_neg (by omega), hv2], by omega⟩ ?_
  rintro ⟨j, rows2⟩ n hJ
  change WC _ _ _ _ _ [(6, .ptr (0 + (0 + 1 + 1)) 0), (7, .ref (0 + 3 + 1) 1 0 rows2.length), (8, .ptr (0 + 3 + 3 + 1) 0), (9, outV q 1 (leads.map d64)), (10, .v (.int .i64 (c : Int))), (11, .v (.int .i64 (leads.length : Int))), (18, .v (.int .i64 (cols : Int))), (19, .v (.int .i64 (c : Int))), (87, .v (.int .i64 (rows.length : Int))), (88, .v (.int .i64 (j : Int)))] (outH q 1 3 (leads.map d64) [((0 + 3 + 1), { cells := (rows2.map fX).flatten, sz := 1, elem := 75, st := 0 }), ((0 + 3 + 3 + 1), { cells := xc (xmul d1 p), sz := 4, elem := 58, st := 0 }), (2, { cells := [.v (.int .i64 0), .sl 0 [], .v (.int .i64 0), .sl 0 []], sz := 4, elem := 58, st := 0 })]) n _
  obtain ⟨hjl, hl4, hst, hqn4⟩ := hJ
  refine Rg 1 rfl <| WO.U (oLss rfl rfl) rfl <| WO.D (fun h89 => ?_) (fun h89 => ?_)
  rotate_left
  ·refine Wn <| WC.cF rfl <| WC.exits <| loopR_exit <| after_exit rfl ?_
   have hfin : vX rows2 = elim M leads.length c := elim_eq (j := j) (by rw [vX_len]; omega) (by omega) (by rw [hMl]; exact hst)
   refine WC.reg1z (z := 5) rfl <| Um rfl rfl <| Um rfl rfl <| WO.U (oBs' (cs := [_]) (rows := [[_]]) rfl rfl (by decide) rfl rfl rfl) rfl <| WO.apM (te := ti3) (f := d64) (q := q) (us := leads) (u := c) rfl rfl rfl rfl rfl (fun _ => rfl) (by decide) (by show (2 * (leads.length + 1) + 256) * 8 ≤ _; omega) (by omega) (gN (by omega) (gN (by omega) (gN (by omega) rfl))) (gN (by omega) (gN (by omega) (gN (by omega) rfl))) rfl <| Ua rfl rfl <| Wn <| after_normal <| WC.weak [(6, _), (7, _), (8, _), (9, _), (18, _), (19, _)] ⟨rfl, rfl, rfl, rfl, rfl, rfl, trivial⟩ <| WC.reg1z (z := 2) rfl <| WO.U (cI (((c + 1 : Nat) : Int)) (oAdd64 rfl rfl (by omega)) (by omega)) rfl <| Um rfl rfl <| Wn <| loopR_normal <| ⟨⟨c + 1, _, rows2, leads ++ [c], xmul d1 p⟩, ⟨rfl, rfl, rfl, rfl, rfl, rfl, trivial⟩, (subsM_mk3 outH_self (outH_get (by omega) g0) (outH_get (by omega) (g1 (by decide) g0)) (outH_get (by omega) (g1 (by decide) (g1 (by decide) g0)))), ⟨by omega, by rw [hgy, hfin, hM, hv, hld], by rw [hgy, hld], by omega, by omega, hd2v, hd2b⟩, by show cols - (c + 1) < cols - c; omega⟩
  refine Wn <| WC.cT rfl <| WC.skips <| WC.block <| Rg 2 rfl <| Um rfl rfl <| Ua rfl rfl <| WO.nil ?_
  have hrj : vX rows2 = vX rows2 := rfl
  have hj1 : (vX rows2).getD j default = M.getD j default := by rw [hst j (by omega), if_neg (by omega)]
  have hj2 : (vX rows2).getD leads.length default = M.getD leads.length default := elim_row (by omega) (by rw [hMl]; exact hst)
  have hej : ent (vX rows2) j c = ent M j c := by unfold ent; rw [hj1]
  have hwj : (rows2.getD j default).2.length = w := by have := hMw.row (i := j) (by omega); rw [← hj1, vX_getD] at this; simpa using this
  have hwl : (rows2.getD leads.length default).2.length = w := by have := hMw.row (i := leads.length) (by omega); rw [← hj2, vX_getD] at this; simpa using this
  refine Rg 14 rfl <| Um rfl rfl <| Um rfl rfl <| WO.U (oNeq rfl rfl) rfl <| WO.D (fun h93 => ?_) (fun h93 => ?_)
  rotate_left
  ·refine Um rfl rfl <| WO.K rfl rfl <| WO.K rfl rfl <| WO.K rfl rfl <| WO.K rfl rfl <| WO.K rfl rfl <| WO.K rfl rfl <| WO.K rfl rfl <| WO.K rfl rfl <| WO.K rfl rfl <| WO.U (oPkF rfl rfl) rfl <| Nw [(6, _), (7, _), (8, _), (9, _), (10, _), (11, _), (14, _), (18, _), (19, _), (87, _), (88, _), (95, _), (96, _), (97, _), (98, _), (99, _), (100, _), (101, _), (102, _), (103, _), (104, _)] ⟨rfl, rfl, rfl, rfl, rfl, rfl, rfl, rfl, rfl, rfl, rfl, rfl, rfl, rfl, rfl, rfl, rfl, rfl, rfl, rfl, rfl, trivial⟩ <| WC.cF1 rfl <| WC.skip <| after_normal <| WC.weak [(6, _), (7, _), (8, _), (9, _), (10, _), (11, _), (18, _), (19, _), (87, _), (88, _), (95, _), (96, _), (97, _), (98, _), (99, _), (100, _), (101, _), (102, _), (103, _)] ⟨rfl, rfl, rfl, rfl, rfl, rfl, rfl, rfl, rfl, rfl, rfl, rfl, rfl, rfl, rfl, rfl, rfl, rfl, rfl, trivial⟩ <| WC.reg1z (z := 2) rfl <| WO.U (cI (((j + 1 : Nat) : Int)) (oAdd64 rfl rfl (by omega)) (by omega)) rfl <| Um rfl rfl <| Wn <| loopR_normal <| ⟨⟨j + 1, rows2⟩, ⟨rfl, rfl, rfl, rfl, rfl, rfl, rfl, rfl, rfl, rfl, trivial⟩, (subsM_mk3 outH_self (outH_get (by omega) g0) (outH_get (by omega) (g1 (by decide) g0)) (outH_get (by omega) (g1 (by decide) (g1 (by decide) g0)))), ⟨by omega, hl4, (by have := elim_keep (A := vX rows2) (M := M) (j := j) (by omega) (by rw [hMl]; exact hst) (elr_neg (.inl (by omega))).symm; rwa [hMl] at this), by omega⟩, by show rows.length - (j + 1) < rows.length - j; omega⟩
  refine Um rfl rfl <| WO.Ug rfl (oMv rfl) rfl <| WO.Ug rfl (oMv rfl) rfl <| WO.Ug rfl (oIxR (j := j) rfl rfl rfl rfl (by omega) (by omega) rfl) rfl <| WO.Ug rfl (oLdO (f := fX) (us := rows2) (j := j) rfl rfl (outH_get (by omega) g0) (fun _ => rfl) rfl (by decide) (by omega) rfl) rfl <| WO.Ug rfl (oMv rfl) rfl <| WO.Ug rfl (oIxM rfl rfl rfl rfl rfl (by omega) rfl) rfl <| WO.Ug rfl (oLd (l := .agg [_, _, _, _]) rfl rfl rfl) rfl <| WO.Ug rfl (oCall rfl (rsign_run ((rows2.getD j default).2.getD c default)) (by first | (simp [-data_sl]; done) | simp)) rfl <| WO.Ug rfl (oNeq rfl rfl) rfl <| WO.D (fun h103 => ?_) (fun h103 => ?_)
  rotate_left
  ·refine WO.U (oPkT rfl rfl) rfl <| Nw [(6, _), (7, _), (8, _), (9, _), (10, _), (11, _), (14, _), (18, _), (19, _), (87, _), (88, _), (95, _), (96, _), (97, _), (98, _), (99, _), (100, _), (101, _), (102, _), (103, _), (104, _)] ⟨rfl, rfl, rfl, rfl, rfl, rfl, rfl, rfl, rfl, rfl, rfl, rfl, rfl, rfl, rfl, rfl, rfl, rfl, rfl, rfl, rfl, trivial⟩ <| WC.cF1 rfl <| WC.skip <| after_normal <| WC.weak [(6, _), (7, _), (8, _), (9, _), (10, _), (11, _), (18, _), (19, _), (87, _), (88, _), (95, _), (96, _), (97, _), (98, _), (99, _), (100, _), (101, _), (102, _), (103, _)] ⟨rfl, rfl, rfl, rfl, rfl, rfl, rfl, rfl, rfl, rfl, rfl, rfl, rfl, rfl, rfl, rfl, rfl, rfl, rfl, trivial⟩ <| WC.reg1z (z := 2) rfl <| WO.U (cI (((j + 1 : Nat) : Int)) (oAdd64 rfl rfl (by omega)) (by omega)) rfl <| Um rfl rfl <| Wn <| loopR_normal <| ⟨⟨j + 1, rows2⟩, ⟨rfl, rfl, rfl, rfl, rfl, rfl, rfl, rfl, rfl, rfl, trivial⟩, (subsM_mk3 outH_self (outH_get (by omega) g0) (outH_get (by omega) (g1 (by decide) g0)) (outH_get (by omega) (g1 (by decide) (g1 (by decide) g0)))), ⟨by omega, hl4, (by have := elim_keep (A := vX rows2) (M := M) (j := j) (by omega) (by rw [hMl]; exact hst) (elr_neg (.inr (by rw [← hej, ← vX_ent]; exact num_sign.1 (by omega)))).symm; rwa [hMl] at this), by omega⟩, by show rows.length - (j + 1) < rows.length - j; omega⟩
  refine WO.U (oPkT rfl rfl) rfl <| Nw [(6, _), (7, _), (8, _), (9, _), (10, _), (11, _), (14, _), (18, _), (19, _), (87, _), (88, _), (95, _), (96, _), (97, _), (98, _), (99, _), (100, _), (101, _), (102, _), (103, _), (104, _)] ⟨rfl, rfl, rfl, rfl, rfl, rfl, rfl, rfl, rfl, rfl, rfl, rfl, rfl, rfl, rfl, rfl, rfl, rfl, rfl, rfl, rfl, trivial⟩ <| WC.cT1 rfl ?_
  have hen2 : ent M j c ≠ 0 := by rw [← hej, ← vX_ent]; exact fun k => h103 (num_sign.2 k)
  have hbj : ∀ x, x ∈ (rows2.getD j default).2 → Bd (2 * bd c + 1) x.1 := by
   intro x hx
   have := hMb.row j
   rw [← hj1, vX_getD] at this
   exact this _ (List.mem_map.2 ⟨x, hx, rfl⟩)
  have hbl : ∀ x, x ∈ (rows2.getD leads.length default).2 → Bd (2 * bd c + 1) x.1 := by
   intro x hx
   have := hMb.row leads.length
   rw [← hj2, vX_getD] at this
   exact this _ (List.mem_map.2 ⟨x, hx, rfl⟩)
  have hbe := hbj _ (getD_mem (show c < (rows2.getD j default).2.length by omega))
  obtain ⟨r, hr, nw, rfl, hnw⟩ := madded_run (rows2.getD j default).1 (rows2.getD leads.length default).1 (rows2.getD j default).2 (rows2.getD leads.length default).2 (xneg ((rows2.getD j default).2.getD c default)) (by omega) (by omega) (fun x hx => (hbj x hx).mono (by omega)) (fun x hx => (hbl x hx).mono (by omega)) (hbe.neg.mono (by omega))
  refine WC.draw1z (z := 21) rfl (by kernel_rfl) <| Dm rfl rfl <| Dm rfl rfl <| Dm rfl rfl <| Dm rfl rfl <| WD.U (oIxR (j := j) rfl rfl rfl rfl (by omega) (by omega) rfl) rfl <| WD.U (oLdO (f := fX) (us := rows2) (j := j) rfl rfl (outH_get (by omega) g0) (fun _ => rfl) rfl (by decide) (by omega) rfl) rfl <| Dm rfl rfl <| Dm rfl rfl <| WD.U (oIxR (j := j) rfl rfl rfl rfl (by omega) (by omega) rfl) rfl <| WD.U (oLdO (f := fX) (us := rows2) (j := j) rfl rfl (outH_get (by omega) g0) (fun _ => rfl) rfl (by decide) (by omega) rfl) rfl <| Dm rfl rfl <| WD.U (oIxM rfl rfl rfl rfl rfl (by omega) rfl) rfl <| WD.U (oLd (l := .agg [_, _, _, _]) rfl rfl rfl) rfl <| WD.U (oCall rfl (rneg_run ((rows2.getD j default).2.getD c default)) (by first | (simp [-data_sl]; done) | simp)) rfl <| Dm rfl rfl <| Dm rfl rfl <| WD.U (oIxR (j := leads.length) rfl rfl rfl rfl (by omega) (by omega) rfl) rfl <| WD.U (oLdO (f := fX) (us := rows2) (j := leads.length) rfl rfl (outH_get (by omega) g0) (fun _ => rfl) rfl (by decide) (by omega) rfl) rfl <| WD.U (oCall rfl (hr) (by first | (simp [-data_sl]; done) | simp)) rfl <| WD.U (oIxR (j := j) rfl rfl rfl rfl (by omega) (by omega) rfl) rfl <| WD.S0 (oStO (f := fX) (us := rows2) (1, nw) rfl rfl rfl (outH_get (by omega) g0) (fun _ => rfl) rfl rfl (by omega) rfl) <| WD.nil (drawOk_of (by kernel_rfl)) rfl <| after_normal ?_
  refine WC.weak [(6, _), (7, _), (8, _), (9, _), (10, _), (11, _), (18, _), (19, _), (87, _), (88, _), (95, _), (96, _), (97, _), (98, _), (99, _), (100, _), (101, _), (102, _), (103, _)] ⟨rfl, rfl, rfl, rfl, rfl, rfl, rfl, rfl, rfl, rfl, rfl, rfl, rfl, rfl, rfl, rfl, rfl, rfl, rfl, trivial⟩ <| WC.reg1z (z := 2) rfl <| WO.U (cI (((j + 1 : Nat) : Int)) (oAdd64 rfl rfl (by omega)) (by omega)) rfl <| Um rfl rfl <| Wn <| loopR_normal <| ⟨⟨j + 1, rows2.set j (1, nw)⟩, ⟨rfl, congrArg some (by rw [List.length_set]), rfl, rfl, rfl, rfl, rfl, rfl, rfl, rfl, trivial⟩, subsM_mk3 (fun hu => g1 (by omega) (outH_self hu)) g0 (g1 (by decide) (outH_get (by omega) (g1 (by decide) g0))) (g1 (by decide) (outH_get (by omega) (g1 (by decide) (g1 (by decide) g0)))), ⟨by omega, by rw [List.length_set]; exact hl4, by rw [vX_set]; exact (by have := elim_next (A := vX rows2) (M := M) (j := j) (by rw [vX_len]; omega) (by omega) (by rw [hMl]; exact hst) (x := nw.map (·.1)) (by rw [elr_pos (by omega) hen2, ← hej, ← hj1, ← hj2, vX_getD, vX_getD, ← vX_ent, hnw]; rfl); rwa [hMl] at this), by omega⟩, by show rows.length - (j + 1) < rows.length - j; omega⟩
 refine Nw [(6, _), (7, _), (8, _), (9, _), (10, _), (11, _), (12, _), (18, _), (19, _), (30, _), (31, _), (32, _), (33, _), (34, _), (35, _), (36, _), (37, _), (38, _), (48, _)] ⟨rfl, rfl, rfl, rfl, rfl, rfl, rfl, rfl, rfl, rfl, rfl, rfl, rfl, rfl, rfl, rfl, rfl, rfl, rfl, trivial⟩ <| WC.cT rfl <| WC.assoc <| WC.draw (z := 16) rfl (by kernel_rfl) <| Dm rfl rfl <| Dm rfl rfl <| Dm rfl rfl <| Dm rfl rfl <| Dm rfl rfl <| Dm rfl rfl <| WD.U (oIxR (j := leads.length) rfl rfl rfl rfl (by omega) (by omega) rfl) rfl <| WD.U (oLdO (f := fX) (us := rows) (j := leads.length) rfl rfl (outH_get (by omega) g0) (fun _ => rfl) rfl (by decide) (by omega) rfl) rfl <| Dm rfl rfl <| Dm rfl rfl <| WD.U (oIxR (j := a) rfl rfl rfl rfl (by omega) (by omega) rfl) rfl <| WD.U (oLdO (f := fX) (us := rows) (j := a) rfl rfl (outH_get (by omega) g0) (fun _ => rfl) rfl (by decide) (by omega) rfl) rfl <| WD.U (oIxR (j := a) rfl rfl rfl rfl (by omega) (by omega) rfl) rfl <| WD.S0 (oStO (f := fX) (us := rows) (rows.getD leads.length default) rfl rfl rfl (outH_get (by omega) g0) (fun _ => rfl) rfl rfl (by omega) rfl) <| WD.U (oIxR (j := leads.length) rfl rfl rfl rfl (by omega) (by omega) rfl) rfl <| WD.S0 (oStO (f := fX) (us := (rows.set a (rows.getD leads.length default))) (rows.getD a default) rfl rfl rfl g0 (fun _ => rfl) rfl rfl (by rw [List.length_set]; omega) rfl) <| WD.nil (drawOk_of (by kernel_rfl)) rfl <| WC.weak [(6, _), (7, _), (8, _), (9, _), (10, _), (11, _), (18, _), (19, _), (30, _), (31, _), (32, _), (33, _), (34, _), (35, _), (36, _), (37, _), (38, _)] ⟨rfl, rfl, rfl, rfl, rfl, rfl, rfl, rfl, rfl, rfl, rfl, rfl, rfl, rfl, rfl, rfl, rfl, trivial⟩ <| Rg 3 rfl ?_
 refine WO.U (oLdP (l := .agg [_, _, _, _]) rfl rfl (g1 (by omega) (g1 (by omega) (outH_get (by omega) (g1 (by decide) g0)))) rfl rfl) rfl <| WO.U (oCall rfl (rneg_run d) (by first | (simp [-data_sl]; done) | simp)) rfl <| WO.S0 (oSt (cs' := [_, _, _, _]) rfl rfl rfl (g1 (by omega) (g1 (by omega) (outH_get (by omega) (g1 (by decide) g0)))) rfl rfl rfl rfl) <| Nw [(6, _), (7, _), (8, _), (9, _), (10, _), (11, _), (18, _), (19, _), (30, _), (31, _), (32, _), (33, _), (34, _), (35, _), (36, _), (37, _), (38, _)] ⟨rfl, rfl, rfl, rfl, rfl, rfl, rfl, rfl, rfl, rfl, rfl, rfl, rfl, rfl, rfl, rfl, rfl, trivial⟩ ?_
 obtain ⟨rows1, hr1⟩ : ∃ z, z = ((rows.set a (rows.getD leads.length default)).set leads.length (rows.getD a default)) := ⟨_, rfl⟩
 obtain ⟨d1, hd1e⟩ : ∃ z, z = xneg d := ⟨_, rfl⟩
 rw [← hr1]
 have hd1 : d1.1 = -d.1 := by rw [hd1e]; rfl
 have hv1 : vX rows1 = sw (vX rows) a leads.length := by rw [hr1, vX_set, vX_set, ← vX_getD, ← vX_getD]; exact sw_comm (by omega)
 have hl1 : rows1.length = rows.length := by simp [hr1]
 have hp1 : ((rows1.getD leads.length default).2.getD c default).1 ≠ 0 := by rw [vX_ent, hv1]; exact hsp
 have hb1 : BdL (bd c) (vX rows1) := by rw [hv1]; exact hbv.sw _ _
 have hbr : ∀ x, x ∈ (rows1.getD leads.length default).2 → Bd (bd c) x.1 := by
  intro x hx
  have := hb1.row leads.length
  rw [vX_getD] at this
  exact this _ (List.mem_map.2 ⟨x, hx, rfl⟩)
 have hwr : (rows1.getD leads.length default).2.length = w := by
  have := ((show Wid w (vX rows) by rw [hv]; exact GI.wid).sw (i := a) (r := leads.length) (by rw [vX_len]; omega) (by rw [vX_len]; omega)).row (i := leads.length) (by rw [sw_len, vX_len]; omega)
  rw [← hv1, vX_getD, List.length_map] at this; exact this
 have hbpp := hbr _ (getD_mem (show c < (rows1.getD leads.length default).2.length by omega))
 have hb1p := Bd1.div hbpp hp1
 obtain ⟨p, hpe⟩ : ∃ p, p = (rows1.getD leads.length default).2.getD c default := ⟨_, rfl⟩
 have hpv1 : p.1 = ent (vX rows) a c := by rw [hpe, vX_ent, hv1, ent_sw (by rw [vX_len]; omega) (by rw [vX_len]; omega)]
 have hd1b : Bd (bd c) d1.1 := by rw [hd1]; exact hdb.neg
 have hd2v : (xmul d1 p).1 = gjd (vX rows0) (c + 1) := by
  rw [gjd_yes hpv hal, ← hv, ← hld]
  show d1.1 * p.1 = _
  rw [hpv1, hd1, if_pos (by omega), hdv]
 have hd2b : Bd (bd (c + 1)) (xmul d1 p).1 := (hd1b.mul (show Bd (bd c) p.1 by rw [hpe]; exact hbpp)).mono (by rw [bd_succ]; omega)
 refine WC.weakM (outH q 1 3 (leads.map d64) [((0 + 3 + 1), { cells := (rows1.map fX).flatten, sz := 1, elem := 75, st := 0 }), ((0 + 3 + 3 + 1), { cells := xc d1, sz := 4, elem := 58, st := 0 }), (2, { cells := [.v (.int .i64 0), .sl 0 [], .v (.int .i64 0), .sl 0 []], sz := 4, elem := 58, st := 0 })]) (subsM_mk3 (fun hu => (g1 (by omega) (g1 (by omega) (g1 (by omega) (outH_self hu))))) (g1 (by decide) g0) (g0.trans (by rw [hd1e]; rfl)) (g1 (by omega) (g1 (by omega) (g1 (by omega) (outH_get (by omega) (g1 (by decide) (g1 (by decide) g0))))))) <| Rg 9 rfl <| Um rfl rfl <| Um rfl rfl <| WO.U (oIxR (j := leads.length) rfl rfl rfl rfl (by omega) (by omega) rfl) rfl <| WO.U (oLdO (f := fX) (us := rows1) (j := leads.length) rfl rfl (outH_get (by omega) g0) (fun _ => rfl) rfl (by decide) (by omega) rfl) rfl <| Um rfl rfl <| WO.U (oIxM rfl rfl rfl rfl rfl (by omega) rfl) rfl <| WO.U (OP.cast (b := lvX p) (oLd (l := .agg [_, _, _, _]) rfl rfl rfl) (by rw [hpe]; rfl)) rfl <| WO.S (oAl rfl) rfl <| WO.S0 (oSt (cs' := xc p) rfl rfl rfl g0 rfl rfl rfl rfl) <| Nw [(6, _), (7, _), (8, _), (9, _), (10, _), (11, _), (13, _), (18, _), (19, _), (30, _), (31, _), (32, _), (33, _), (34, _), (35, _), (36, _), (37, _), (38, _)] ⟨rfl, rfl, rfl, rfl, rfl, rfl, rfl, rfl, rfl, rfl, rfl, rfl, rfl, rfl, rfl, rfl, rfl, rfl, trivial⟩ <| Rg 4 rfl <| WO.U (oLdP (l := .agg [_, _, _, _]) rfl rfl (g1 (by omega) (g1 (by omega) (outH_get (by omega) (g1 (by decide) g0)))) rfl rfl) rfl <| WO.U (oLdP (l := lvX p) rfl rfl g0 rfl rfl) rfl <| WO.U (oCall rfl (rmul_run d1 p (hd1b.mono (by omega)) (by rw [hpe]; exact hbpp.mono (by omega))) (by first | (simp [-data_sl]; done) | simp)) rfl <| WO.S0 (oSt (cs' := [_, _, _, _]) rfl rfl rfl (g1 (by omega) (g1 (by omega) (outH_get (by omega) (g1 (by decide) g0)))) rfl rfl rfl rfl) <| Nw [(6, _), (7, _), (8, _), (9, _), (10, _), (11, _), (13, _), (18, _), (19, _), (30, _), (31, _), (32, _), (33, _), (34, _), (35, _), (36, _), (37, _), (38, _)] ⟨rfl, rfl, rfl, rfl, rfl, rfl, rfl, rfl, rfl, rfl, rfl, rfl, rfl, rfl, rfl, rfl, rfl, rfl, trivial⟩ ?_
 obtain ⟨r, hr, np, rfl, hnp⟩ := mscaled_run (rows1.getD leads.length default).1 (rows1.getD leads.length default).2 (xdiv (xint 1) p) (by omega) (fun x hx => (hbr x hx).mono (by omega)) (by rw [hpe]; exact hb1p.mono (by omega))
 refine WC.draw (z := 12) rfl (by kernel_rfl) <| Dm rfl rfl <| Dm rfl rfl <| Dm rfl rfl <| Dm rfl rfl <| WD.U (oIxR (j := leads.length) rfl rfl rfl rfl (by omega) (by omega) rfl) rfl <| WD.U (oLdO (f := fX) (us := rows1) (j := leads.length) rfl rfl (g1 (by omega) (g1 (by omega) (g1 (by omega) (outH_get (by omega) g0)))) (fun _ => rfl) rfl (by decide) (by omega) rfl) rfl <| WD.U (oCall rfl (whole_run 1 (by unfold I64; omega)) (by first | (simp [-data_sl]; done) | simp)) rfl <| WD.U (oLdP (l := lvX p) rfl rfl (g1 (by omega) g0) rfl rfl) rfl <| WD.U (oCall rfl (rdiv_run (xint 1) p (by rw [hpe]; exact hp1) (Bd1.mono (by omega)) (by rw [hpe]; exact hbpp.mono (by omega))) (by first | (simp [-data_sl]; done) | simp)) rfl <| WD.U (oCall rfl (hr) (by first | (simp [-data_sl]; done) | simp)) rfl <| WD.U (oIxR (j := leads.length) rfl rfl rfl rfl (by omega) (by omega) rfl) rfl <| WD.S0 (oStO (f := fX) (us := rows1) (1, np) rfl rfl rfl (g1 (by omega) (g1 (by omega) (g1 (by omega) (outH_get (by omega) g0)))) (fun _ => rfl) rfl rfl (by omega) rfl) <| WD.nil (drawOk_of (by kernel_rfl)) rfl <| WC.weak [(6, _), (7, _), (8, _), (9, _), (10, _), (11, _), (18, _), (19, _), (30, _), (31, _), (32, _), (33, _), (34, _), (35, _), (36, _), (37, _), (38, _)] ⟨rfl, rfl, rfl, rfl, rfl, rfl, rfl, rfl, rfl, rfl, rfl, rfl, rfl, rfl, rfl, rfl, rfl, trivial⟩ <| WC.assoc ?_
 obtain ⟨rowsM, hr2⟩ : ∃ z, z = rows1.set leads.length (1, np) := ⟨_, rfl⟩
 rw [← hr2]
 have hl2 : rowsM.length = rows.length := by rw [hr2, List.length_set]; exact hl1
 have hv2 : vX rowsM = M := by
  rw [hr2, vX_set, hv1, hM]; unfold mid
  rw [hnp, ← vX_getD, hv1]
  have : (xdiv (xint 1) p).1 = 1 / ent (sw (vX rows) a leads.length) leads.length c := by show (1 : Rat) / p.1 = _; rw [hpv1, ent_sw (by rw [vX_len]; omega) (by rw [vX_len]; omega)]
  rw [this]
 refine Rg 3 rfl <| Um rfl rfl <| WO.U (oLenR rfl rfl) rfl <| Um rfl rfl <| Nw [(6, _), (7, _), (8, _), (9, _), (10, _), (11, _), (18, _), (19, _), (30, _), (31, _), (32, _), (33, _), (34, _), (35, _), (36, _), (37, _), (38, _), (87, _), (88, _)] ⟨rfl, rfl, rfl, rfl, rfl, rfl, rfl, rfl, rfl, rfl, rfl, rfl, rfl, rfl, rfl, rfl, rfl, rfl, rfl, trivial⟩ <| WC.block <| WC.loopV (α := Nat × (List X1)) (fun ⟨j, rows2⟩ => [(6, .ptr (0 + (0 + 1 + 1)) 0), (7, .ref (0 + 3 + 1) 1 0 rows2.length), (8, .ptr (0 + 3 + 3 + 1) 0), (9, outV q 1 (leads.map d64)), (10, .v (.int .i64 (c : Int))), (11, .v (.int .i64 (leads.length : Int))), (18, .v (.int .i64 (cols : Int))), (19, .v (.int .i64 (c : Int))), (87, .v (.int .i64 (rows.length : Int))), (88, .v (.int .i64 (j : Int)))]) (fun ⟨j, rows2⟩ => outH q 1 3 (leads.map d64) [((0 + 3 + 1), { cells := (rows2.map fX).flatten, sz := 1, elem := 75, st := 0 }), ((0 + 3 + 3 + 1), { cells := xc (xmul d1 p), sz := 4, elem := 58, st := 0 }), (2, { cells := [.v (.int .i64 0), .sl 0 [], .v (.int .i64 0), .sl 0 []], sz := 4, elem := 58, st := 0 })]) (fun ⟨j, rows2⟩ n => j ≤ rows.length ∧ rows2.length = rows.length ∧ (∀ k, k < rows.length → (vX rows2).getD k default = if k < j then elr M leads.length c k else M.getD k default) ∧ q < n) (fun ⟨j, rows2⟩ => rows.length - j) (0, rowsM) ⟨rfl, congrArg some (by rw [hl2]), rfl, rfl, rfl, rfl, rfl, rfl, rfl, rfl, trivial⟩ (subsM_mk3 (fun hu => (g1 (by omega) (g1 (by omega) (g1 (by omega) (g1 (by omega) (outH_self hu)))))) g0 (g1 (by omega) g0) (g1 (by omega) (g1 (by omega) (g1 (by omega) (g1 (by omega) (outH_get (by omega) (g1 (by decide) (g1 (by decide) g0)))))))) ⟨Nat.zero_le _, hl2, by intro k hk; rw [if_neg (by omega), hv2], by omega⟩ ?_
 rintro ⟨j, rows2⟩ n hJ
 change WC _ _ _ _ _ [(6, .ptr (0 + (0 + 1 + 1)) 0), (7, .ref (0 + 3 + 1) 1 0 rows2.length), (8, .ptr (0 + 3 + 3 + 1) 0), (9, outV q 1 (leads.map d64)), (10, .v (.int .i64 (c : Int))), (11, .v (.int .i64 (leads.length : Int))), (18, .v (.int .i64 (cols : Int))), (19, .v (.int .i64 (c : Int))), (87, .v (.int .i64 (rows.length : Int))), (88, .v (.int .i64 (j : Int)))] (outH q 1 3 (leads.map d64) [((0 + 3 + 1), { cells := (rows2.map fX).flatten, sz := 1, elem := 75, st := 0 }), ((0 + 3 + 3 + 1), { cells := xc (xmul d1 p), sz := 4, elem := 58, st := 0 }), (2, { cells := [.v (.int .i64 0), .sl 0 [], .v (.int .i64 0), .sl 0 []], sz := 4, elem := 58, st := 0 })]) n _
 obtain ⟨hjl, hl4, hst, hqn4⟩ := hJ
 refine Rg 1 rfl <| WO.U (oLss rfl rfl) rfl <| WO.D (fun h89 => ?_) (fun h89 => ?_)
 rotate_left
 ·refine Wn <| WC.cF rfl <| WC.exits <| loopR_exit <| after_exit rfl ?_
  have hfin : vX rows2 = elim M leads.length c := elim_eq (j := j) (by rw [vX_len]; omega) (by omega) (by rw [hMl]; exact hst)
  refine WC.reg1z (z := 5) rfl <| Um rfl rfl <| Um rfl rfl <| WO.U (oBs' (cs := [_]) (rows := [[_]]) rfl rfl (by decide) rfl rfl rfl) rfl <| WO.apM (te := ti3) (f := d64) (q := q) (us := leads) (u := c) rfl rfl rfl rfl rfl (fun _ => rfl) (by decide) (by show (2 * (leads.length + 1) + 256) * 8 ≤ _; omega) (by omega) (gN (by omega) (gN (by omega) (gN (by omega) rfl))) (gN (by omega) (gN (by omega) (gN (by omega) rfl))) rfl <| Ua rfl rfl <| Wn <| after_normal <| WC.weak [(6, _), (7, _), (8, _), (9, _), (18, _), (19, _)] ⟨rfl, rfl, rfl, rfl, rfl, rfl, trivial⟩ <| WC.reg1z (z := 2) rfl <| WO.U (cI (((c + 1 : Nat) : Int)) (oAdd64 rfl rfl (by omega)) (by omega)) rfl <| Um rfl rfl <| Wn <| loopR_normal <| ⟨⟨c + 1, _, rows2, leads ++ [c], xmul d1 p⟩, ⟨rfl, rfl, rfl, rfl, rfl, rfl, trivial⟩, (subsM_mk3 outH_self (outH_get (by omega) g0) (outH_get (by omega) (g1 (by decide) g0)) (outH_get (by omega) (g1 (by decide) (g1 (by decide) g0)))), ⟨by omega, by rw [hgy, hfin, hM, hv, hld], by rw [hgy, hld], by omega, by omega, hd2v, hd2b⟩, by show cols - (c + 1) < cols - c; omega⟩
 refine Wn <| WC.cT rfl <| WC.skips <| WC.block <| Rg 2 rfl <| Um rfl rfl <| Ua rfl rfl <| WO.nil ?_
 have hrj : vX rows2 = vX rows2 := rfl
 have hj1 : (vX rows2).getD j default = M.getD j default := by rw [hst j (by omega), if_neg (by omega)]
 have hj2 : (vX rows2).getD leads.length default = M.getD leads.length default := elim_row (by omega) (by rw [hMl]; exact hst)
 have hej : ent (vX rows2) j c = ent M j c := by unfold ent; rw [hj1]
 have hwj : (rows2.getD j default).2.length = w := by have := hMw.row (i := j) (by omega); rw [← hj1, vX_getD] at this; simpa using this
 have hwl : (rows2.getD leads.length default).2.length = w := by have := hMw.row (i := leads.length) (by omega); rw [← hj2, vX_getD] at this; simpa using this
 refine Rg 14 rfl <| Um rfl rfl <| Um rfl rfl <| WO.U (oNeq rfl rfl) rfl <| WO.D (fun h93 => ?_) (fun h93 => ?_)
 rotate_left
 ·refine Um rfl rfl <| WO.K rfl rfl <| WO.K rfl rfl <| WO.K rfl rfl <| WO.K rfl rfl <| WO.K rfl rfl <| WO.K rfl rfl <| WO.K rfl rfl <| WO.K rfl rfl <| WO.K rfl rfl <| WO.U (oPkF rfl rfl) rfl <| Nw [(6, _), (7, _), (8, _), (9, _), (10, _), (11, _), (14, _), (18, _), (19, _), (87, _), (88, _), (95, _), (96, _), (97, _), (98, _), (99, _), (100, _), (101, _), (102, _), (103, _), (104, _)] ⟨rfl, rfl, rfl, rfl, rfl, rfl, rfl, rfl, rfl, rfl, rfl, rfl, rfl, rfl, rfl, rfl, rfl, rfl, rfl, rfl, rfl, trivial⟩ <| WC.cF1 rfl <| WC.skip <| after_normal <| WC.weak [(6, _), (7, _), (8, _), (9, _), (10, _), (11, _), (18, _), (19, _), (87, _), (88, _), (95, _), (96, _), (97, _), (98, _), (99, _), (100, _), (101, _), (102, _), (103, _)] ⟨rfl, rfl, rfl, rfl, rfl, rfl, rfl, rfl, rfl, rfl, rfl, rfl, rfl, rfl, rfl, rfl, rfl, rfl, rfl, trivial⟩ <| WC.reg1z (z := 2) rfl <| WO.U (cI (((j + 1 : Nat) : Int)) (oAdd64 rfl rfl (by omega)) (by omega)) rfl <| Um rfl rfl <| Wn <| loopR_normal <| ⟨⟨j + 1, rows2⟩, ⟨rfl, rfl, rfl, rfl, rfl, rfl, rfl, rfl, rfl, rfl, trivial⟩, (subsM_mk3 outH_self (outH_get (by omega) g0) (outH_get (by omega) (g1 (by decide) g0)) (outH_get (by omega) (g1 (by decide) (g1 (by decide) g0)))), ⟨by omega, hl4, (by have := elim_keep (A := vX rows2) (M := M) (j := j) (by omega) (by rw [hMl]; exact hst) (elr_neg (.inl (by omega))).symm; rwa [hMl] at this), by omega⟩, by show rows.length - (j + 1) < rows.length - j; omega⟩
 refine Um rfl rfl <| WO.Ug rfl (oMv rfl) rfl <| WO.Ug rfl (oMv rfl) rfl <| WO.Ug rfl (oIxR (j := j) rfl rfl rfl rfl (by omega) (by omega) rfl) rfl <| WO.Ug rfl (oLdO (f := fX) (us := rows2) (j := j) rfl rfl (outH_get (by omega) g0) (fun _ => rfl) rfl (by decide) (by omega) rfl) rfl <| WO.Ug rfl (oMv rfl) rfl <| WO.Ug rfl (oIxM rfl rfl rfl rfl rfl (by omega) rfl) rfl <| WO.Ug rfl (oLd (l := .agg [_, _, _, _]) rfl rfl rfl) rfl <| WO.Ug rfl (oCall rfl (rsign_run ((rows2.getD j default).2.getD c default)) (by first | (simp [-data_sl]; done) | simp)) rfl <| WO.Ug rfl (oNeq rfl rfl) rfl <| WO.D (fun h103 => ?_) (fun h103 => ?_)
 rotate_left
 ·refine WO.U (oPkT rfl rfl) rfl <| Nw [(6, _), (7, _), (8, _), (9, _), (10, _), (11, _), (14, _), (18, _), (19, _), (87, _), (88, _), (95, _), (96, _), (97, _), (98, _), (99, _), (100, _), (101, _), (102, _), (103, _), (104, _)] ⟨rfl, rfl, rfl, rfl, rfl, rfl, rfl, rfl, rfl, rfl, rfl, rfl, rfl, rfl, rfl, rfl, rfl, rfl, rfl, rfl, rfl, trivial⟩ <| WC.cF1 rfl <| WC.skip <| after_normal <| WC.weak [(6, _), (7, _), (8, _), (9, _), (10, _), (11, _), (18, _), (19, _), (87, _), (88, _), (95, _), (96, _), (97, _), (98, _), (99, _), (100, _), (101, _), (102, _), (103, _)] ⟨rfl, rfl, rfl, rfl, rfl, rfl, rfl, rfl, rfl, rfl, rfl, rfl, rfl, rfl, rfl, rfl, rfl, rfl, rfl, trivial⟩ <| WC.reg1z (z := 2) rfl <| WO.U (cI (((j + 1 : Nat) : Int)) (oAdd64 rfl rfl (by omega)) (by omega)) rfl <| Um rfl rfl <| Wn <| loopR_normal <| ⟨⟨j + 1, rows2⟩, ⟨rfl, rfl, rfl, rfl, rfl, rfl, rfl, rfl, rfl, rfl, trivial⟩, (subsM_mk3 outH_self (outH_get (by omega) g0) (outH_get (by omega) (g1 (by decide) g0)) (outH_get (by omega) (g1 (by decide) (g1 (by decide) g0)))), ⟨by omega, hl4, (by have := elim_keep (A := vX rows2) (M := M) (j := j) (by omega) (by rw [hMl]; exact hst) (elr_neg (.inr (by rw [← hej, ← vX_ent]; exact num_sign.1 (by omega)))).symm; rwa [hMl] at this), by omega⟩, by show rows.length - (j + 1) < rows.length - j; omega⟩
 refine WO.U (oPkT rfl rfl) rfl <| Nw [(6, _), (7, _), (8, _), (9, _), (10, _), (11, _), (14, _), (18, _), (19, _), (87, _), (88, _), (95, _), (96, _), (97, _), (98, _), (99, _), (100, _), (101, _), (102, _), (103, _), (104, _)] ⟨rfl, rfl, rfl, rfl, rfl, rfl, rfl, rfl, rfl, rfl, rfl, rfl, rfl, rfl, rfl, rfl, rfl, rfl, rfl, rfl, rfl, trivial⟩ <| WC.cT1 rfl ?_
 have hen2 : ent M j c ≠ 0 := by rw [← hej, ← vX_ent]; exact fun k => h103 (num_sign.2 k)
 have hbj : ∀ x, x ∈ (rows2.getD j default).2 → Bd (2 * bd c + 1) x.1 := by
  intro x hx
  have := hMb.row j
  rw [← hj1, vX_getD] at this
  exact this _ (List.mem_map.2 ⟨x, hx, rfl⟩)
 have hbl : ∀ x, x ∈ (rows2.getD leads.length default).2 → Bd (2 * bd c + 1) x.1 := by
  intro x hx
  have := hMb.row leads.length
  rw [← hj2, vX_getD] at this
  exact this _ (List.mem_map.2 ⟨x, hx, rfl⟩)
 have hbe := hbj _ (getD_mem (show c < (rows2.getD j default).2.length by omega))
 obtain ⟨r, hr, nw, rfl, hnw⟩ := madded_run (rows2.getD j default).1 (rows2.getD leads.length default).1 (rows2.getD j default).2 (rows2.getD leads.length default).2 (xneg ((rows2.getD j default).2.getD c default)) (by omega) (by omega) (fun x hx => (hbj x hx).mono (by omega)) (fun x hx => (hbl x hx).mono (by omega)) (hbe.neg.mono (by omega))
 refine WC.draw1z (z := 21) rfl (by kernel_rfl) <| Dm rfl rfl <| Dm rfl rfl <| Dm rfl rfl <| Dm rfl rfl <| WD.U (oIxR (j := j) rfl rfl rfl rfl (by omega) (by omega) rfl) rfl <| WD.U (oLdO (f := fX) (us := rows2) (j := j) rfl rfl (outH_get (by omega) g0) (fun _ => rfl) rfl (by decide) (by omega) rfl) rfl <| Dm rfl rfl <| Dm rfl rfl <| WD.U (oIxR (j := j) rfl rfl rfl rfl (by omega) (by omega) rfl) rfl <| WD.U (oLdO (f := fX) (us := rows2) (j := j) rfl rfl (outH_get (by omega) g0) (fun _ => rfl) rfl (by decide) (by omega) rfl) rfl <| Dm rfl rfl <| WD.U (oIxM rfl rfl rfl rfl rfl (by omega) rfl) rfl <| WD.U (oLd (l := .agg [_, _, _, _]) rfl rfl rfl) rfl <| WD.U (oCall rfl (rneg_run ((rows2.getD j default).2.getD c default)) (by first | (simp [-data_sl]; done) | simp)) rfl <| Dm rfl rfl <| Dm rfl rfl <| WD.U (oIxR (j := leads.length) rfl rfl rfl rfl (by omega) (by omega) rfl) rfl <| WD.U (oLdO (f := fX) (us := rows2) (j := leads.length) rfl rfl (outH_get (by omega) g0) (fun _ => rfl) rfl (by decide) (by omega) rfl) rfl <| WD.U (oCall rfl (hr) (by first | (simp [-data_sl]; done) | simp)) rfl <| WD.U (oIxR (j := j) rfl rfl rfl rfl (by omega) (by omega) rfl) rfl <| WD.S0 (oStO (f := fX) (us := rows2) (1, nw) rfl rfl rfl (outH_get (by omega) g0) (fun _ => rfl) rfl rfl (by omega) rfl) <| WD.nil (drawOk_of (by kernel_rfl)) rfl <| after_normal ?_
 refine WC.weak [(6, _), (7, _), (8, _), (9, _), (10, _), (11, _), (18, _), (19, _), (87, _), (88, _), (95, _), (96, _), (97, _), (98, _), (99, _), (100, _), (101, _), (102, _), (103, _)] ⟨rfl, rfl, rfl, rfl, rfl, rfl, rfl, rfl, rfl, rfl, rfl, rfl, rfl, rfl, rfl, rfl, rfl, rfl, rfl, trivial⟩ <| WC.reg1z (z := 2) rfl <| WO.U (cI (((j + 1 : Nat) : Int)) (oAdd64 rfl rfl (by omega)) (by omega)) rfl <| Um rfl rfl <| Wn <| loopR_normal <| ⟨⟨j + 1, rows2.set j (1, nw)⟩, ⟨rfl, congrArg some (by rw [List.length_set]), rfl, rfl, rfl, rfl, rfl, rfl, rfl, rfl, trivial⟩, subsM_mk3 (fun hu => g1 (by omega) (outH_self hu)) g0 (g1 (by decide) (outH_get (by omega) (g1 (by decide) g0))) (g1 (by decide) (outH_get (by omega) (g1 (by decide) (g1 (by decide) g0)))), ⟨by omega, by rw [List.length_set]; exact hl4, by rw [vX_set]; exact (by have := elim_next (A := vX rows2) (M := M) (j := j) (by rw [vX_len]; omega) (by omega) (by rw [hMl]; exact hst) (x := nw.map (·.1)) (by rw [elr_pos (by omega) hen2, ← hej, ← hj1, ← hj2, vX_getD, vX_getD, ← vX_ent, hnw]; rfl); rwa [hMl] at this), by omega⟩, by show rows.length - (j + 1) < rows.length - j; omega⟩
theorem mreduced_run (rows0 : List X1) (cols w : Nat) (hne : 0 < rows0.length) (ln : rows0.length < 1000000) (hw : Wid w (vX rows0)) (hcw : cols ≤ w) (hc10 : cols ≤ 10) (lw : w < 1000000) (hb : BdL 2 (vX rows0)) : ∃ r, Run Try.prog T E0 (.call 25 [.sl 1 (rows0.map fX), .v (.int .i64 (cols : Int))] r) ∧ ∃ (rows : List X1) (d : X), r = .tup [.sl 1 (rows.map fX), .sl (kd (gjn (vX rows0) cols).2.length) ((gjn (vX rows0) cols).2.map d64), lvX d] ∧ vX rows = (gjn (vX rows0) cols).1 ∧ d.1 = gjd (vX rows0) cols := by
 refine mkcallE Try.func25 rfl rfl (Nat.le_of_ble_eq_true rfl) ((mreduced_wc rows0 cols w hne ln hw hcw hc10 lw hb).mono ?_)
 rintro x e h n ⟨hx, q, rows, d, h1, h2, h3, h4, h5⟩
 refine ⟨.tup [.sl 1 (rows.map fX), .sl (kd (gjn (vX rows0) cols).2.length) ((gjn (vX rows0) cols).2.map d64), lvX d], ⟨rows, d, rfl, h1, h2⟩, ?_⟩
 rw [← outR_kd]
 exact postRO (n := n) hx h3 (by simp) h4 (by show (0 : Nat) ≠ 2; decide) rfl (by decide) rfl (rows_of (n := 1) (fun _ => rfl)) (data_of dfX) h5 (by decide) (rows_of (n := 1) (fun _ => rfl)) data_rows_d64 (by simp)
end Go.Proofs.Ytcmieifjephdcaa
set_option linter.unusedVariables false
set_option linter.unusedSimpArgs false
set_option maxRecDepth 100000
set_option maxHeartbeats 8000000
namespace Go.Proofs.Ytcmieifjephdcaa
open Go.Ab Go.RowKit
theorem nsame_run (k1 k2 : Nat) (ns : List NM) (ln : ns.length < 1099511627776) : Run Try.prog T E0 (.call 12 [.sl k1 (ns.map mc), .sl k2 (ns.map mc)] (.v (.bool true))) := by
 refine mkcall Try.func12 rfl rfl (Nat.le_of_ble_eq_true rfl) <| Rg 1 rfl <| Ua rfl rfl <| Wn <| WC.assoc <| Rg 5 rfl <| Um rfl rfl <| WO.U (oLenM rfl rfl) rfl <| Um rfl rfl <| WO.U (oLenM rfl rfl) rfl <| WO.U (oNeq rfl rfl) rfl <| WO.D (fun h10 => ?_) (fun h10 => ?_)
 ·exact absurd rfl h10
 refine Wn <| WC.cF rfl <| WC.skips <| WC.assoc <| Rg 3 rfl <| Um rfl rfl <| WO.U (oLenM rfl rfl) rfl <| Um rfl rfl <| Wn <| WC.block <| WC.loopV (α := Nat) (fun i => [(0, .sl k1 (ns.map mc)), (1, .sl k2 (ns.map mc)), (12, .v (.int .i64 (ns.length : Int))), (13, .v (.int .i64 (i : Int)))]) (fun i => []) (fun i n => i ≤ ns.length) (fun i => ns.length - i) (0) ⟨rfl, rfl, rfl, rfl, trivial⟩ trivial (Nat.zero_le _) ?_
 rintro i n hF
 change WC _ _ _ _ _ [(0, .sl k1 (ns.map mc)), (1, .sl k2 (ns.map mc)), (12, .v (.int .i64 (ns.length : Int))), (13, .v (.int .i64 (i : Int)))] ([]) n _
 refine Rg 1 rfl <| WO.U (oLss rfl rfl) rfl <| WO.D (fun h14 => ?_) (fun h14 => ?_)
 rotate_left
 ·refine Wn <| WC.cF rfl <| WC.exits <| loopR_exit <| after_exit rfl <| Rg 1 rfl <| Ua rfl rfl <| Wn <| WC.ret ?_
  exact post (n := 0) (.inr rfl) rfl rfl (by simp)
 refine Wn <| WC.cT rfl <| WC.skips <| WC.block <| Rg 2 rfl <| Um rfl rfl <| Ua rfl rfl <| Wn <| WC.draw (z := 9) rfl (by kernel_rfl) <| Dm rfl rfl <| Dm rfl rfl <| WD.U (oIxM rfl rfl rfl rfl rfl (by omega) rfl) rfl <| WD.U (oLd (l := .agg [_, _]) rfl rfl rfl) rfl <| Dm rfl rfl <| Dm rfl rfl <| WD.U (oIxM rfl rfl rfl rfl rfl (by omega) rfl) rfl <| WD.U (oLd (l := .agg [_, _]) rfl rfl rfl) rfl <| WD.U (OP.cast (b := .v (.bool false)) (oNeS rfl rfl rfl rfl rfl) (by simp)) rfl <| WD.nil (drawOk_of (by kernel_rfl)) rfl <| WC.weak [(0, _), (1, _), (12, _), (13, _), (24, _)] ⟨rfl, rfl, rfl, rfl, rfl, trivial⟩ <| WC.cF1 rfl <| WC.skip <| after_normal <| WC.reg1z (z := 2) rfl ?_
 refine WO.U (cI (((i + 1 : Nat) : Int)) (oAdd64 rfl rfl (by omega)) (by omega)) rfl <| Um rfl rfl <| Wn <| loopR_normal <| ⟨i + 1, ⟨rfl, rfl, rfl, rfl, trivial⟩, trivial, by show i + 1 ≤ _; omega, by show ns.length - (i + 1) < ns.length - i; omega⟩
theorem msame_run (k1 k2 : Nat) (a : List M1) (ln : a.length < 1099511627776) (lr : ∀ r, r ∈ a → r.2.length < 1099511627776) : Run Try.prog T E0 (.call 11 [.sl k1 (a.map fM), .sl k2 (a.map fM)] (.v (.bool true))) := by
 refine mkcall Try.func11 rfl rfl (Nat.le_of_ble_eq_true rfl) <| Rg 1 rfl <| Ua rfl rfl <| Wn <| WC.assoc <| Rg 5 rfl <| Um rfl rfl <| WO.U (oLenM rfl rfl) rfl <| Um rfl rfl <| WO.U (oLenM rfl rfl) rfl <| WO.U (oNeq rfl rfl) rfl <| WO.D (fun h10 => ?_) (fun h10 => ?_)
 ·exact absurd rfl h10
 refine Wn <| WC.cF rfl <| WC.skips <| WC.assoc <| Rg 3 rfl <| Um rfl rfl <| WO.U (oLenM rfl rfl) rfl <| Um rfl rfl <| Wn <| WC.block <| WC.loopV (α := Nat) (fun i => [(0, .sl k1 (a.map fM)), (1, .sl k2 (a.map fM)), (12, .v (.int .i64 (a.length : Int))), (13, .v (.int .i64 (i : Int)))]) (fun i => []) (fun i n => i ≤ a.length) (fun i => a.length - i) (0) ⟨rfl, rfl, rfl, rfl, trivial⟩ trivial (Nat.zero_le _) ?_
 rintro i n hF
 change WC _ _ _ _ _ [(0, .sl k1 (a.map fM)), (1, .sl k2 (a.map fM)), (12, .v (.int .i64 (a.length : Int))), (13, .v (.int .i64 (i : Int)))] ([]) n _
 refine Rg 1 rfl <| WO.U (oLss rfl rfl) rfl <| WO.D (fun h14 => ?_) (fun h14 => ?_)
 rotate_left
 ·refine Wn <| WC.cF rfl <| WC.exits <| loopR_exit <| after_exit rfl <| Rg 1 rfl <| Ua rfl rfl <| Wn <| WC.ret ?_
  exact post (n := 0) (.inr rfl) rfl rfl (by simp)
 refine Wn <| WC.cT rfl <| WC.skips <| WC.block <| Rg 2 rfl <| Um rfl rfl <| Ua rfl rfl <| Wn <| WC.draw (z := 10) rfl (by kernel_rfl) <| Dm rfl rfl <| Dm rfl rfl <| WD.U (oIxM rfl rfl rfl rfl rfl (by omega) rfl) rfl <| WD.U (oLd rfl rfl rfl) rfl <| Dm rfl rfl <| Dm rfl rfl <| WD.U (oIxM rfl rfl rfl rfl rfl (by omega) rfl) rfl <| WD.U (oLd rfl rfl rfl) rfl <| WD.U (oCall rfl (nsame_run (a.getD i default).1 (a.getD i default).1 (a.getD i default).2 (lr _ (getD_mem (by omega)))) (by first | exact dc | exact dc1 | (simp [-data_sl]; done) | simp)) rfl <| WD.U (oNot rfl) rfl <| WD.nil (drawOk_of (by kernel_rfl)) rfl <| WC.weak [(0, _), (1, _), (12, _), (13, _), (25, _)] ⟨rfl, rfl, rfl, rfl, rfl, trivial⟩ <| WC.cF1 rfl <| WC.skip <| after_normal ?_
 refine WC.reg1z (z := 2) rfl <| WO.U (cI (((i + 1 : Nat) : Int)) (oAdd64 rfl rfl (by omega)) (by omega)) rfl <| Um rfl rfl <| Wn <| loopR_normal <| ⟨i + 1, ⟨rfl, rfl, rfl, rfl, trivial⟩, trivial, by show i + 1 ≤ _; omega, by show a.length - (i + 1) < a.length - i; omega⟩
theorem wholes_run (k : Nat) (ns : List Int) (ln : ns.length < 1099511627776) : Run Try.prog T E0 (.call 22 [.sl k (ns.map dI)] (.sl (kd (ns.map wI).length) ((ns.map wI).map mc))) := by
 refine mkcall Try.func22 rfl rfl (Nat.le_of_ble_eq_true rfl) <| Rg 1 rfl <| Ua rfl rfl <| Wn <| Rg 1 rfl <| Ua rfl rfl <| Wn <| WC.assoc <| Rg 3 rfl <| Um rfl rfl <| WO.U (oLenM rfl rfl) rfl <| Um rfl rfl <| Wn <| WC.block <| WC.loopV (α := Nat × Nat × (List NM)) (fun ⟨i, q, ds⟩ => [(3, outV q 2 (ds.map mc)), (6, .sl k (ns.map dI)), (7, .v (.int .i64 (ns.length : Int))), (8, .v (.int .i64 (i : Int)))]) (fun ⟨i, q, ds⟩ => outH q 2 26 (ds.map mc) []) (fun ⟨i, q, ds⟩ n => i ≤ ns.length ∧ ds = (ns.take i).map wI ∧ ds.length = i) (fun ⟨i, q, ds⟩ => ns.length - i) (0, 0, []) ⟨rfl, rfl, rfl, rfl, trivial⟩ trivial ⟨Nat.zero_le _, by simp, rfl⟩ ?_
 rintro ⟨i, q, ds⟩ n hF
 change WC _ _ _ _ _ [(3, outV q 2 (ds.map mc)), (6, .sl k (ns.map dI)), (7, .v (.int .i64 (ns.length : Int))), (8, .v (.int .i64 (i : Int)))] (outH q 2 26 (ds.map mc) []) n _
 obtain ⟨hi, hds, hdl⟩ := hF
 refine Rg 1 rfl <| WO.U (oLss rfl rfl) rfl <| WO.D (fun h9 => ?_) (fun h9 => ?_)
 rotate_left
 ·refine Wn <| WC.cF rfl <| WC.exits <| loopR_exit <| after_exit rfl <| Rg 2 rfl <| Um rfl rfl <| Ua rfl rfl <| Wn <| WC.ret ?_
  rw [List.take_of_length_le (by omega)] at hds
  rw [← hds, ← outR_kd]
  exact postOut (n := 0) (.inr rfl) rfl (by decide) (rows_of (n := 2) (fun _ => rfl)) (data_of dmc)
 refine Wn <| WC.cT rfl <| WC.skips <| WC.block <| Rg 3 rfl <| WO.U (oIxM rfl rfl rfl rfl rfl (by omega) rfl) rfl <| WO.U (oLd rfl rfl rfl) rfl <| Ua rfl rfl <| Wn <| WC.reg1z (z := 6) rfl <| Um rfl rfl <| Um rfl rfl <| WO.U (oBd (cs := [_, _]) rfl rfl rfl rfl rfl) rfl <| WO.U (oBs' (cs := [_, _]) (rows := [[_, _]]) rfl rfl (by decide) rfl rfl rfl) rfl <| WO.apM (te := ti26) (f := mc) (q := q) (us := ds) (u := (wI (ns.getD i default))) rfl rfl rfl rfl rfl (fun _ => rfl) (by decide) (by show (2 * (ds.length + 1) + 256) * 16 ≤ _; omega) (by omega) rfl rfl rfl <| Ua rfl rfl <| Wn <| after_normal <| WC.reg1z (z := 2) rfl <| WO.U (cI (((i + 1 : Nat) : Int)) (oAdd64 rfl rfl (by omega)) (by omega)) rfl <| Um rfl rfl <| Wn <| loopR_normal <| ⟨⟨i + 1, _, ds ++ [wI (ns.getD i default)]⟩, ⟨rfl, rfl, rfl, rfl, trivial⟩, subsM_out, ⟨by omega, by rw [take_map_succ (by omega), hds], by simp; omega⟩, by show ns.length - (i + 1) < ns.length - i; omega⟩
theorem mreduce_run (k : Nat) (a : List M1) (hI : IM a) (hF : Few8 a) (hne : 0 < a.length) : Run Try.prog T E0 (.call 19 [.sl k (a.map fM)] (lvRed a)) := by
 have l1 := hF.ln
 have l2 : ∀ r, r ∈ a → r.2.length < 1099511627776 := fun r hr => by have := hF.lr r hr; omega
 refine mkcall Try.func19 rfl rfl (Nat.le_of_ble_eq_true rfl) <| Rg 2 rfl <| Ua rfl rfl <| Ua rfl rfl <| Wn <| WC.assoc <| Rg 3 rfl <| Um rfl rfl <| WO.U (oCall rfl (mvalid_run k a hI (by omega) (fun r hr => by have := l2 r hr; omega)) (by first | exact dc | exact dc1 | (simp [-data_sl]; done) | simp)) rfl <| WO.B (fun h8 => ?_) (fun h8 => ?_)
 rotate_left
 ·refine WO.U (oNot rfl) rfl <| Wn <| WC.cT rfl <| WC.assoc <| Rg 2 rfl <| Ua rfl rfl <| Ua rfl rfl <| Wn <| WC.rets <| post (n := 0) (.inr rfl) rfl ?_ (by first | exact dc | exact dc1 | (simp [-data_sl]; done) | simp)
  rw [lvRed_no h8]; rfl
 refine WO.U (oNot rfl) rfl <| Wn <| WC.cF rfl <| WC.skips ?_
 obtain ⟨f1, f2⟩ := VM.facts h8
 have hvn : ∀ r, r ∈ a → ∀ x, x ∈ r.2 → VN x := fun r hr => (f2 r hr).2.2
 have hw8 := wd_le h8 hF
 have hl8 : (a.map nxr).length = a.length := by simp
 obtain ⟨r, hr, rows, d, rfl, hrows, hd⟩ := mreduced_run (a.map nxr) (wd a) (wd a) (by rw [hl8]; exact hne) (by rw [hl8]; omega) (by rw [vX_nx a]; exact vM_wid h8) (by omega) (by omega) (by omega) (by rw [vX_nx a]; exact vM_bd h8)
 rw [vX_nx a] at hrows hr
 refine Rg 13 rfl <| Um rfl rfl <| WO.U (OP.cast (b := .sl 1 ((a.map nxr).map fX)) (oCall rfl (mrats_run k a (by omega) hI (fun r hr x hx => by have := (hvn r hr x hx).1; omega) l2) (by first | exact dc | exact dc1 | (simp [-data_sl]; done) | simp)) (by rw [hl8, kd, if_neg (by omega)])) rfl <| Um rfl rfl <| WO.U (oCall rfl (mwidth_run k a) (by first | exact dc | exact dc1 | (simp [-data_sl]; done) | simp)) rfl <| WO.U (oCall rfl (hr) (by first | exact dc | exact dc1 | (simp [-data_sl]; done) | simp)) rfl <| Um rfl rfl <| WO.U (oEx rfl rfl) rfl <| WO.U (oEx rfl rfl) rfl <| WO.U (oEx rfl rfl) rfl <| WO.S (oAl rfl) rfl <| Ua rfl rfl <| Ua rfl rfl <| WO.S0 (oSt (cs' := [_, _, _, _]) rfl rfl rfl g0 rfl rfl rfl rfl) <| Nw [(4, _)] ⟨rfl, trivial⟩ ?_
 have hrl : ∀ r, r ∈ rows → r.2.length < 1099511627776 := by
  intro r hr
  have GI := GInv.all (vM_bd h8) (vM_wid h8) (wd a)
  have := GI.wid (r.2.map (·.1)) (by rw [← hrows]; exact List.mem_map.2 ⟨r, hr, rfl⟩)
  rw [List.length_map] at this; omega
 refine Rg 6 rfl <| Um rfl rfl <| WO.U (OP.cast (b := lvOM (redO a)) (oCall rfl (mouts_run 1 rows (by rw [← vX_len rows, hrows, gjn_len]; simp [vM]; omega) hrl) (by first | exact dc | exact dc1 | (simp [-data_sl]; done) | simp)) (by rw [outX_eq, hrows]; rfl)) rfl <| WO.U (oEx rfl rfl) rfl <| WO.U (oEx rfl rfl) rfl <| Ua rfl rfl <| Ua rfl rfl <| Wn <| WC.ret <| post (n := 0) (.inr rfl) rfl ?_ (by first | exact dc | exact dc1 | (simp [-data_sl]; done) | simp)
 rw [lvRed_ok h8]; rfl
end Go.Proofs.Ytcmieifjephdcaa
set_option linter.unusedVariables false
set_option linter.unusedSimpArgs false
set_option maxRecDepth 100000
set_option maxHeartbeats 8000000
namespace Go.Proofs.Ytcmieifjephdcaa
open Go.Ab Go.RowKit
theorem clone1_own (k : Nat) (row : List X) (hk : k ≠ 0) (hne : 0 < row.length) (ln : row.length < 1099511627776) : ∃ sz len ob, Run Try.prog T E0 (.callO 35 [.sl k (row.map xc)] (.ref 0 sz 0 len) ob) ∧ sz = 4 ∧ len = row.length ∧ ob = { cells := (row.map xc).flatten, sz := 4, elem := 58, st := 0 } := by
 refine mkcallO Try.func35 rfl rfl (Nat.le_of_ble_eq_true rfl) <| Rg 1 rfl <| Ua rfl rfl <| Wn <| WC.assoc <| Rg 2 rfl <| Um rfl rfl <| WO.U (OP.cast (b := .v (.bool false)) (oNilE rfl rfl) (by rw [beq_eq_false_iff_ne.2 hk])) rfl <| Wn <| WC.cF rfl <| WC.skips <| Rg 4 rfl <| WO.U (oBs' (cs := []) (rows := []) rfl rfl (by decide) rfl rfl rfl) rfl <| Um rfl rfl <| WO.S (oApS (xs := []) (rows := row.map xc) rfl rfl rfl rfl rfl (by decide) (by simp) (rows_of (f := xc) (n := 4) (fun _ => rfl)) (by simpa using hne) (by rw [List.length_map]; show (2 * (0 + row.length) + 256) * 64 ≤ _; omega) (by rw [List.length_map]; show 0 + row.length < _; omega)) rfl <| Ua rfl rfl <| Wn <| WC.ret <| ⟨4, row.length, { cells := (row.map xc).flatten, sz := 4, elem := 58, st := 0 }, ⟨rfl, rfl, rfl⟩, .inr rfl, _, congrArg some (congrArg (fun z => [LV.ref _ 4 0 z]) (show ([] : List (List LV)).length + (row.map xc).length = row.length by simp)), g0, rfl, rfl, ?_⟩
 intro c hc; obtain ⟨row, hr, hc⟩ := List.mem_flatten.1 hc; exact data_of dxc row hr c hc
theorem g113 : gjn [[(1 : Rat), 1, 3]] 2 = ([[1, 1, 3]], [0]) := by decide +kernel
theorem rows1 {α : Type} {f : α → List Rat} {rows : List α} {r : List Rat} (h : rows.map f = [r]) : ∃ a, rows = [a] ∧ f a = r := by
 match rows, h with
 | [a], h => exact ⟨a, rfl, by simpa using h⟩
theorem three {xs : List X} {a b c : Rat} (h : xs.map (·.1) = [a, b, c]) : ∃ x y z : X, xs = [x, y, z] ∧ z.1 = c := by
 match xs, h with
 | [x, y, z], h => simp at h; exact ⟨x, y, z, rfl, h.2.2⟩
theorem lin1_run (k k2 : Nat) (p q s : X) (hp : p.1 = 1) (hq : q.1 = 1) (hs : s.1 = 3) : ∃ r, Run Try.prog T E0 (.call 38 [.sl k ([((1 : Nat), [p, q])].map fX), .sl k2 ([s].map xc), .v (.int .i64 2)] r) ∧ ∃ xs : List X, r = .tup [.v (.int .i64 2), .sl 1 (xs.map xc)] ∧ xs.map (·.1) = [3, 0] := by
 obtain ⟨_, _, _, hr1, rfl, rfl, rfl⟩ := clone1_own 1 [p, q] (by decide) (by simp) (by show 2 < _; decide)
 have hW : vX [((1 : Nat), [p, q, s])] = [[1, 1, 3]] := by simp [vX, hp, hq, hs]
 obtain ⟨r, hr, rows, d, rfl, hrows, _⟩ := mreduced_run [((1 : Nat), [p, q, s])] 2 3 (by simp) (by show 1 < _; decide) (by rw [hW]; intro a ha; simp at ha; subst ha; rfl) (by decide) (by decide) (by decide) (by
  rw [hW]; intro a ha x hx; simp at ha; subst ha
  have : x = 1 ∨ x = 3 := by simpa using hx
  rcases this with rfl | rfl
  ·exact Bd1.mono (by decide)
  ·exact ⟨len32_of (by decide), len32_of (by decide)⟩)
 rw [hW, g113] at hrows hr
 obtain ⟨⟨kr, ys⟩, rfl, hys⟩ := rows1 hrows
 obtain ⟨y0, y1, y2, rfl, hy2⟩ := three hys
 refine mkcallE Try.func38 rfl rfl (Nat.le_of_ble_eq_true rfl) <| Rg 2 rfl <| Ua rfl rfl <| Ua rfl rfl <| Wn <| Rg 1 rfl <| Ua rfl rfl <| Wn <| WC.assoc <| Rg 3 rfl <| Um rfl rfl <| WO.U (cI 1 (oLenM rfl rfl) rfl) rfl <| Um rfl rfl <| Wn <| WC.block <| WC.unroll <| Rg 1 rfl <| WO.U (oLss rfl rfl) rfl <| WO.D (fun h22 => ?_) (fun h22 => ?_)
 rotate_left
 ·omega
 refine Wn <| WC.cT rfl <| WC.skips <| WC.block <| Rg 5 rfl <| Um rfl rfl <| WO.U (oIxM (f := fX) (us := [((1 : Nat), [p, q])]) (j := 0) rfl rfl rfl rfl rfl (by simp) rfl) rfl <| WO.U (OP.cast (b := .sl 1 ([p, q].map xc)) (oLd rfl rfl rfl) rfl) rfl <| Ua rfl rfl <| Ua rfl rfl <| Nw [(1, _), (2, _), (8, _), (9, _), (10, _), (19, _), (20, _), (21, _)] ⟨rfl, rfl, rfl, rfl, rfl, rfl, rfl, rfl, trivial⟩ <| WC.draw1z (z := 12) rfl (by kernel_rfl) <| Dm rfl rfl <| Dm rfl rfl <| WD.S (oCallO rfl hr1 (by first | exact dc | exact dc1 | (simp [-data_sl]; done) | simp)) rfl <| Dm rfl rfl <| Dm rfl rfl <| WD.U (oIxM (f := xc) (us := [s]) (j := 0) rfl rfl rfl rfl rfl (by simp) rfl) rfl <| WD.U (OP.cast (b := lvX s) (oLd (l := .agg [_, _, _, _]) rfl rfl rfl) rfl) rfl <| WD.U (oBs' (cs := [_, _, _, _]) (rows := [[_, _, _, _]]) rfl rfl (by decide) rfl rfl rfl) rfl <| WD.S (oApM (f := xc) (us := [p, q]) (u := s) rfl rfl rfl rfl rfl (fun _ => rfl) (by decide) g0 (by show (2 * (2 + 1) + 256) * 64 ≤ 2 ^ 48; decide) (by show 2 + 1 < 2 ^ 62; decide)) rfl <| WD.U (oBs' (cs := [_]) (rows := [[_]]) rfl rfl (by decide) rfl rfl rfl) rfl <| WD.S (oApN rfl rfl rfl rfl rfl (by decide) (by intro r hr; simp at hr; subst hr; rfl) (Nat.lt_succ_self 0) (by show (2 * 1 + 256) * 24 ≤ 2 ^ 48; decide) (by show 1 < 2 ^ 62; decide)) rfl ?_
 refine WD.U (oAs rfl) rfl <| WD.nil (drawOk_of (by kernel_rfl)) rfl <| after_normal <| WC.weak [(1, _), (2, _), (8, _), (19, _), (20, _), (21, _)] ⟨rfl, rfl, rfl, rfl, rfl, rfl, trivial⟩ <| WC.reg1z (z := 2) rfl <| WO.U (cI 1 (oAdd64 rfl rfl (by omega)) (by omega)) rfl <| Um rfl rfl <| Wn <| unr_normal <| WC.unroll <| Rg 1 rfl <| WO.U (oLss rfl rfl) rfl <| WO.D (fun h22 => ?_) (fun h22 => ?_)
 ·omega
 refine Wn <| WC.cF rfl <| WC.exits <| unr_exit <| after_exit rfl <| Rg 11 rfl <| Um rfl rfl <| Um rfl rfl <| WO.S (oCallF [.sl 1 ([((1 : Nat), [p, q, s])].map fX), .v (.int .i64 2)] [((0 + 2 + 1 + 3 + 1 + 5 + 10), { cells := [LV.ref (0 + 2 + 1 + 3 + 1 + 5 + 8) 4 0 3], sz := 1, elem := 75, st := 1 }), ((0 + 2 + 1 + 3 + 1 + 5 + 8), { cells := ([p, q, s].map xc).flatten, sz := 4, elem := 58, st := 1 })] rfl hr (.rows (f := xc) [((0 + 2 + 1 + 3 + 1 + 5 + 8), [p, q, s])] (by decide) (fun _ => rfl) dxc rfl (by simp [keys]) (by intro r hr; rw [List.mem_singleton] at hr; subst hr; exact ⟨rfl, by simp [keys]⟩) (.data (.v _) .nil)) (by intro r hr; rcases List.mem_cons.1 hr with hr | hr; subst hr; exact ⟨_, rfl, by show (0 : Nat) ≠ 2; decide, rfl⟩; rw [List.mem_singleton] at hr; subst hr; exact ⟨_, rfl, by show (0 : Nat) ≠ 2; decide, rfl⟩)) rfl <| Um rfl rfl <| WO.U (oEx rfl rfl) rfl <| WO.U (oEx rfl rfl) rfl <| WO.U (oEx rfl rfl) rfl <| WO.S (oAl rfl) rfl <| Ua rfl rfl <| Ua rfl rfl <| WO.S0 (oSt (cs' := [_, _, _, _]) rfl rfl rfl rfl rfl rfl rfl rfl) <| Nw [(2, _), (11, _), (12, _)] ⟨rfl, rfl, rfl, trivial⟩ <| WC.assoc <| Rg 6 rfl <| Um rfl rfl <| Um rfl rfl <| WO.U (cI 1 (oLenM rfl rfl) rfl) rfl ?_
 refine WO.U (OP.cast (b := .sl 1 []) (oSlLo (i := 1) rfl rfl rfl (rows_of (f := fX) (n := 1) (fun _ => rfl)) rfl rfl (by simp)) rfl) rfl <| WO.U (cI 0 (oLen rfl rfl) rfl) rfl <| Um rfl rfl <| Wn <| WC.block <| WC.unroll <| Rg 1 rfl <| WO.U (oLss rfl rfl) rfl <| WO.D (fun h51 => ?_) (fun h51 => ?_)
 ·omega
 refine Wn <| WC.cF rfl <| WC.exits <| unr_exit <| after_exit rfl <| Rg 3 rfl <| Um rfl rfl <| WO.S (oMk (a := 2) (b := 2) rfl rfl rfl rfl rfl rfl (by decide) (by decide) (by decide) (by decide)) rfl <| Ua rfl rfl <| Wn <| WC.assoc <| Rg 3 rfl <| Um rfl rfl <| WO.U (cI 1 (oLenM rfl rfl) rfl) rfl <| Um rfl rfl <| Nw [(2, _), (11, _), (12, _), (16, _), (63, _), (64, _), (65, _)] ⟨rfl, rfl, rfl, rfl, rfl, rfl, rfl, trivial⟩ <| WC.block <| WC.unroll <| Rg 1 rfl <| WO.U (oLss rfl rfl) rfl <| WO.D (fun h66 => ?_) (fun h66 => ?_)
 rotate_left
 ·omega
 refine Wn <| WC.cT rfl <| WC.skips <| WC.block <| Rg 5 rfl <| Um rfl rfl <| WO.U (oIxM (f := d64) (us := [0]) (j := 0) rfl rfl rfl rfl rfl (by simp) rfl) rfl <| WO.U (cI 0 (oLd rfl rfl rfl) rfl) rfl <| Ua rfl rfl <| Ua rfl rfl <| Wn <| WC.reg1z (z := 11) rfl <| Um rfl rfl <| Um rfl rfl <| Um rfl rfl <| Um rfl rfl <| WO.U (oIxM (f := fX) (us := [(kr, [y0, y1, y2])]) (j := 0) rfl rfl rfl rfl rfl (by simp) rfl) rfl <| WO.U (OP.cast (b := .sl kr ([y0, y1, y2].map xc)) (oLd rfl rfl rfl) rfl) rfl <| Um rfl rfl <| WO.U (oIxM (f := xc) (us := [y0, y1, y2]) (j := 2) rfl rfl rfl rfl rfl (by simp) rfl) rfl <| WO.U (OP.cast (b := lvX y2) (oLd (l := .agg [_, _, _, _]) rfl rfl rfl) rfl) rfl <| WO.U (oIxR (j := 0) rfl rfl rfl rfl (by omega) (by omega) rfl) rfl <| WO.S0 (oStO (f := xc) (us := [x0, x0]) (j := 0) y2 rfl rfl rfl g0 (fun _ => rfl) rfl rfl (by decide) rfl) <| WO.nil ?_
 refine after_normal <| WC.weak [(2, _), (11, _), (12, _), (16, _), (63, _), (64, _), (65, _)] ⟨rfl, rfl, rfl, rfl, rfl, rfl, rfl, trivial⟩ <| WC.reg1z (z := 2) rfl <| WO.U (cI 1 (oAdd64 rfl rfl (by omega)) (by omega)) rfl <| Um rfl rfl <| Wn <| unr_normal <| WC.unroll <| Rg 1 rfl <| WO.U (oLss rfl rfl) rfl <| WO.D (fun h66 => ?_) (fun h66 => ?_)
 ·omega
 refine Wn <| WC.cF rfl <| WC.exits <| unr_exit <| after_exit rfl <| WC.assoc <| Rg 4 rfl <| Um rfl rfl <| WO.U (cI 1 (oLenM rfl rfl) rfl) rfl <| Um rfl rfl <| WO.U (oLss rfl rfl) rfl <| WO.D (fun h84 => ?_) (fun h84 => ?_)
 rotate_left
 ·omega
 refine Wn <| WC.cT rfl <| WC.assoc <| Rg 3 rfl <| Um rfl rfl <| Ua rfl rfl <| Ua rfl rfl <| Nw [(6, _), (7, _)] ⟨rfl, rfl, trivial⟩ <| WC.rets <| ⟨.tup [.v (.int .i64 2), .sl 1 ([y2, x0].map xc)], ⟨[y2, x0], rfl, by simp [hy2]; rfl⟩, ?_⟩
 exact postA (n := 0) [((0 + 2 + 1 + 3 + 1 + 5 + 12 + 2 + 1 + 11 + 6 + 1 + 1), { cells := ([y2, x0].map xc).flatten, sz := 4, elem := 58, st := 1 })] (.inr rfl) rfl (.data (.v _) (.own (ob := { cells := ([y2, x0].map xc).flatten, sz := 4, elem := 58, st := 0 }) _ (by simp) g0 (by show (0 : Nat) ≠ 2; decide) rfl (by decide) (List.mem_singleton.2 rfl) rfl (rows_of (n := 4) (fun _ => rfl)) (data_of dxc) .nil)) (by intro p hp; rw [List.mem_singleton] at hp; subst hp; exact ⟨_, rfl, by show (0 : Nat) ≠ 2; decide, rfl⟩)
theorem v11 : VM [((1 : Nat), [wI 1, wI 1])] = true := by decide +kernel
theorem vb3 : VV [wI 3] = true := by decide +kernel
theorem i64w (ns : List Int) (h : ∀ n, n ∈ ns → I64 n) : IV (ns.map wI) := by
 intro a ha; obtain ⟨n, hn, rfl⟩ := List.mem_map.1 ha; exact ⟨h n hn, by show I64 1; unfold I64; omega⟩
theorem im11 : IM [((1 : Nat), [wI 1, wI 1])] := by
 intro r hr; rw [List.mem_singleton] at hr; subst hr
 exact i64w [1, 1] (by intro n hn; simp at hn; unfold I64; omega)
theorem nx_1 : (nx (wI 1)).1 = 1 := by decide +kernel
theorem nx_3 : (nx (wI 3)).1 = 3 := by decide +kernel
theorem nz11 : ∀ r : M1, r ∈ [((1 : Nat), [wI 1, wI 1])] → ∀ x, x ∈ r.2 → x.2 ≠ 0 := by
 intro r hr x hx; rw [List.mem_singleton] at hr; subst hr
 have : x = wI 1 := by simpa using hx
 subst this; decide
theorem outs30 {xs : List X} (h : xs.map (·.1) = [3, 0]) : (xs.mapM fun x => outN x.1) = some [wI 3, wI 0] := by
 have := mapM_map' outN (fun x : X => x.1) xs
 rw [← this, h]; decide +kernel
theorem sol1_run (k k2 k3 : Nat) : Run Try.prog T E0 (.call 10 [.sl k ([((1 : Nat), [wI 1, wI 1])].map fM), .sl k2 ([wI 3].map mc)] (.tup [.v (.int .i64 2), .sl 1 ([wI 3, wI 0].map mc), .v (.int .i64 0)])) := by
 obtain ⟨r, hr, xs, rfl, hxs⟩ := lin1_run 1 1 (nx (wI 1)) (nx (wI 1)) (nx (wI 3)) nx_1 nx_1 nx_3
 refine mkcall Try.func10 rfl rfl (Nat.le_of_ble_eq_true rfl) <| Rg 3 rfl <| Ua rfl rfl <| Ua rfl rfl <| Ua rfl rfl <| Wn <| WC.block <| Rg 9 rfl <| Um rfl rfl <| WO.U (OP.cast (b := .v (.bool true)) (oCall rfl (mvalid_run k [((1 : Nat), [wI 1, wI 1])] im11 (by simp) (by intro r hr; rw [List.mem_singleton] at hr; subst hr; simp)) (by first | exact dc | exact dc1 | (simp [-data_sl]; done) | simp)) (by rw [v11])) rfl <| WO.U (oNot rfl) rfl <| Um rfl rfl <| WO.Ug rfl (oMv rfl) rfl <| WO.Ug rfl (OP.cast (b := .v (.bool true)) (oCall rfl (vv_run k2 [wI 3] (i64w [3] (by intro n hn; simp at hn; unfold I64; omega)) (by simp)) (by first | exact dc | exact dc1 | (simp [-data_sl]; done) | simp)) (by rw [vb3])) rfl <| WO.Ug rfl (oNot rfl) rfl <| WO.U (oPkF rfl rfl) rfl <| Ua rfl rfl <| Wn <| WC.cF1 rfl <| Rg 6 rfl <| Um rfl rfl <| WO.U (cI 1 (oLenM rfl rfl) rfl) rfl <| Um rfl rfl <| WO.U (cI 1 (oLenM rfl rfl) rfl) rfl ?_
 refine WO.U (oNeq rfl rfl) rfl <| WO.D (fun h25 => ?_) (fun h25 => ?_)
 ·exact absurd rfl h25
 refine Ua rfl rfl <| Nw [(0, _), (1, _), (20, _)] ⟨rfl, rfl, rfl, trivial⟩ <| WC.cF1 rfl <| WC.skip <| after_normal <| Rg 12 rfl <| Um rfl rfl <| WO.U (OP.cast (b := .sl 1 ([((1 : Nat), [nx (wI 1), nx (wI 1)])].map fX)) (oCall rfl (mrats_run k [((1 : Nat), [wI 1, wI 1])] (by simp) im11 nz11 (by intro r hr; rw [List.mem_singleton] at hr; subst hr; simp)) (by first | exact dc | exact dc1 | (simp [-data_sl]; done) | simp)) rfl) rfl <| Um rfl rfl <| WO.U (OP.cast (b := .sl 1 ([nx (wI 3)].map xc)) (oCall rfl (nrats_run k2 [wI 3] (by simp) (i64w [3] (by intro n hn; simp at hn; unfold I64; omega)) (by intro x hx; rw [List.mem_singleton] at hx; subst hx; decide)) (by first | exact dc | exact dc1 | (simp [-data_sl]; done) | simp)) rfl) rfl <| Um rfl rfl <| WO.U (cI 2 (oCall rfl (mwidth_run k [((1 : Nat), [wI 1, wI 1])]) (by first | exact dc | exact dc1 | (simp [-data_sl]; done) | simp)) rfl) rfl <| WO.U (oCall rfl (hr) (by first | exact dc | exact dc1 | (simp [-data_sl]; done) | simp)) rfl <| Um rfl rfl <| WO.U (oEx rfl rfl) rfl <| WO.U (oEx rfl rfl) rfl <| Ua rfl rfl <| Ua rfl rfl <| Nw [(7, _), (8, _)] ⟨rfl, rfl, trivial⟩ <| Rg 7 rfl <| Um rfl rfl <| WO.U (OP.cast (b := .tup [.sl 1 ([wI 3, wI 0].map mc), .v (.int .i64 0)]) (oCall rfl (nouts_run 1 xs (by have := congrArg List.length hxs; simp at this; omega)) (by first | exact dc | exact dc1 | (simp [-data_sl]; done) | simp)) (by rw [outs30 hxs]; rfl)) rfl ?_
 refine Um rfl rfl <| WO.U (oEx rfl rfl) rfl <| WO.U (oEx rfl rfl) rfl <| Ua rfl rfl <| Ua rfl rfl <| Wn <| WC.assoc <| Rg 2 rfl <| Um rfl rfl <| WO.U (oNeq rfl rfl) rfl <| WO.D (fun h42 => ?_) (fun h42 => ?_)
 ·exact absurd rfl h42
 refine Wn <| WC.cF rfl <| WC.skips <| Rg 5 rfl <| Um rfl rfl <| Um rfl rfl <| Ua rfl rfl <| Ua rfl rfl <| Ua rfl rfl <| Nw [(4, _), (5, _), (6, _)] ⟨rfl, rfl, rfl, trivial⟩ <| WC.ret <| post (n := 0) (.inr rfl) rfl ?_ (by first | exact dc | exact dc1 | (simp [-data_sl]; done) | simp)
 rfl
theorem red1 : lvRed [(1, [wI 2, wI 4, wI 6]), (1, [wI 1, wI 2, wI 4])] = .tup [.sl 1 ([(1, [wI 1, wI 2, wI 0]), (1, [wI 0, wI 0, wI 1])].map fM), .v (.int .i64 0)] := by
 have h1 : VM [(1, [wI 2, wI 4, wI 6]), (1, [wI 1, wI 2, wI 4])] = true := by decide +kernel
 have h2 : redO [(1, [wI 2, wI 4, wI 6]), (1, [wI 1, wI 2, wI 4])] = some [[wI 1, wI 2, wI 0], [wI 0, wI 0, wI 1]] := by decide +kernel
 rw [lvRed_ok h1, h2]; rfl
theorem imEx : IM [(1, [wI 2, wI 4, wI 6]), (1, [wI 1, wI 2, wI 4])] := by
 intro r hr
 rcases List.mem_cons.1 hr with rfl | hr
 ·exact i64w [2, 4, 6] (by intro n hn; simp at hn; unfold I64; omega)
 ·rw [List.mem_singleton] at hr; subst hr; exact i64w [1, 2, 4] (by intro n hn; simp at hn; unfold I64; omega)
theorem f8Ex : Few8 [(1, [wI 2, wI 4, wI 6]), (1, [wI 1, wI 2, wI 4])] := few8 (by decide +kernel)
theorem awake_run  : Run Try.prog T E0 (.call 5 [] (.v (.bool true))) := by
 refine mkcall Try.func5 rfl rfl (Nat.le_of_ble_eq_true rfl) <| Rg 1 rfl <| Ua rfl rfl <| Wn <| Rg 11 rfl <| WO.U (oBs' (cs := [_, _, _]) (rows := [[_], [_], [_]]) rfl rfl (by decide) rfl rfl rfl) rfl <| WO.U (OP.cast (b := .sl 1 ([wI 2, wI 4, wI 6].map mc)) (oCall rfl (wholes_run 2 [2, 4, 6] (by simp)) (by first | exact dc | exact dc1 | (simp [-data_sl]; done) | simp)) rfl) rfl <| WO.U (oBs' (cs := [_, _, _]) (rows := [[_], [_], [_]]) rfl rfl (by decide) rfl rfl rfl) rfl <| WO.U (OP.cast (b := .sl 1 ([wI 1, wI 2, wI 4].map mc)) (oCall rfl (wholes_run 2 [1, 2, 4] (by simp)) (by first | exact dc | exact dc1 | (simp [-data_sl]; done) | simp)) rfl) rfl <| WO.U (OP.cast (b := .sl 2 ([(1, [wI 2, wI 4, wI 6]), (1, [wI 1, wI 2, wI 4])].map fM)) (oBs' (cs := [_, _]) (rows := [[_], [_]]) rfl rfl (by decide) rfl rfl rfl) rfl) rfl <| WO.U (OP.cast (b := .tup [.sl 1 ([(1, [wI 1, wI 2, wI 0]), (1, [wI 0, wI 0, wI 1])].map fM), .v (.int .i64 0)]) (oCall rfl (mreduce_run 2 [(1, [wI 2, wI 4, wI 6]), (1, [wI 1, wI 2, wI 4])] imEx f8Ex (by decide)) (by first | exact dc | exact dc1 | (simp [-data_sl]; done) | simp)) red1) rfl <| Um rfl rfl <| WO.U (oEx rfl rfl) rfl <| WO.U (oEx rfl rfl) rfl <| Ua rfl rfl <| Ua rfl rfl <| Wn <| Rg 13 rfl <| WO.U (oBs' (cs := [_, _]) (rows := [[_], [_]]) rfl rfl (by decide) rfl rfl rfl) rfl <| WO.U (OP.cast (b := .sl 1 ([wI 1, wI 1].map mc)) (oCall rfl (wholes_run 2 [1, 1] (by simp)) (by first | exact dc | exact dc1 | (simp [-data_sl]; done) | simp)) rfl) rfl <| WO.U (OP.cast (b := .sl 2 ([((1 : Nat), [wI 1, wI 1])].map fM)) (oBs' (cs := [_]) (rows := [[_]]) rfl rfl (by decide) rfl rfl rfl) rfl) rfl <| WO.U (oBs' (cs := [_]) (rows := [[_]]) rfl rfl (by decide) rfl rfl rfl) rfl <| WO.U (OP.cast (b := .sl 1 ([wI 3].map mc)) (oCall rfl (wholes_run 2 [3] (by simp)) (by first | exact dc | exact dc1 | (simp [-data_sl]; done) | simp)) rfl) rfl <| WO.U (oCall rfl (sol1_run 2 1 0) (by first | exact dc | exact dc1 | (simp [-data_sl]; done) | simp)) rfl ?_
 refine Um rfl rfl <| WO.U (oEx rfl rfl) rfl <| WO.U (oEx rfl rfl) rfl <| WO.U (oEx rfl rfl) rfl <| Ua rfl rfl <| Ua rfl rfl <| Ua rfl rfl <| Nw [(1, _), (2, _), (3, _), (4, _), (5, _)] ⟨rfl, rfl, rfl, rfl, rfl, trivial⟩ <| Rg 26 rfl <| Um rfl rfl <| WO.U (oEql rfl rfl) rfl <| WO.D (fun h26 => ?_) (fun h26 => ?_)
 rotate_left
 ·exact absurd rfl h26
 refine Um rfl rfl <| WO.Ug rfl (oMv rfl) rfl <| WO.Ug rfl (oBs' (cs := [_, _, _]) (rows := [[_], [_], [_]]) rfl rfl (by decide) rfl rfl rfl) rfl <| WO.Ug rfl (OP.cast (b := .sl 1 ([wI 1, wI 2, wI 0].map mc)) (oCall rfl (wholes_run 2 [1, 2, 0] (by simp)) (by first | exact dc | exact dc1 | (simp [-data_sl]; done) | simp)) rfl) rfl <| WO.Ug rfl (oBs' (cs := [_, _, _]) (rows := [[_], [_], [_]]) rfl rfl (by decide) rfl rfl rfl) rfl <| WO.Ug rfl (OP.cast (b := .sl 1 ([wI 0, wI 0, wI 1].map mc)) (oCall rfl (wholes_run 2 [0, 0, 1] (by simp)) (by first | exact dc | exact dc1 | (simp [-data_sl]; done) | simp)) rfl) rfl <| WO.Ug rfl (OP.cast (b := .sl 2 ([(1, [wI 1, wI 2, wI 0]), (1, [wI 0, wI 0, wI 1])].map fM)) (oBs' (cs := [_, _]) (rows := [[_], [_]]) rfl rfl (by decide) rfl rfl rfl) rfl) rfl <| WO.Ug rfl (oCall rfl (msame_run 1 2 [(1, [wI 1, wI 2, wI 0]), (1, [wI 0, wI 0, wI 1])] (by decide) (by intro r hr; simp at hr; rcases hr with rfl | rfl <;> decide)) (by first | exact dc | exact dc1 | (simp [-data_sl]; done) | simp)) rfl <| WO.U (oPkT rfl rfl) rfl <| Um rfl rfl <| WO.Ug rfl (oMv rfl) rfl <| WO.Ug rfl (oEql rfl rfl) rfl <| WO.D (fun h38 => ?_) (fun h38 => ?_)
 rotate_left
 ·exact absurd rfl h38
 refine WO.U (oPkT rfl rfl) rfl <| Um rfl rfl <| WO.Ug rfl (oMv rfl) rfl <| WO.Ug rfl (oEql rfl rfl) rfl <| WO.D (fun h42 => ?_) (fun h42 => ?_)
 rotate_left
 ·exact absurd rfl h42
 refine WO.U (oPkT rfl rfl) rfl <| Um rfl rfl <| WO.Ug rfl (oMv rfl) rfl <| WO.Ug rfl (oBs' (cs := [_, _]) (rows := [[_], [_]]) rfl rfl (by decide) rfl rfl rfl) rfl <| WO.Ug rfl (OP.cast (b := .sl 1 ([wI 3, wI 0].map mc)) (oCall rfl (wholes_run 2 [3, 0] (by simp)) (by first | exact dc | exact dc1 | (simp [-data_sl]; done) | simp)) rfl) rfl <| WO.Ug rfl (oCall rfl (nsame_run 1 1 [wI 3, wI 0] (by decide)) (by first | exact dc | exact dc1 | (simp [-data_sl]; done) | simp)) rfl <| WO.U (oPkT rfl rfl) rfl <| Ua rfl rfl <| Nw [(0, _)] ⟨rfl, trivial⟩ <| WC.ret <| post (n := 0) (.inr rfl) rfl ?_ (by first | exact dc | exact dc1 | (simp [-data_sl]; done) | simp)
 rfl
end Go.Proofs.Ytcmieifjephdcaa
set_option linter.unusedVariables false
set_option linter.unusedSimpArgs false
set_option maxRecDepth 100000
set_option maxHeartbeats 8000000
namespace Go.Proofs.Ytcmieifjephdcaa
open Go.Ab Go.RowKit
theorem clone1_nil  : Run Try.prog T E0 (.call 35 [.sl 0 []] (.sl 0 [])) := by
 refine mkcall Try.func35 rfl rfl (Nat.le_of_ble_eq_true rfl) <| Rg 1 rfl <| Ua rfl rfl <| Wn <| WC.assoc <| Rg 2 rfl <| Um rfl rfl <| WO.U (oNilE rfl rfl) rfl <| Wn <| WC.cT rfl <| WC.assoc <| Rg 1 rfl <| Ua rfl rfl <| Wn <| WC.rets ?_
 exact post (n := 0) (.inr rfl) rfl rfl (by simp)
end Go.Proofs.Ytcmieifjephdcaa
set_option linter.unusedVariables false
set_option linter.unusedSimpArgs false
set_option maxRecDepth 100000
set_option maxHeartbeats 8000000
namespace Go.Proofs.Ytcmieifjephdcaa
open Go.Ab Go.RowKit
theorem msquare_run (k : Nat) (a : List M1) : Run Try.prog T E0 (.call 24 [.sl k (a.map fM)] (.v (.bool (sqb a)))) := by
 refine mkcall Try.func24 rfl rfl (Nat.le_of_ble_eq_true rfl) <| Rg 1 rfl <| Ua rfl rfl <| Wn <| Rg 11 rfl <| Um rfl rfl <| WO.U (oLenM rfl rfl) rfl <| WO.U (oEql rfl rfl) rfl <| WO.D (fun h5 => ?_) (fun h5 => ?_)
 ·refine Um rfl rfl <| WO.K rfl rfl <| WO.K rfl rfl <| WO.K rfl rfl <| WO.K rfl rfl <| WO.K rfl rfl <| WO.U (oPkT rfl rfl) rfl <| Ua rfl rfl <| Wn <| WC.ret <| post (n := 0) (.inr rfl) rfl ?_ (by first | exact dc | exact dc1 | (simp [-data_sl]; done) | simp)
  exact congrArg (fun z => LV.v (.bool z)) (show true = sqb a by unfold sqb; rw [decide_eq_true (by omega)]; rfl)
 refine Um rfl rfl <| WO.Ug rfl (oMv rfl) rfl <| WO.Ug rfl (oCall rfl (mwidth_run k a) (by first | exact dc | exact dc1 | (simp [-data_sl]; done) | simp)) rfl <| WO.Ug rfl (oMv rfl) rfl <| WO.Ug rfl (oLenM rfl rfl) rfl <| WO.Ug rfl (oEql rfl rfl) rfl <| WO.U (oPkF rfl rfl) rfl <| Ua rfl rfl <| Wn <| WC.ret <| post (n := 0) (.inr rfl) rfl ?_ (by first | exact dc | exact dc1 | (simp [-data_sl]; done) | simp)
 refine congrArg (fun z => LV.v (.bool z)) (?_ : _ = sqb a)
 unfold sqb; rw [decide_eq_false (show ¬ a.length = 0 by omega), Bool.false_or]; exact decide_eq_decide.2 (by omega)
theorem mone_run (m : Nat) (lm : m < 100000) : Run Try.prog T E0 (.call 34 [.v (.int .i64 (m : Int))] (.sl 1 (((List.range m).map fun i => (((1 : Nat), uX m i) : X1)).map fX))) := by
 refine mkcall Try.func34 rfl rfl (Nat.le_of_ble_eq_true rfl) <| Rg 1 rfl <| Ua rfl rfl <| Wn <| Rg 3 rfl <| Um rfl rfl <| WO.S (oMk (a := m) (b := m) rfl rfl rfl rfl (by omega) (by omega) (by decide) (by omega) (by show 24 * m ≤ _; omega) (by omega)) rfl <| Ua rfl rfl <| Wn <| WC.assoc <| Rg 2 rfl <| Um rfl rfl <| Um rfl rfl <| Wn <| WC.block <| WC.loopV (α := Nat × (List LV)) (fun ⟨i, cs⟩ => [(0, .v (.int .i64 (m : Int))), (3, .ref 2 1 0 m), (7, .v (.int .i64 (m : Int))), (8, .v (.int .i64 (i : Int)))]) (fun ⟨i, cs⟩ => [(2, { cells := (cs.map one1).flatten, sz := 1, elem := 75, st := 0 })]) (fun ⟨i, cs⟩ n => i ≤ m ∧ cs.length = m ∧ (∀ j, j < i → cs.getD j default = .sl 1 ((uX m j).map xc)) ∧ 2 < n) (fun ⟨i, cs⟩ => m - i) (0, List.replicate m (.sl 0 [])) ⟨rfl, rfl, rfl, rfl, trivial⟩ ⟨g0.trans (by rw [List.map_replicate]; rfl), trivial⟩ ⟨Nat.zero_le _, by simp, by intro j hj; omega, by omega⟩ ?_
 rintro ⟨i, cs⟩ n hF
 change WC _ _ _ _ _ [(0, .v (.int .i64 (m : Int))), (3, .ref 2 1 0 m), (7, .v (.int .i64 (m : Int))), (8, .v (.int .i64 (i : Int)))] ([(2, { cells := (cs.map one1).flatten, sz := 1, elem := 75, st := 0 })]) n _
 obtain ⟨hi, hcl, hcs, hn⟩ := hF
 refine Rg 1 rfl <| WO.U (oLss rfl rfl) rfl <| WO.D (fun h9 => ?_) (fun h9 => ?_)
 rotate_left
 ·refine Wn <| WC.cF rfl <| WC.exits <| loopR_exit <| after_exit rfl <| Rg 2 rfl <| Um rfl rfl <| Ua rfl rfl <| Wn <| WC.ret ?_
  have hcs' : cs = (List.range m).map fun i => .sl 1 ((uX m i).map xc) := by
   refine glist_eq (by simp [hcl]) fun j hj => ?_
   rw [hcs j (by omega), range_getD (by omega)]
  refine postRef (n := 0) _ (.inr rfl) rfl (by simp) g0 (by show (0 : Nat) ≠ 2; decide) rfl (by decide) ?_ (rows_of (n := 1) (fun _ => rfl)) (data_of dfX)
  rw [hcs', List.map_map, List.map_map]; rfl
 refine Wn <| WC.cT rfl <| WC.skips <| WC.block <| Rg 2 rfl <| Um rfl rfl <| Ua rfl rfl <| Wn <| Rg 6 rfl <| Um rfl rfl <| Um rfl rfl <| Um rfl rfl <| WO.S (oMk (a := m) (b := m) rfl rfl rfl rfl (by omega) (by omega) (by decide) (by omega) (by show 64 * m ≤ _; omega) (by omega)) rfl <| WO.U (oIxR rfl rfl rfl rfl rfl (by omega) rfl) rfl <| WO.S0 (oStO (f := one1) (us := cs) (.ref (n + 1 + 2 + 3) 4 0 m) rfl rfl rfl (g1 (by omega) g0) (fun _ => rfl) rfl rfl (by omega) rfl) <| Wn <| WC.draw1z (z := 8) rfl (by kernel_rfl) <| Dm rfl rfl <| Dm rfl rfl <| WD.U (oIxR rfl rfl rfl rfl rfl (by omega) rfl) rfl <| WD.U (OP.cast (b := .ref (n + 1 + 2 + 3) 4 0 m) (oLdO (f := one1) (us := cs.set i (.ref (n + 1 + 2 + 3) 4 0 m)) (j := i) rfl rfl g0 (fun _ => rfl) rfl (by decide) (by rw [List.length_set]; omega) rfl) (by rw [gset_getD (by omega), if_pos rfl])) rfl <| Dm rfl rfl <| WD.U (oCall rfl (whole_run 1 (by unfold I64; omega)) (by first | exact dc | exact dc1 | (simp [-data_sl]; done) | simp)) rfl <| WD.U (oIxR rfl rfl rfl rfl rfl (by omega) rfl) rfl ?_
 refine WD.S0 (oStO (f := xc) (us := List.replicate m x0) (xint 1) rfl rfl rfl (g1 (by omega) (g0.trans (by rw [List.map_replicate]; rfl))) (fun _ => rfl) rfl rfl (by rw [List.length_replicate]; omega) rfl) <| WD.nil (drawOk_of (by kernel_rfl)) rfl <| after_normal <| WC.weak [(0, _), (3, _), (7, _), (8, _)] ⟨rfl, rfl, rfl, rfl, trivial⟩ ?_
 have hux : (uX m i).map xc ≠ [] := by intro h; have := congrArg List.length h; rw [List.length_map, uX_len] at this; simp at this; omega
 refine WC.weakM (outH (n + 1 + 2 + 3) 4 58 ((uX m i).map xc) [(2, { cells := ((cs.set i (.ref (n + 1 + 2 + 3) 4 0 m)).map one1).flatten, sz := 1, elem := 75, st := 0 })]) (subsM_mk (fun _ => g0) (g1 (by omega) g0)) <| WC.reg1F (z := 2) rfl <| WO.U (cI (((i + 1 : Nat) : Int)) (oAdd64 rfl rfl (by omega)) (by omega)) rfl <| Um rfl rfl <| Wn <| Fz.cell (j := i) (q := n + 1 + 2 + 3) (us := (uX m i).map xc) [(0, _), (3, _), (7, _), (8, _)] ⟨rfl, rfl, rfl, rfl, trivial⟩ (by rw [List.length_set]; omega) (by rw [gset_getD (by omega), if_pos rfl, outV_ne hux, List.length_map, uX_len]) (by omega) (by decide) (rows_of (n := 4) (fun _ => rfl)) (data_of dxc) ?_
 rw [outR_kd]
 refine loopR_normal <| ⟨⟨i + 1, (cs.set i (.ref (n + 1 + 2 + 3) 4 0 m)).set i (.sl (kd (uX m i).length) ((uX m i).map xc))⟩, ⟨rfl, rfl, rfl, rfl, trivial⟩, ⟨g0, trivial⟩, ⟨by omega, by rw [List.length_set, List.length_set]; exact hcl, ?_, by omega⟩, by show m - (i + 1) < m - i; omega⟩
 intro j hj
 rw [gset_getD (by rw [List.length_set]; omega)]
 by_cases e : i = j
 ·subst e; rw [if_pos rfl, uX_len, kd, if_neg (by omega)]
 ·rw [if_neg e, gset_getD (by omega), if_neg e]; exact hcs j (by omega)
end Go.Proofs.Ytcmieifjephdcaa
set_option linter.unusedVariables false
set_option linter.unusedSimpArgs false
set_option maxRecDepth 100000
set_option maxHeartbeats 16000000
namespace Go.Proofs.Ytcmieifjephdcaa
open Go.Ab Go.RowKit
theorem mreduced_wcB (rows0 : List X1) (cols w : Nat) (hne : 0 < rows0.length) (ln : rows0.length < 1000000) (hw : Wid w (vX rows0)) (hcw : cols ≤ w) (lw : w < 1000000) (β : Nat) (hβ : β ≤ 268435456) (hgb : GB (vX rows0) cols β) : WC Try.prog T E0 Try.f25.ntmps (codeOf Try.f25) (argsEnv 0 [.sl 1 (rows0.map fX), .v (.int .i64 (cols : Int))]) [] 0 (fun x e h n => (x = .normal ∨ x = .ret) ∧ ∃ (q : Nat) (rows : List X1) (d : X), vX rows = (gjn (vX rows0) cols).1 ∧ d.1 = gjd (vX rows0) cols ∧ resE e T h Try.f25.results.toList = some [.ref 4 1 0 rows.length, outV q 1 ((gjn (vX rows0) cols).2.map d64), lvX d] ∧ getH h 4 = some { cells := (rows.map fX).flatten, sz := 1, elem := 75, st := 0 } ∧ ((gjn (vX rows0) cols).2.map d64 ≠ [] → getH h q = some { cells := ((gjn (vX rows0) cols).2.map d64).flatten, sz := 1, elem := 3, st := 0 })) := by
 obtain ⟨_, _, _, hr1, rfl, rfl, rfl⟩ := clone_own rows0 hne (by omega)
 refine Rg 3 rfl <| Ua rfl rfl <| Ua rfl rfl <| WO.S (oAl rfl) rfl <| Wn <| Rg 3 rfl <| Um rfl rfl <| WO.S (oCallO rfl hr1 (by first | (simp [-data_sl]; done) | simp)) rfl <| Ua rfl rfl <| Wn <| Rg 3 rfl <| WO.U (oCall rfl (whole_run 1 (by unfold I64; omega)) (by first | (simp [-data_sl]; done) | simp)) rfl <| WO.S (oAl rfl) rfl <| WO.S0 (oSt (cs' := [_, _, _, _]) rfl rfl rfl rfl rfl rfl rfl rfl) <| Wn <| Rg 1 rfl <| Ua rfl rfl <| Wn <| WC.assoc <| Rg 2 rfl <| Um rfl rfl <| Um rfl rfl <| Wn <| WC.block ?_
 refine WC.loopV (α := Nat × Nat × (List X1) × (List Nat) × X) (fun ⟨c, q, rows, leads, d⟩ => [(6, .ptr (0 + (0 + 1 + 1)) 0), (7, .ref (0 + 3 + 1) 1 0 rows.length), (8, .ptr (0 + 3 + 3 + 1) 0), (9, outV q 1 (leads.map d64)), (18, .v (.int .i64 (cols : Int))), (19, .v (.int .i64 (c : Int)))]) (fun ⟨c, q, rows, leads, d⟩ => outH q 1 3 (leads.map d64) [((0 + 3 + 1), { cells := (rows.map fX).flatten, sz := 1, elem := 75, st := 0 }), ((0 + 3 + 3 + 1), { cells := xc d, sz := 4, elem := 58, st := 0 }), (2, { cells := [.v (.int .i64 0), .sl 0 [], .v (.int .i64 0), .sl 0 []], sz := 4, elem := 58, st := 0 })]) (fun ⟨c, q, rows, leads, d⟩ n => c ≤ cols ∧ vX rows = (gjn (vX rows0) c).1 ∧ leads = (gjn (vX rows0) c).2 ∧ 8 ≤ q ∧ q < n ∧ d.1 = gjd (vX rows0) c) (fun ⟨c, q, rows, leads, d⟩ => cols - c) (0, 8, rows0, [], xint 1) ⟨rfl, rfl, rfl, rfl, rfl, rfl, trivial⟩ ⟨rfl, rfl, rfl, trivial⟩ ⟨Nat.zero_le _, rfl, rfl, by omega, by omega, rfl⟩ ?_
 rintro ⟨c, q, rows, leads, d⟩ n hF
 change WC _ _ _ _ _ [(6, .ptr (0 + (0 + 1 + 1)) 0), (7, .ref (0 + 3 + 1) 1 0 rows.length), (8, .ptr (0 + 3 + 3 + 1) 0), (9, outV q 1 (leads.map d64)), (18, .v (.int .i64 (cols : Int))), (19, .v (.int .i64 (c : Int)))] (outH q 1 3 (leads.map d64) [((0 + 3 + 1), { cells := (rows.map fX).flatten, sz := 1, elem := 75, st := 0 }), ((0 + 3 + 3 + 1), { cells := xc d, sz := 4, elem := 58, st := 0 }), (2, { cells := [.v (.int .i64 0), .sl 0 [], .v (.int .i64 0), .sl 0 []], sz := 4, elem := 58, st := 0 })]) n _
 obtain ⟨hc, hv, hld, hq5, hqn, hdv⟩ := hF
 have GI := hgb.all hw hcw c hc
 have hrl0 : rows.length = rows0.length := by rw [← vX_len rows, hv, gjn_len, vX_len]
 have hll : leads.length ≤ rows.length := by have := GI.led; rw [vX_len] at this; rw [hld]; omega
 have hwid : ∀ i, i < rows.length → (rows.getD i default).2.length = w := by
  intro i hi
  have := GI.wid.row (i := i) (by rw [← hv, vX_len]; exact hi)
  rw [← hv, vX_getD] at this
  simpa using this
 refine Rg 1 rfl <| WO.U (oLss rfl rfl) rfl <| WO.D (fun h20 => ?_) (fun h20 => ?_)
 rotate_left
 ·refine Wn <| WC.cF rfl <| WC.exits <| loopR_exit <| after_exit rfl <| WC.draw (z := 6) rfl (by kernel_rfl) <| Dm rfl rfl <| Dm rfl rfl <| WD.U (oLdP (l := .agg [_, _, _, _]) rfl rfl (outH_get (by omega) (g1 (by decide) g0)) rfl rfl) rfl <| WD.U (oAs rfl) rfl <| WD.U (oAs rfl) rfl <| WD.S0 (oSt (cs' := [_, _, _, _]) rfl rfl rfl (outH_get (by omega) (g1 (by decide) (g1 (by decide) g0))) rfl rfl rfl rfl) <| WD.nil (drawOk_of (by kernel_rfl)) rfl <| WC.ret ?_
  have hcc : c = cols := by omega
  subst hcc
  refine ⟨.inr rfl, q, rows, d, hv, hdv, ?_, g1 (by decide) (outH_get (by omega) g0), ?_⟩
  ·rw [← hld]; rfl
  ·rw [← hld]; exact fun hu => g1 (by omega) (outH_self hu)
 refine Wn <| WC.cT rfl <| WC.skips <| WC.block <| Rg 2 rfl <| Um rfl rfl <| Ua rfl rfl <| Wn <| Rg 3 rfl <| Um rfl rfl <| WO.U (oLenO rfl rfl) rfl <| Ua rfl rfl <| Wn <| Rg 2 rfl <| Um rfl rfl <| Ua rfl rfl <| Wn <| WC.block <| WC.loopV (α := Nat) (fun a => [(6, .ptr (0 + (0 + 1 + 1)) 0), (7, .ref (0 + 3 + 1) 1 0 rows.length), (8, .ptr (0 + 3 + 3 + 1) 0), (9, outV q 1 (leads.map d64)), (10, .v (.int .i64 (c : Int))), (11, .v (.int .i64 (leads.length : Int))), (12, .v (.int .i64 (a : Int))), (18, .v (.int .i64 (cols : Int))), (19, .v (.int .i64 (c : Int)))]) (fun a => outH q 1 3 (leads.map d64) [((0 + 3 + 1), { cells := (rows.map fX).flatten, sz := 1, elem := 75, st := 0 }), ((0 + 3 + 3 + 1), { cells := xc d, sz := 4, elem := 58, st := 0 }), (2, { cells := [.v (.int .i64 0), .sl 0 [], .v (.int .i64 0), .sl 0 []], sz := 4, elem := 58, st := 0 })]) (fun a n => leads.length ≤ a ∧ a ≤ rows.length ∧ (∀ k, leads.length ≤ k → k < a → ent (vX rows) k c = 0) ∧ q < n) (fun a => rows.length - a) (leads.length) ⟨rfl, rfl, rfl, rfl, rfl, rfl, rfl, rfl, rfl, trivial⟩ (subsM_mk3 outH_self (outH_get (by omega) g0) (outH_get (by omega) (g1 (by decide) g0)) (outH_get (by omega) (g1 (by decide) (g1 (by decide) g0)))) ⟨Nat.le_refl _, hll, by intro k h1 h2; omega, by omega⟩ ?_
 rintro a n hG
 change WC _ _ _ _ _ [(6, .ptr (0 + (0 + 1 + 1)) 0), (7, .ref (0 + 3 + 1) 1 0 rows.length), (8, .ptr (0 + 3 + 3 + 1) 0), (9, outV q 1 (leads.map d64)), (10, .v (.int .i64 (c : Int))), (11, .v (.int .i64 (leads.length : Int))), (12, .v (.int .i64 (a : Int))), (18, .v (.int .i64 (cols : Int))), (19, .v (.int .i64 (c : Int)))] (outH q 1 3 (leads.map d64) [((0 + 3 + 1), { cells := (rows.map fX).flatten, sz := 1, elem := 75, st := 0 }), ((0 + 3 + 3 + 1), { cells := xc d, sz := 4, elem := 58, st := 0 }), (2, { cells := [.v (.int .i64 0), .sl 0 [], .v (.int .i64 0), .sl 0 []], sz := 4, elem := 58, st := 0 })]) n _
 obtain ⟨hle1, hle2, hz, hqn2⟩ := hG
 refine WC.assoc <| Rg 15 rfl <| Um rfl rfl <| Um rfl rfl <| WO.U (oLenR rfl rfl) rfl <| WO.U (oLss rfl rfl) rfl <| WO.D (fun h28 => ?_) (fun h28 => ?_)
 rotate_left
 ·refine Um rfl rfl <| WO.K rfl rfl <| WO.K rfl rfl <| WO.K rfl rfl <| WO.K rfl rfl <| WO.K rfl rfl <| WO.K rfl rfl <| WO.K rfl rfl <| WO.K rfl rfl <| WO.K rfl rfl <| WO.U (oPkF rfl rfl) rfl <| Nw [(6, _), (7, _), (8, _), (9, _), (10, _), (11, _), (12, _), (18, _), (19, _), (30, _), (31, _), (32, _), (33, _), (34, _), (35, _), (36, _), (37, _), (38, _), (39, _)] ⟨rfl, rfl, rfl, rfl, rfl, rfl, rfl, rfl, rfl, rfl, rfl, rfl, rfl, rfl, rfl, rfl, rfl, rfl, rfl, trivial⟩ <| WC.cF rfl <| WC.exits <| loopR_exit <| after_exit rfl <| WC.weak [(6, _), (7, _), (8, _), (9, _), (10, _), (11, _), (12, _), (18, _), (19, _), (30, _), (31, _), (32, _), (33, _), (34, _), (35, _), (36, _), (37, _), (38, _)] ⟨rfl, rfl, rfl, rfl, rfl, rfl, rfl, rfl, rfl, rfl, rfl, rfl, rfl, rfl, rfl, rfl, rfl, rfl, trivial⟩ <| WC.assoc <| Rg 4 rfl <| Um rfl rfl <| Um rfl rfl <| WO.U (oLenR rfl rfl) rfl <| WO.U (oEql rfl rfl) rfl ?_
  refine WO.D (fun h45 => ?_) (fun h45 => ?_)
  rotate_left
  ·omega
  refine Nw [(6, _), (7, _), (8, _), (9, _), (10, _), (11, _), (12, _), (18, _), (19, _), (30, _), (31, _), (32, _), (33, _), (34, _), (35, _), (36, _), (37, _), (38, _), (45, _)] ⟨rfl, rfl, rfl, rfl, rfl, rfl, rfl, rfl, rfl, rfl, rfl, rfl, rfl, rfl, rfl, rfl, rfl, rfl, rfl, trivial⟩ <| WC.cT rfl <| WC.exits <| after_exit rfl <| WC.weak [(6, _), (7, _), (8, _), (9, _), (18, _), (19, _), (30, _), (31, _), (32, _), (33, _), (34, _), (35, _), (36, _), (37, _), (38, _)] ⟨rfl, rfl, rfl, rfl, rfl, rfl, rfl, rfl, rfl, rfl, rfl, rfl, rfl, rfl, rfl, trivial⟩ <| WC.reg1z (z := 2) rfl <| WO.U (cI (((c + 1 : Nat) : Int)) (oAdd64 rfl rfl (by omega)) (by omega)) rfl <| Um rfl rfl <| Wn <| loopR_normal ?_
  have hpv : pivot (vX rows) leads.length c = a := pivot_eq hle1 (by rw [vX_len]; exact hle2) hz (.inl (by rw [vX_len]; omega))
  have hpn : pivot (gjn (vX rows0) c).1 (gjn (vX rows0) c).2.length c = (gjn (vX rows0) c).1.length := by rw [← hv, ← hld, hpv, vX_len]; omega
  refine ⟨⟨c + 1, q, rows, leads, d⟩, ⟨rfl, rfl, rfl, rfl, rfl, rfl, trivial⟩, (subsM_mk3 outH_self (outH_get (by omega) g0) (outH_get (by omega) (g1 (by decide) g0)) (outH_get (by omega) (g1 (by decide) (g1 (by decide) g0)))), ⟨by omega, by rw [gjn_no hpn]; exact hv, by rw [gjn_no hpn]; exact hld, by omega, by omega, by rw [gjd_no hpn]; exact hdv⟩, by show cols - (c + 1) < cols - c; omega⟩
 refine Um rfl rfl <| WO.Ug rfl (oMv rfl) rfl <| WO.Ug rfl (oMv rfl) rfl <| WO.Ug rfl (oIxR (j := a) rfl rfl rfl rfl (by omega) (by omega) rfl) rfl <| WO.Ug rfl (oLdO (f := fX) (us := rows) (j := a) rfl rfl (outH_get (by omega) g0) (fun _ => rfl) rfl (by decide) (by omega) rfl) rfl <| WO.Ug rfl (oMv rfl) rfl <| WO.Ug rfl (oIxM rfl rfl rfl rfl rfl (by have := hwid a (by omega); omega) rfl) rfl <| WO.Ug rfl (oLd (l := .agg [_, _, _, _]) rfl rfl rfl) rfl <| WO.Ug rfl (oCall rfl (rsign_run ((rows.getD a default).2.getD c default)) (by first | (simp [-data_sl]; done) | simp)) rfl <| WO.Ug rfl (oEql rfl rfl) rfl <| WO.D (fun h38 => ?_) (fun h38 => ?_)
 ·have hez : ent (vX rows) a c = 0 := by rw [← vX_ent]; exact num_sign.1 h38
  refine WO.U (oPkT rfl rfl) rfl <| Nw [(6, _), (7, _), (8, _), (9, _), (10, _), (11, _), (12, _), (18, _), (19, _), (30, _), (31, _), (32, _), (33, _), (34, _), (35, _), (36, _), (37, _), (38, _), (39, _)] ⟨rfl, rfl, rfl, rfl, rfl, rfl, rfl, rfl, rfl, rfl, rfl, rfl, rfl, rfl, rfl, rfl, rfl, rfl, rfl, trivial⟩ <| WC.cT rfl <| WC.skips <| WC.block1 <| WC.reg1z (z := 3) rfl <| Um rfl rfl <| WO.U (cI (((a + 1 : Nat) : Int)) (oAdd64 rfl rfl (by omega)) (by omega)) rfl <| Ua rfl rfl <| Wn <| after0_normal <| loopR_normal <| ⟨a + 1, ⟨rfl, rfl, rfl, rfl, rfl, rfl, rfl, rfl, rfl, trivial⟩, (subsM_mk3 outH_self (outH_get (by omega) g0) (outH_get (by omega) (g1 (by decide) g0)) (outH_get (by omega) (g1 (by decide) (g1 (by decide) g0)))), ⟨by omega, by omega, ?_, by omega⟩, by show rows.length - (a + 1) < rows.length - a; omega⟩
  intro k h1 h2
  by_cases e : k = a
  ·subst e; exact hez
  ·exact hz k h1 (by omega)
 have hen : ent (vX rows) a c ≠ 0 := by rw [← vX_ent]; exact fun k => h38 (num_sign.2 k)
 refine WO.U (oPkT rfl rfl) rfl <| Nw [(6, _), (7, _), (8, _), (9, _), (10, _), (11, _), (12, _), (18, _), (19, _), (30, _), (31, _), (32, _), (33, _), (34, _), (35, _), (36, _), (37, _), (38, _), (39, _)] ⟨rfl, rfl, rfl, rfl, rfl, rfl, rfl, rfl, rfl, rfl, rfl, rfl, rfl, rfl, rfl, rfl, rfl, rfl, rfl, trivial⟩ <| WC.cF rfl <| WC.exits <| loopR_exit <| after_exit rfl <| WC.weak [(6, _), (7, _), (8, _), (9, _), (10, _), (11, _), (12, _), (18, _), (19, _), (30, _), (31, _), (32, _), (33, _), (34, _), (35, _), (36, _), (37, _), (38, _)] ⟨rfl, rfl, rfl, rfl, rfl, rfl, rfl, rfl, rfl, rfl, rfl, rfl, rfl, rfl, rfl, rfl, rfl, rfl, trivial⟩ <| WC.assoc <| Rg 4 rfl <| Um rfl rfl <| Um rfl rfl <| WO.U (oLenR rfl rfl) rfl <| WO.U (oEql rfl rfl) rfl <| WO.D (fun h45 => ?_) (fun h45 => ?_)
 ·omega
 refine Nw [(6, _), (7, _), (8, _), (9, _), (10, _), (11, _), (12, _), (18, _), (19, _), (30, _), (31, _), (32, _), (33, _), (34, _), (35, _), (36, _), (37, _), (38, _), (45, _)] ⟨rfl, rfl, rfl, rfl, rfl, rfl, rfl, rfl, rfl, rfl, rfl, rfl, rfl, rfl, rfl, rfl, rfl, rfl, rfl, trivial⟩ <| WC.cF rfl <| WC.skips <| WC.assoc ?_
 have hrl : leads.length < rows.length := by omega
 have hpv : pivot (vX rows) leads.length c = a := pivot_eq hle1 (by rw [vX_len]; exact hle2) hz (.inr hen)
 rw [hv, hld] at hpv
 have hal : a < (gjn (vX rows0) c).1.length := by rw [← hv, vX_len]; omega
 have hgy := gjn_yes hpv hal
 have hsp : ent (sw (vX rows) a leads.length) leads.length c ≠ 0 := by rw [ent_sw (by rw [vX_len]; omega) (by rw [vX_len]; omega)]; exact hen
 have hbv : BdL (β) (vX rows) := by rw [hv]; exact GI.bds (by omega)
 have hbc : β ≤ 268435456 := hβ
 have hbp := hgb.pos
 have hdb : Bd β d.1 := by rw [hdv]; exact hgb.dts c (by omega)
 obtain ⟨M, hM⟩ : ∃ M, M = mid (vX rows) a leads.length c := ⟨_, rfl⟩
 have hMl : M.length = rows.length := by rw [hM, mid_len, vX_len]
 have hMb : BdL (2 * β + 1) M := by rw [hM]; exact hbv.mid (by omega) hsp
 have hMw : Wid w M := by rw [hM]; exact (show Wid w (vX rows) by rw [hv]; exact GI.wid).mid (by rw [vX_len]; omega) (by rw [vX_len]; omega) c
 refine Rg 3 rfl <| Um rfl rfl <| Um rfl rfl <| WO.U (oNeq rfl rfl) rfl <| WO.D (fun h48 => ?_) (fun h48 => ?_)
 rotate_left
 ·refine Nw [(6, _), (7, _), (8, _), (9, _), (10, _), (11, _), (12, _), (18, _), (19, _), (30, _), (31, _), (32, _), (33, _), (34, _), (35, _), (36, _), (37, _), (38, _), (48, _)] ⟨rfl, rfl, rfl, rfl, rfl, rfl, rfl, rfl, rfl, rfl, rfl, rfl, rfl, rfl, rfl, rfl, rfl, rfl, rfl, trivial⟩ <| WC.cF rfl <| WC.skips ?_
  obtain ⟨rows1, hr1⟩ : ∃ z, z = rows := ⟨_, rfl⟩
  obtain ⟨d1, hd1e⟩ : ∃ z, z = d := ⟨_, rfl⟩
  have hae : a = leads.length := by omega
  have hd1 : d1.1 = d.1 := by rw [hd1e]
  have hv1 : vX rows1 = sw (vX rows) a leads.length := by rw [hr1, hae, sw_same (by rw [vX_len]; omega)]
  have hl1 : rows1.length = rows.length := by simp [hr1]
  have hp1 : ((rows1.getD leads.length default).2.getD c default).1 ≠ 0 := by rw [vX_ent, hv1]; exact hsp
  have hb1 : BdL (β) (vX rows1) := by rw [hv1]; exact hbv.sw _ _
  have hbr : ∀ x, x ∈ (rows1.getD leads.length default).2 → Bd (β) x.1 := by
   intro x hx
   have := hb1.row leads.length
   rw [vX_getD] at this
   exact this _ (List.mem_map.2 ⟨x, hx, rfl⟩)
  have hwr : (rows1.getD leads.length default).2.length = w := by
   have := ((show Wid w (vX rows) by rw [hv]; exact GI.wid).sw (i := a) (r := leads.length) (by rw [vX_len]; omega) (by rw [vX_len]; omega)).row (i := leads.length) (by rw [sw_len, vX_len]; omega)
   rw [← hv1, vX_getD, List.length_map] at this; exact this
  have hbpp := hbr _ (getD_mem (show c < (rows1.getD leads.length default).2.length by omega))
  have hb1p := Bd1.div hbpp hp1
  obtain ⟨p, hpe⟩ : ∃ p, p = (rows1.getD leads.length default).2.getD c default := ⟨_, rfl⟩
  have hpv1 : p.1 = ent (vX rows) a c := by rw [hpe, vX_ent, hv1, ent_sw (by rw [vX_len]; omega) (by rw [vX_len]; omega)]
  have hd1b : Bd (β) d1.1 := by rw [hd1]; exact hdb
  have hd2v : (xmul d1 p).1 = gjd (vX rows0) (c + 1) := by
   rw [gjd_yes hpv hal, ← hv, ← hld]
   show d1.1 * p.1 = _
   rw [hpv1, hd1, if_neg (by omega), hdv]
  refine WC.weakM (outH q 1 3 (leads.map d64) [((0 + 3 + 1), { cells := (rows1.map fX).flatten, sz := 1, elem := 75, st := 0 }), ((0 + 3 + 3 + 1), { cells := xc d1, sz := 4, elem := 58, st := 0 }), (2, { cells := [.v (.int .i64 0), .sl 0 [], .v (.int .i64 0), .sl 0 []], sz := 4, elem := 58, st := 0 })]) (subsM_mk3 outH_self (outH_get (by omega) (g0.trans (by rw [hr1]))) (outH_get (by omega) (g1 (by decide) (g0.trans (by rw [hd1e])))) (outH_get (by omega) (g1 (by decide) (g1 (by decide) g0)))) <| Rg 9 rfl <| Um rfl rfl <| Um rfl rfl <| WO.U (oIxR (j := leads.length) rfl rfl rfl rfl (by omega) (by omega) rfl) rfl <| WO.U (oLdO (f := fX) (us := rows1) (j := leads.length) rfl rfl (outH_get (by omega) g0) (fun _ => rfl) rfl (by decide) (by omega) rfl) rfl <| Um rfl rfl <| WO.U (oIxM rfl rfl rfl rfl rfl (by omega) rfl) rfl <| WO.U (OP.cast (b := lvX p) (oLd (l := .agg [_, _, _, _]) rfl rfl rfl) (by rw [hpe]; rfl)) rfl <| WO.S (oAl rfl) rfl <| WO.S0 (oSt (cs' := xc p) rfl rfl rfl g0 rfl rfl rfl rfl) <| Nw [(6, _), (7, _), (8, _), (9, _), (10, _), (11, _), (13, _), (18, _), (19, _), (30, _), (31, _), (32, _), (33, _), (34, _), (35, _), (36, _), (37, _), (38, _)] ⟨rfl, rfl, rfl, rfl, rfl, rfl, rfl, rfl, rfl, rfl, rfl, rfl, rfl, rfl, rfl, rfl, rfl, rfl, trivial⟩ <| Rg 4 rfl <| WO.U (oLdP (l := .agg [_, _, _, _]) rfl rfl (g1 (by omega) (g1 (by omega) (outH_get (by omega) (g1 (by decide) g0)))) rfl rfl) rfl <| WO.U (oLdP (l := lvX p) rfl rfl g0 rfl rfl) rfl <| WO.U (oCall rfl (rmul_run d1 p (hd1b.mono (by omega)) (by rw [hpe]; exact hbpp.mono (by omega))) (by first | (simp [-data_sl]; done) | simp)) rfl <| WO.S0 (oSt (cs' := [_, _, _, _]) rfl rfl rfl (g1 (by omega) (g1 (by omega) (outH_get (by omega) (g1 (by decide) g0)))) rfl rfl rfl rfl) <| Nw [(6, _), (7, _), (8, _), (9, _), (10, _), (11, _), (13, _), (18, _), (19, _), (30, _), (31, _), (32, _), (33, _), (34, _), (35, _), (36, _), (37, _), (38, _)] ⟨rfl, rfl, rfl, rfl, rfl, rfl, rfl, rfl, rfl, rfl, rfl, rfl, rfl, rfl, rfl, rfl, rfl, rfl, trivial⟩ ?_
  obtain ⟨r, hr, np, rfl, hnp⟩ := mscaled_run (rows1.getD leads.length default).1 (rows1.getD leads.length default).2 (xdiv (xint 1) p) (by omega) (fun x hx => (hbr x hx).mono (by omega)) (by rw [hpe]; exact hb1p.mono (by omega))
  refine WC.draw (z := 12) rfl (by kernel_rfl) <| Dm rfl rfl <| Dm rfl rfl <| Dm rfl rfl <| Dm rfl rfl <| WD.U (oIxR (j := leads.length) rfl rfl rfl rfl (by omega) (by omega) rfl) rfl <| WD.U (oLdO (f := fX) (us := rows1) (j := leads.length) rfl rfl (g1 (by omega) (g1 (by omega) (g1 (by omega) (outH_get (by omega) g0)))) (fun _ => rfl) rfl (by decide) (by omega) rfl) rfl <| WD.U (oCall rfl (whole_run 1 (by unfold I64; omega)) (by first | (simp [-data_sl]; done) | simp)) rfl <| WD.U (oLdP (l := lvX p) rfl rfl (g1 (by omega) g0) rfl rfl) rfl <| WD.U (oCall rfl (rdiv_run (xint 1) p (by rw [hpe]; exact hp1) (Bd1.mono (by omega)) (by rw [hpe]; exact hbpp.mono (by omega))) (by first | (simp [-data_sl]; done) | simp)) rfl <| WD.U (oCall rfl (hr) (by first | (simp [-data_sl]; done) | simp)) rfl <| WD.U (oIxR (j := leads.length) rfl rfl rfl rfl (by omega) (by omega) rfl) rfl <| WD.S0 (oStO (f := fX) (us := rows1) (1, np) rfl rfl rfl (g1 (by omega) (g1 (by omega) (g1 (by omega) (outH_get (by omega) g0)))) (fun _ => rfl) rfl rfl (by omega) rfl) <| WD.nil (drawOk_of (by kernel_rfl)) rfl <| WC.weak [(6, _), (7, _), (8, _), (9, _), (10, _), (11, _), (18, _), (19, _), (30, _), (31, _), (32, _), (33, _), (34, _), (35, _), (36, _), (37, _), (38, _)] ⟨rfl, rfl, rfl, rfl, rfl, rfl, rfl, rfl, rfl, rfl, rfl, rfl, rfl, rfl, rfl, rfl, rfl, trivial⟩ <| WC.assoc ?_
  obtain ⟨rowsM, hr2⟩ : ∃ z, z = rows1.set leads.length (1, np) := ⟨_, rfl⟩
  rw [← hr2]
  have hl2 : rowsM.length = rows.length := by rw [hr2, List.length_set]; exact hl1
  have hv2 : vX rowsM = M := by
   rw [hr2, vX_set, hv1, hM]; unfold mid
   rw [hnp, ← vX_getD, hv1]
   have : (xdiv (xint 1) p).1 = 1 / ent (sw (vX rows) a leads.length) leads.length c := by show (1 : Rat) / p.1 = _; rw [hpv1, ent_sw (by rw [vX_len]; omega) (by rw [vX_len]; omega)]
   rw [this]
  refine Rg 3 rfl <| Um rfl rfl <| WO.U (oLenR rfl rfl) rfl <| Um rfl rfl <| Nw [(6, _), (7, _), (8, _), (9, _), (10, _), (11, _), (18, _), (19, _), (30, _), (31, _), (32, _), (33, _), (34, _), (35, _), (36, _), (37, _), (38, _), (87, _), (88, _)] ⟨rfl, rfl, rfl, rfl, rfl, rfl, rfl, rfl, rfl, rfl, rfl, rfl, rfl, rfl, rfl, rfl, rfl, rfl, rfl, trivial⟩ <| WC.block <| WC.loopV (α := Nat × (List X1)) (fun ⟨j, rows2⟩ => [(6, .ptr (0 + (0 + 1 + 1)) 0), (7, .ref (0 + 3 + 1) 1 0 rows2.length), (8, .ptr (0 + 3 + 3 + 1) 0), (9, outV q 1 (leads.map d64)), (10, .v (.int .i64 (c : Int))), (11, .v (.int .i64 (leads.length : Int))), (18, .v (.int .i64 (cols : Int))), (19, .v (.int .i64 (c : Int))), (87, .v (.int .i64 (rows.length : Int))), (88, .v (.int .i64 (j : Int)))]) (fun ⟨j, rows2⟩ => outH q 1 3 (leads.map d64) [((0 + 3 + 1), { cells := (rows2.map fX).flatten, sz := 1, elem := 75, st := 0 }), ((0 + 3 + 3 + 1), { cells := xc (xmul d1 p), sz := 4, elem := 58, st := 0 }), (2, { cells := [.v (.int .i64 0), .sl 0 [], .v (.int .i64 0), .sl 0 []], sz := 4, elem := 58, st := 0 })]) (fun ⟨j, rows2⟩ n => j ≤ rows.length ∧ rows2.length = rows.length ∧ (∀ k, k < rows.length → (vX rows2).getD k default = if k < j then elr M leads.length c k else M.getD k default) ∧ q < n) (fun ⟨j, rows2⟩ => rows.length - j) (0, rowsM) ⟨rfl, congrArg some (by rw [hl2]), rfl, rfl, rfl, rfl, rfl, rfl, rfl, rfl, trivial⟩ (subsM_mk3 (fun hu => (g1 (by omega) (g1 (by omega) (g1 (by omega) (g1 (by omega) (outH_self hu)))))) g0 (g1 (by omega) g0) (g1 (by omega) (g1 (by omega) (g1 (by omega) (g1 (by omega) (outH_get (by omega) (g1 (by decide) (g1 (by decide) g0)))))))) ⟨Nat.zero_le _, hl2, by intro k hk; rw [if_neg (by omega), hv2], by omega⟩ ?_
  rintro ⟨j, rows2⟩ n hJ
  change WC _ _ _ _ _ [(6, .ptr (0 + (0 + 1 + 1)) 0), (7, .ref (0 + 3 + 1) 1 0 rows2.length), (8, .ptr (0 + 3 + 3 + 1) 0), (9, outV q 1 (leads.map d64)), (10, .v (.int .i64 (c : Int))), (11, .v (.int .i64 (leads.length : Int))), (18, .v (.int .i64 (cols : Int))), (19, .v (.int .i64 (c : Int))), (87, .v (.int .i64 (rows.length : Int))), (88, .v (.int .i64 (j : Int)))] (outH q 1 3 (leads.map d64) [((0 + 3 + 1), { cells := (rows2.map fX).flatten, sz := 1, elem := 75, st := 0 }), ((0 + 3 + 3 + 1), { cells := xc (xmul d1 p), sz := 4, elem := 58, st := 0 }), (2, { cells := [.v (.int .i64 0), .sl 0 [], .v (.int .i64 0), .sl 0 []], sz := 4, elem := 58, st := 0 })]) n _
  obtain ⟨hjl, hl4, hst, hqn4⟩ := hJ
  refine Rg 1 rfl <| WO.U (oLss rfl rfl) rfl <| WO.D (fun h89 => ?_) (fun h89 => ?_)
  rotate_left
  ·refine Wn <| WC.cF rfl <| WC.exits <| loopR_exit <| after_exit rfl ?_
   have hfin : vX rows2 = elim M leads.length c := elim_eq (j := j) (by rw [vX_len]; omega) (by omega) (by rw [hMl]; exact hst)
   refine WC.reg1z (z := 5) rfl <| Um rfl rfl <| Um rfl rfl <| WO.U (oBs' (cs := [_]) (rows := [[_]]) rfl rfl (by decide) rfl rfl rfl) rfl <| WO.apM (te := ti3) (f := d64) (q := q) (us := leads) (u := c) rfl rfl rfl rfl rfl (fun _ => rfl) (by decide) (by show (2 * (leads.length + 1) + 256) * 8 ≤ _; omega) (by omega) (gN (by omega) (gN (by omega) (gN (by omega) rfl))) (gN (by omega) (gN (by omega) (gN (by omega) rfl))) rfl <| Ua rfl rfl <| Wn <| after_normal <| WC.weak [(6, _), (7, _), (8, _), (9, _), (18, _), (19, _)] ⟨rfl, rfl, rfl, rfl, rfl, rfl, trivial⟩ <| WC.reg1z (z := 2) rfl <| WO.U (cI (((c + 1 : Nat) : Int)) (oAdd64 rfl rfl (by omega)) (by omega)) rfl <| Um rfl rfl <| Wn <| loopR_normal <| ⟨⟨c + 1, _, rows2, leads ++ [c], xmul d1 p⟩, ⟨rfl, rfl, rfl, rfl, rfl, rfl, trivial⟩, (subsM_mk3 outH_self (outH_get (by omega) g0) (outH_get (by omega) (g1 (by decide) g0)) (outH_get (by omega) (g1 (by decide) (g1 (by decide) g0)))), ⟨by omega, by rw [hgy, hfin, hM, hv, hld], by rw [hgy, hld], by omega, by omega, hd2v⟩, by show cols - (c + 1) < cols - c; omega⟩
  refine Wn <| WC.cT rfl <| WC.skips <| WC.block <| Rg 2 rfl <| Um rfl rfl <| Ua rfl rfl <| WO.nil ?_
  have hrj : vX rows2 = vX rows2 := rfl
  have hj1 : (vX rows2).getD j default = M.getD j default := by rw [hst j (by omega), if_neg (by omega)]
  have hj2 : (vX rows2).getD leads.length default = M.getD leads.length default := elim_row (by omega) (by rw [hMl]; exact hst)
  have hej : ent (vX rows2) j c = ent M j c := by unfold ent; rw [hj1]
  have hwj : (rows2.getD j default).2.length = w := by have := hMw.row (i := j) (by omega); rw [← hj1, vX_getD] at this; simpa using this
  have hwl : (rows2.getD leads.length default).2.length = w := by have := hMw.row (i := leads.length) (by omega); rw [← hj2, vX_getD] at this; simpa using this
  refine Rg 14 rfl <| Um rfl rfl <| Um rfl rfl <| WO.U (oNeq rfl rfl) rfl <| WO.D (fun h93 => ?_) (fun h93 => ?_)
  rotate_left
  ·refine Um rfl rfl <| WO.K rfl rfl <| WO.K rfl rfl <| WO.K rfl rfl <| WO.K rfl rfl <| WO.K rfl rfl <| WO.K rfl rfl <| WO.K rfl rfl <| WO.K rfl rfl <| WO.K rfl rfl <| WO.U (oPkF rfl rfl) rfl <| Nw [(6, _), (7, _), (8, _), (9, _), (10, _), (11, _), (14, _), (18, _), (19, _), (87, _), (88, _), (95, _), (96, _), (97, _), (98, _), (99, _), (100, _), (101, _), (102, _), (103, _), (104, _)] ⟨rfl, rfl, rfl, rfl, rfl, rfl, rfl, rfl, rfl, rfl, rfl, rfl, rfl, rfl, rfl, rfl, rfl, rfl, rfl, rfl, rfl, trivial⟩ <| WC.cF1 rfl <| WC.skip <| after_normal <| WC.weak [(6, _), (7, _), (8, _), (9, _), (10, _), (11, _), (18, _), (19, _), (87, _), (88, _), (95, _), (96, _), (97, _), (98, _), (99, _), (100, _), (101, _), (102, _), (103, _)] ⟨rfl, rfl, rfl, rfl, rfl, rfl, rfl, rfl, rfl, rfl, rfl, rfl, rfl, rfl, rfl, rfl, rfl, rfl, rfl, trivial⟩ <| WC.reg1z (z := 2) rfl <| WO.U (cI (((j + 1 : Nat) : Int)) (oAdd64 rfl rfl (by omega)) (by omega)) rfl <| Um rfl rfl <| Wn <| loopR_normal <| ⟨⟨j + 1, rows2⟩, ⟨rfl, rfl, rfl, rfl, rfl, rfl, rfl, rfl, rfl, rfl, trivial⟩, (subsM_mk3 outH_self (outH_get (by omega) g0) (outH_get (by omega) (g1 (by decide) g0)) (outH_get (by omega) (g1 (by decide) (g1 (by decide) g0)))), ⟨by omega, hl4, (by have := elim_keep (A := vX rows2) (M := M) (j := j) (by omega) (by rw [hMl]; exact hst) (elr_neg (.inl (by omega))).symm; rwa [hMl] at this), by omega⟩, by show rows.length - (j + 1) < rows.length - j; omega⟩
  refine Um rfl rfl <| WO.Ug rfl (oMv rfl) rfl <| WO.Ug rfl (oMv rfl) rfl <| WO.Ug rfl (oIxR (j := j) rfl rfl rfl rfl (by omega) (by omega) rfl) rfl <| WO.Ug rfl (oLdO (f := fX) (us := rows2) (j := j) rfl rfl (outH_get (by omega) g0) (fun _ => rfl) rfl (by decide) (by omega) rfl) rfl <| WO.Ug rfl (oMv rfl) rfl <| WO.Ug rfl (oIxM rfl rfl rfl rfl rfl (by omega) rfl) rfl <| WO.Ug rfl (oLd (l := .agg [_, _, _, _]) rfl rfl rfl) rfl <| WO.Ug rfl (oCall rfl (rsign_run ((rows2.getD j default).2.getD c default)) (by first | (simp [-data_sl]; done) | simp)) rfl <| WO.Ug rfl (oNeq rfl rfl) rfl <| WO.D (fun h103 => ?_) (fun h103 => ?_)
  rotate_left
  ·refine WO.U (oPkT rfl rfl) rfl <| Nw [(6, _), (7, _), (8, _), (9, _), (10, _), (11, _), (14, _), (18, _), (19, _), (87, _), (88, _), (95, _), (96, _), (97, _), (98, _), (99, _), (100, _), (101, _), (102, _), (103, _), (104, _)] ⟨rfl, rfl, rfl, rfl, rfl, rfl, rfl, rfl, rfl, rfl, rfl, rfl, rfl, rfl, rfl, rfl, rfl, rfl, rfl, rfl, rfl, trivial⟩ <| WC.cF1 rfl <| WC.skip <| after_normal <| WC.weak [(6, _), (7, _), (8, _), (9, _), (10, _), (11, _), (18, _), (19, _), (87, _), (88, _), (95, _), (96, _), (97, _), (98, _), (99, _), (100, _), (101, _), (102, _), (103, _)] ⟨rfl, rfl, rfl, rfl, rfl, rfl, rfl, rfl, rfl, rfl, rfl, rfl, rfl, rfl, rfl, rfl, rfl, rfl, rfl, trivial⟩ <| WC.reg1z (z := 2) rfl <| WO.U (cI (((j + 1 : Nat) : Int)) (oAdd64 rfl rfl (by omega)) (by omega)) rfl <| Um rfl rfl <| Wn <| loopR_normal <| ⟨⟨j + 1, rows2⟩, ⟨rfl, rfl, rfl, rfl, rfl, rfl, rfl, rfl, rfl, rfl, trivial⟩, (subsM_mk3 outH_self (outH_get (by omega) g0) (outH_get (by omega) (g1 (by decide) g0)) (outH_get (by omega) (g1 (by decide) (g1 (by decide) g0)))), ⟨by omega, hl4, (by have := elim_keep (A := vX rows2) (M := M) (j := j) (by omega) (by rw [hMl]; exact hst) (elr_neg (.inr (by rw [← hej, ← vX_ent]; exact num_sign.1 (by omega)))).symm; rwa [hMl] at this), by omega⟩, by show rows.length - (j + 1) < rows.length - j; omega⟩
  refine WO.U (oPkT rfl rfl) rfl <| Nw [(6, _), (7, _), (8, _), (9, _), (10, _), (11, _), (14, _), (18, _), (19, _), (87, _), (88, _), (95, _), (96, _), (97, _), (98, _), (99, _), (100, _), (101, _), (102, _), (103, _), (104, _)] ⟨rfl, rfl, rfl, rfl, rfl, rfl, rfl, rfl, rfl, rfl, rfl, rfl, rfl, rfl, rfl, rfl, rfl, rfl, rfl, rfl, rfl, trivial⟩ <| WC.cT1 rfl ?_
  have hen2 : ent M j c ≠ 0 := by rw [← hej, ← vX_ent]; exact fun k => h103 (num_sign.2 k)
  have hbj : ∀ x, x ∈ (rows2.getD j default).2 → Bd (2 * β + 1) x.1 := by
   intro x hx
   have := hMb.row j
   rw [← hj1, vX_getD] at this
   exact this _ (List.mem_map.2 ⟨x, hx, rfl⟩)
  have hbl : ∀ x, x ∈ (rows2.getD leads.length default).2 → Bd (2 * β + 1) x.1 := by
   intro x hx
   have := hMb.row leads.length
   rw [← hj2, vX_getD] at this
   exact this _ (List.mem_map.2 ⟨x, hx, rfl⟩)
  have hbe := hbj _ (getD_mem (show c < (rows2.getD j default).2.length by omega))
  obtain ⟨r, hr, nw, rfl, hnw⟩ := madded_run (rows2.getD j default).1 (rows2.getD leads.length default).1 (rows2.getD j default).2 (rows2.getD leads.length default).2 (xneg ((rows2.getD j default).2.getD c default)) (by omega) (by omega) (fun x hx => (hbj x hx).mono (by omega)) (fun x hx => (hbl x hx).mono (by omega)) (hbe.neg.mono (by omega))
  refine WC.draw1z (z := 21) rfl (by kernel_rfl) <| Dm rfl rfl <| Dm rfl rfl <| Dm rfl rfl <| Dm rfl rfl <| WD.U (oIxR (j := j) rfl rfl rfl rfl (by omega) (by omega) rfl) rfl <| WD.U (oLdO (f := fX) (us := rows2) (j := j) rfl rfl (outH_get (by omega) g0) (fun _ => rfl) rfl (by decide) (by omega) rfl) rfl <| Dm rfl rfl <| Dm rfl rfl <| WD.U (oIxR (j := j) rfl rfl rfl rfl (by omega) (by omega) rfl) rfl <| WD.U (oLdO (f := fX) (us := rows2) (j := j) rfl rfl (outH_get (by omega) g0) (fun _ => rfl) rfl (by decide) (by omega) rfl) rfl <| Dm rfl rfl <| WD.U (oIxM rfl rfl rfl rfl rfl (by omega) rfl) rfl <| WD.U (oLd (l := .agg [_, _, _, _]) rfl rfl rfl) rfl <| WD.U (oCall rfl (rneg_run ((rows2.getD j default).2.getD c default)) (by first | (simp [-data_sl]; done) | simp)) rfl <| Dm rfl rfl <| Dm rfl rfl <| WD.U (oIxR (j := leads.length) rfl rfl rfl rfl (by omega) (by omega) rfl) rfl <| WD.U (oLdO (f := fX) (us := rows2) (j := leads.length) rfl rfl (outH_get (by omega) g0) (fun _ => rfl) rfl (by decide) (by omega) rfl) rfl <| WD.U (oCall rfl (hr) (by first | (simp [-data_sl]; done) | simp)) rfl <| WD.U (oIxR (j := j) rfl rfl rfl rfl (by omega) (by omega) rfl) rfl <| WD.S0 (oStO (f := fX) (us := rows2) (1, nw) rfl rfl rfl (outH_get (by omega) g0) (fun _ => rfl) rfl rfl (by omega) rfl) <| WD.nil (drawOk_of (by kernel_rfl)) rfl <| after_normal ?_
  refine WC.weak [(6, _), (7, _), (8, _), (9, _), (10, _), (11, _), (18, _), (19, _), (87, _), (88, _), (95, _), (96, _), (97, _), (98, _), (99, _), (100, _), (101, _), (102, _), (103, _)] ⟨rfl, rfl, rfl, rfl, rfl, rfl, rfl, rfl, rfl, rfl, rfl, rfl, rfl, rfl, rfl, rfl, rfl, rfl, rfl, trivial⟩ <| WC.reg1z (z := 2) rfl <| WO.U (cI (((j + 1 : Nat) : Int)) (oAdd64 rfl rfl (by omega)) (by omega)) rfl <| Um rfl rfl <| Wn <| loopR_normal <| ⟨⟨j + 1, rows2.set j (1, nw)⟩, ⟨rfl, congrArg some (by rw [List.length_set]), rfl, rfl, rfl, rfl, rfl, rfl, rfl, rfl, trivial⟩, subsM_mk3 (fun hu => g1 (by omega) (outH_self hu)) g0 (g1 (by decide) (outH_get (by omega) (g1 (by decide) g0))) (g1 (by decide) (outH_get (by omega) (g1 (by decide) (g1 (by decide) g0)))), ⟨by omega, by rw [List.length_set]; exact hl4, by rw [vX_set]; exact (by have := elim_next (A := vX rows2) (M := M) (j := j) (by rw [vX_len]; omega) (by omega) (by rw [hMl]; exact hst) (x := nw.map (·.1)) (by rw [elr_pos (by omega) hen2, ← hej, ← hj1, ← hj2, vX_getD, vX_getD, ← vX_ent, hnw]; rfl); rwa [hMl] at this), by omega⟩, by show rows.length - (j + 1) < rows.length - j; omega⟩
 refine Nw [(6, _), (7, _), (8, _), (9, _), (10, _), (11, _), (12, _), (18, _), (19, _), (30, _), (31, _), (32, _), (33, _), (34, _), (35, _), (36, _), (37, _), (38, _), (48, _)] ⟨rfl, rfl, rfl, rfl, rfl, rfl, rfl, rfl, rfl, rfl, rfl, rfl, rfl, rfl, rfl, rfl, rfl, rfl, rfl, trivial⟩ <| WC.cT rfl <| WC.assoc <| WC.draw (z := 16) rfl (by kernel_rfl) <| Dm rfl rfl <| Dm rfl rfl <| Dm rfl rfl <| Dm rfl rfl <| Dm rfl rfl <| Dm rfl rfl <| WD.U (oIxR (j := leads.length) rfl rfl rfl rfl (by omega) (by omega) rfl) rfl <| WD.U (oLdO (f := fX) (us := rows) (j := leads.length) rfl rfl (outH_get (by omega) g0) (fun _ => rfl) rfl (by decide) (by omega) rfl) rfl <| Dm rfl rfl <| Dm rfl rfl <| WD.U (oIxR (j := a) rfl rfl rfl rfl (by omega) (by omega) rfl) rfl <| WD.U (oLdO (f := fX) (us := rows) (j := a) rfl rfl (outH_get (by omega) g0) (fun _ => rfl) rfl (by decide) (by omega) rfl) rfl <| WD.U (oIxR (j := a) rfl rfl rfl rfl (by omega) (by omega) rfl) rfl <| WD.S0 (oStO (f := fX) (us := rows) (rows.getD leads.length default) rfl rfl rfl (outH_get (by omega) g0) (fun _ => rfl) rfl rfl (by omega) rfl) <| WD.U (oIxR (j := leads.length) rfl rfl rfl rfl (by omega) (by omega) rfl) rfl <| WD.S0 (oStO (f := fX) (us := (rows.set a (rows.getD leads.length default))) (rows.getD a default) rfl rfl rfl g0 (fun _ => rfl) rfl rfl (by rw [List.length_set]; omega) rfl) <| WD.nil (drawOk_of (by kernel_rfl)) rfl <| WC.weak [(6, _), (7, _), (8, _), (9, _), (10, _), (11, _), (18, _), (19, _), (30, _), (31, _), (32, _), (33, _), (34, _), (35, _), (36, _), (37, _), (38, _)] ⟨rfl, rfl, rfl, rfl, rfl, rfl, rfl, rfl, rfl, rfl, rfl, rfl, rfl, rfl, rfl, rfl, rfl, trivial⟩ <| Rg 3 rfl ?_
 refine WO.U (oLdP (l := .agg [_, _, _, _]) rfl rfl (g1 (by omega) (g1 (by omega) (outH_get (by omega) (g1 (by decide) g0)))) rfl rfl) rfl <| WO.U (oCall rfl (rneg_run d) (by first | (simp [-data_sl]; done) | simp)) rfl <| WO.S0 (oSt (cs' := [_, _, _, _]) rfl rfl rfl (g1 (by omega) (g1 (by omega) (outH_get (by omega) (g1 (by decide) g0)))) rfl rfl rfl rfl) <| Nw [(6, _), (7, _), (8, _), (9, _), (10, _), (11, _), (18, _), (19, _), (30, _), (31, _), (32, _), (33, _), (34, _), (35, _), (36, _), (37, _), (38, _)] ⟨rfl, rfl, rfl, rfl, rfl, rfl, rfl, rfl, rfl, rfl, rfl, rfl, rfl, rfl, rfl, rfl, rfl, trivial⟩ ?_
 obtain ⟨rows1, hr1⟩ : ∃ z, z = ((rows.set a (rows.getD leads.length default)).set leads.length (rows.getD a default)) := ⟨_, rfl⟩
 obtain ⟨d1, hd1e⟩ : ∃ z, z = xneg d := ⟨_, rfl⟩
 rw [← hr1]
 have hd1 : d1.1 = -d.1 := by rw [hd1e]; rfl
 have hv1 : vX rows1 = sw (vX rows) a leads.length := by rw [hr1, vX_set, vX_set, ← vX_getD, ← vX_getD]; exact sw_comm (by omega)
 have hl1 : rows1.length = rows.length := by simp [hr1]
 have hp1 : ((rows1.getD leads.length default).2.getD c default).1 ≠ 0 := by rw [vX_ent, hv1]; exact hsp
 have hb1 : BdL (β) (vX rows1) := by rw [hv1]; exact hbv.sw _ _
 have hbr : ∀ x, x ∈ (rows1.getD leads.length default).2 → Bd (β) x.1 := by
  intro x hx
  have := hb1.row leads.length
  rw [vX_getD] at this
  exact this _ (List.mem_map.2 ⟨x, hx, rfl⟩)
 have hwr : (rows1.getD leads.length default).2.length = w := by
  have := ((show Wid w (vX rows) by rw [hv]; exact GI.wid).sw (i := a) (r := leads.length) (by rw [vX_len]; omega) (by rw [vX_len]; omega)).row (i := leads.length) (by rw [sw_len, vX_len]; omega)
  rw [← hv1, vX_getD, List.length_map] at this; exact this
 have hbpp := hbr _ (getD_mem (show c < (rows1.getD leads.length default).2.length by omega))
 have hb1p := Bd1.div hbpp hp1
 obtain ⟨p, hpe⟩ : ∃ p, p = (rows1.getD leads.length default).2.getD c default := ⟨_, rfl⟩
 have hpv1 : p.1 = ent (vX rows) a c := by rw [hpe, vX_ent, hv1, ent_sw (by rw [vX_len]; omega) (by rw [vX_len]; omega)]
 have hd1b : Bd (β) d1.1 := by rw [hd1]; exact hdb.neg
 have hd2v : (xmul d1 p).1 = gjd (vX rows0) (c + 1) := by
  rw [gjd_yes hpv hal, ← hv, ← hld]
  show d1.1 * p.1 = _
  rw [hpv1, hd1, if_pos (by omega), hdv]
 refine WC.weakM (outH q 1 3 (leads.map d64) [((0 + 3 + 1), { cells := (rows1.map fX).flatten, sz := 1, elem := 75, st := 0 }), ((0 + 3 + 3 + 1), { cells := xc d1, sz := 4, elem := 58, st := 0 }), (2, { cells := [.v (.int .i64 0), .sl 0 [], .v (.int .i64 0), .sl 0 []], sz := 4, elem := 58, st := 0 })]) (subsM_mk3 (fun hu => (g1 (by omega) (g1 (by omega) (g1 (by omega) (outH_self hu))))) (g1 (by decide) g0) (g0.trans (by rw [hd1e]; rfl)) (g1 (by omega) (g1 (by omega) (g1 (by omega) (outH_get (by omega) (g1 (by decide) (g1 (by decide) g0))))))) <| Rg 9 rfl <| Um rfl rfl <| Um rfl rfl <| WO.U (oIxR (j := leads.length) rfl rfl rfl rfl (by omega) (by omega) rfl) rfl <| WO.U (oLdO (f := fX) (us := rows1) (j := leads.length) rfl rfl (outH_get (by omega) g0) (fun _ => rfl) rfl (by decide) (by omega) rfl) rfl <| Um rfl rfl <| WO.U (oIxM rfl rfl rfl rfl rfl (by omega) rfl) rfl <| WO.U (OP.cast (b := lvX p) (oLd (l := .agg [_, _, _, _]) rfl rfl rfl) (by rw [hpe]; rfl)) rfl <| WO.S (oAl rfl) rfl <| WO.S0 (oSt (cs' := xc p) rfl rfl rfl g0 rfl rfl rfl rfl) <| Nw [(6, _), (7, _), (8, _), (9, _), (10, _), (11, _), (13, _), (18, _), (19, _), (30, _), (31, _), (32, _), (33, _), (34, _), (35, _), (36, _), (37, _), (38, _)] ⟨rfl, rfl, rfl, rfl, rfl, rfl, rfl, rfl, rfl, rfl, rfl, rfl, rfl, rfl, rfl, rfl, rfl, rfl, trivial⟩ <| Rg 4 rfl <| WO.U (oLdP (l := .agg [_, _, _, _]) rfl rfl (g1 (by omega) (g1 (by omega) (outH_get (by omega) (g1 (by decide) g0)))) rfl rfl) rfl <| WO.U (oLdP (l := lvX p) rfl rfl g0 rfl rfl) rfl <| WO.U (oCall rfl (rmul_run d1 p (hd1b.mono (by omega)) (by rw [hpe]; exact hbpp.mono (by omega))) (by first | (simp [-data_sl]; done) | simp)) rfl <| WO.S0 (oSt (cs' := [_, _, _, _]) rfl rfl rfl (g1 (by omega) (g1 (by omega) (outH_get (by omega) (g1 (by decide) g0)))) rfl rfl rfl rfl) <| Nw [(6, _), (7, _), (8, _), (9, _), (10, _), (11, _), (13, _), (18, _), (19, _), (30, _), (31, _), (32, _), (33, _), (34, _), (35, _), (36, _), (37, _), (38, _)] ⟨rfl, rfl, rfl, rfl, rfl, rfl, rfl, rfl, rfl, rfl, rfl, rfl, rfl, rfl, rfl, rfl, rfl, rfl, trivial⟩ ?_
 obtain ⟨r, hr, np, rfl, hnp⟩ := mscaled_run (rows1.getD leads.length default).1 (rows1.getD leads.length default).2 (xdiv (xint 1) p) (by omega) (fun x hx => (hbr x hx).mono (by omega)) (by rw [hpe]; exact hb1p.mono (by omega))
 refine WC.draw (z := 12) rfl (by kernel_rfl) <| Dm rfl rfl <| Dm rfl rfl <| Dm rfl rfl <| Dm rfl rfl <| WD.U (oIxR (j := leads.length) rfl rfl rfl rfl (by omega) (by omega) rfl) rfl <| WD.U (oLdO (f := fX) (us := rows1) (j := leads.length) rfl rfl (g1 (by omega) (g1 (by omega) (g1 (by omega) (outH_get (by omega) g0)))) (fun _ => rfl) rfl (by decide) (by omega) rfl) rfl <| WD.U (oCall rfl (whole_run 1 (by unfold I64; omega)) (by first | (simp [-data_sl]; done) | simp)) rfl <| WD.U (oLdP (l := lvX p) rfl rfl (g1 (by omega) g0) rfl rfl) rfl <| WD.U (oCall rfl (rdiv_run (xint 1) p (by rw [hpe]; exact hp1) (Bd1.mono (by omega)) (by rw [hpe]; exact hbpp.mono (by omega))) (by first | (simp [-data_sl]; done) | simp)) rfl <| WD.U (oCall rfl (hr) (by first | (simp [-data_sl]; done) | simp)) rfl <| WD.U (oIxR (j := leads.length) rfl rfl rfl rfl (by omega) (by omega) rfl) rfl <| WD.S0 (oStO (f := fX) (us := rows1) (1, np) rfl rfl rfl (g1 (by omega) (g1 (by omega) (g1 (by omega) (outH_get (by omega) g0)))) (fun _ => rfl) rfl rfl (by omega) rfl) <| WD.nil (drawOk_of (by kernel_rfl)) rfl <| WC.weak [(6, _), (7, _), (8, _), (9, _), (10, _), (11, _), (18, _), (19, _), (30, _), (31, _), (32, _), (33, _), (34, _), (35, _), (36, _), (37, _), (38, _)] ⟨rfl, rfl, rfl, rfl, rfl, rfl, rfl, rfl, rfl, rfl, rfl, rfl, rfl, rfl, rfl, rfl, rfl, trivial⟩ <| WC.assoc ?_
 obtain ⟨rowsM, hr2⟩ : ∃ z, z = rows1.set leads.length (1, np) := ⟨_, rfl⟩
 rw [← hr2]
 have hl2 : rowsM.length = rows.length := by rw [hr2, List.length_set]; exact hl1
 have hv2 : vX rowsM = M := by
  rw [hr2, vX_set, hv1, hM]; unfold mid
  rw [hnp, ← vX_getD, hv1]
  have : (xdiv (xint 1) p).1 = 1 / ent (sw (vX rows) a leads.length) leads.length c := by show (1 : Rat) / p.1 = _; rw [hpv1, ent_sw (by rw [vX_len]; omega) (by rw [vX_len]; omega)]
  rw [this]
 refine Rg 3 rfl <| Um rfl rfl <| WO.U (oLenR rfl rfl) rfl <| Um rfl rfl <| Nw [(6, _), (7, _), (8, _), (9, _), (10, _), (11, _), (18, _), (19, _), (30, _), (31, _), (32, _), (33, _), (34, _), (35, _), (36, _), (37, _), (38, _), (87, _), (88, _)] ⟨rfl, rfl, rfl, rfl, rfl, rfl, rfl, rfl, rfl, rfl, rfl, rfl, rfl, rfl, rfl, rfl, rfl, rfl, rfl, trivial⟩ <| WC.block <| WC.loopV (α := Nat × (List X1)) (fun ⟨j, rows2⟩ => [(6, .ptr (0 + (0 + 1 + 1)) 0), (7, .ref (0 + 3 + 1) 1 0 rows2.length), (8, .ptr (0 + 3 + 3 + 1) 0), (9, outV q 1 (leads.map d64)), (10, .v (.int .i64 (c : Int))), (11, .v (.int .i64 (leads.length : Int))), (18, .v (.int .i64 (cols : Int))), (19, .v (.int .i64 (c : Int))), (87, .v (.int .i64 (rows.length : Int))), (88, .v (.int .i64 (j : Int)))]) (fun ⟨j, rows2⟩ => outH q 1 3 (leads.map d64) [((0 + 3 + 1), { cells := (rows2.map fX).flatten, sz := 1, elem := 75, st := 0 }), ((0 + 3 + 3 + 1), { cells := xc (xmul d1 p), sz := 4, elem := 58, st := 0 }), (2, { cells := [.v (.int .i64 0), .sl 0 [], .v (.int .i64 0), .sl 0 []], sz := 4, elem := 58, st := 0 })]) (fun ⟨j, rows2⟩ n => j ≤ rows.length ∧ rows2.length = rows.length ∧ (∀ k, k < rows.length → (vX rows2).getD k default = if k < j then elr M leads.length c k else M.getD k default) ∧ q < n) (fun ⟨j, rows2⟩ => rows.length - j) (0, rowsM) ⟨rfl, congrArg some (by rw [hl2]), rfl, rfl, rfl, rfl, rfl, rfl, rfl, rfl, trivial⟩ (subsM_mk3 (fun hu => (g1 (by omega) (g1 (by omega) (g1 (by omega) (g1 (by omega) (outH_self hu)))))) g0 (g1 (by omega) g0) (g1 (by omega) (g1 (by omega) (g1 (by omega) (g1 (by omega) (outH_get (by omega) (g1 (by decide) (g1 (by decide) g0)))))))) ⟨Nat.zero_le _, hl2, by intro k hk; rw [if_neg (by omega), hv2], by omega⟩ ?_
 rintro ⟨j, rows2⟩ n hJ
 change WC _ _ _ _ _ [(6, .ptr (0 + (0 + 1 + 1)) 0), (7, .ref (0 + 3 + 1) 1 0 rows2.length), (8, .ptr (0 + 3 + 3 + 1) 0), (9, outV q 1 (leads.map d64)), (10, .v (.int .i64 (c : Int))), (11, .v (.int .i64 (leads.length : Int))), (18, .v (.int .i64 (cols : Int))), (19, .v (.int .i64 (c : Int))), (87, .v (.int .i64 (rows.length : Int))), (88, .v (.int .i64 (j : Int)))] (outH q 1 3 (leads.map d64) [((0 + 3 + 1), { cells := (rows2.map fX).flatten, sz := 1, elem := 75, st := 0 }), ((0 + 3 + 3 + 1), { cells := xc (xmul d1 p), sz := 4, elem := 58, st := 0 }), (2, { cells := [.v (.int .i64 0), .sl 0 [], .v (.int .i64 0), .sl 0 []], sz := 4, elem := 58, st := 0 })]) n _
 obtain ⟨hjl, hl4, hst, hqn4⟩ := hJ
 refine Rg 1 rfl <| WO.U (oLss rfl rfl) rfl <| WO.D (fun h89 => ?_) (fun h89 => ?_)
 rotate_left
 ·refine Wn <| WC.cF rfl <| WC.exits <| loopR_exit <| after_exit rfl ?_
  have hfin : vX rows2 = elim M leads.length c := elim_eq (j := j) (by rw [vX_len]; omega) (by omega) (by rw [hMl]; exact hst)
  refine WC.reg1z (z := 5) rfl <| Um rfl rfl <| Um rfl rfl <| WO.U (oBs' (cs := [_]) (rows := [[_]]) rfl rfl (by decide) rfl rfl rfl) rfl <| WO.apM (te := ti3) (f := d64) (q := q) (us := leads) (u := c) rfl rfl rfl rfl rfl (fun _ => rfl) (by decide) (by show (2 * (leads.length + 1) + 256) * 8 ≤ _; omega) (by omega) (gN (by omega) (gN (by omega) (gN (by omega) rfl))) (gN (by omega) (gN (by omega) (gN (by omega) rfl))) rfl <| Ua rfl rfl <| Wn <| after_normal <| WC.weak [(6, _), (7, _), (8, _), (9, _), (18, _), (19, _)] ⟨rfl, rfl, rfl, rfl, rfl, rfl, trivial⟩ <| WC.reg1z (z := 2) rfl <| WO.U (cI (((c + 1 : Nat) : Int)) (oAdd64 rfl rfl (by omega)) (by omega)) rfl <| Um rfl rfl <| Wn <| loopR_normal <| ⟨⟨c + 1, _, rows2, leads ++ [c], xmul d1 p⟩, ⟨rfl, rfl, rfl, rfl, rfl, rfl, trivial⟩, (subsM_mk3 outH_self (outH_get (by omega) g0) (outH_get (by omega) (g1 (by decide) g0)) (outH_get (by omega) (g1 (by decide) (g1 (by decide) g0)))), ⟨by omega, by rw [hgy, hfin, hM, hv, hld], by rw [hgy, hld], by omega, by omega, hd2v⟩, by show cols - (c + 1) < cols - c; omega⟩
 refine Wn <| WC.cT rfl <| WC.skips <| WC.block <| Rg 2 rfl <| Um rfl rfl <| Ua rfl rfl <| WO.nil ?_
 have hrj : vX rows2 = vX rows2 := rfl
 have hj1 : (vX rows2).getD j default = M.getD j default := by rw [hst j (by omega), if_neg (by omega)]
 have hj2 : (vX rows2).getD leads.length default = M.getD leads.length default := elim_row (by omega) (by rw [hMl]; exact hst)
 have hej : ent (vX rows2) j c = ent M j c := by unfold ent; rw [hj1]
 have hwj : (rows2.getD j default).2.length = w := by have := hMw.row (i := j) (by omega); rw [← hj1, vX_getD] at this; simpa using this
 have hwl : (rows2.getD leads.length default).2.length = w := by have := hMw.row (i := leads.length) (by omega); rw [← hj2, vX_getD] at this; simpa using this
 refine Rg 14 rfl <| Um rfl rfl <| Um rfl rfl <| WO.U (oNeq rfl rfl) rfl <| WO.D (fun h93 => ?_) (fun h93 => ?_)
 rotate_left
 ·refine Um rfl rfl <| WO.K rfl rfl <| WO.K rfl rfl <| WO.K rfl rfl <| WO.K rfl rfl <| WO.K rfl rfl <| WO.K rfl rfl <| WO.K rfl rfl <| WO.K rfl rfl <| WO.K rfl rfl <| WO.U (oPkF rfl rfl) rfl <| Nw [(6, _), (7, _), (8, _), (9, _), (10, _), (11, _), (14, _), (18, _), (19, _), (87, _), (88, _), (95, _), (96, _), (97, _), (98, _), (99, _), (100, _), (101, _), (102, _), (103, _), (104, _)] ⟨rfl, rfl, rfl, rfl, rfl, rfl, rfl, rfl, rfl, rfl, rfl, rfl, rfl, rfl, rfl, rfl, rfl, rfl, rfl, rfl, rfl, trivial⟩ <| WC.cF1 rfl <| WC.skip <| after_normal <| WC.weak [(6, _), (7, _), (8, _), (9, _), (10, _), (11, _), (18, _), (19, _), (87, _), (88, _), (95, _), (96, _), (97, _), (98, _), (99, _), (100, _), (101, _), (102, _), (103, _)] ⟨rfl, rfl, rfl, rfl, rfl, rfl, rfl, rfl, rfl, rfl, rfl, rfl, rfl, rfl, rfl, rfl, rfl, rfl, rfl, trivial⟩ <| WC.reg1z (z := 2) rfl <| WO.U (cI (((j + 1 : Nat) : Int)) (oAdd64 rfl rfl (by omega)) (by omega)) rfl <| Um rfl rfl <| Wn <| loopR_normal <| ⟨⟨j + 1, rows2⟩, ⟨rfl, rfl, rfl, rfl, rfl, rfl, rfl, rfl, rfl, rfl, trivial⟩, (subsM_mk3 outH_self (outH_get (by omega) g0) (outH_get (by omega) (g1 (by decide) g0)) (outH_get (by omega) (g1 (by decide) (g1 (by decide) g0)))), ⟨by omega, hl4, (by have := elim_keep (A := vX rows2) (M := M) (j := j) (by omega) (by rw [hMl]; exact hst) (elr_neg (.inl (by omega))).symm; rwa [hMl] at this), by omega⟩, by show rows.length - (j + 1) < rows.length - j; omega⟩
 refine Um rfl rfl <| WO.Ug rfl (oMv rfl) rfl <| WO.Ug rfl (oMv rfl) rfl <| WO.Ug rfl (oIxR (j := j) rfl rfl rfl rfl (by omega) (by omega) rfl) rfl <| WO.Ug rfl (oLdO (f := fX) (us := rows2) (j := j) rfl rfl (outH_get (by omega) g0) (fun _ => rfl) rfl (by decide) (by omega) rfl) rfl <| WO.Ug rfl (oMv rfl) rfl <| WO.Ug rfl (oIxM rfl rfl rfl rfl rfl (by omega) rfl) rfl <| WO.Ug rfl (oLd (l := .agg [_, _, _, _]) rfl rfl rfl) rfl <| WO.Ug rfl (oCall rfl (rsign_run ((rows2.getD j default).2.getD c default)) (by first | (simp [-data_sl]; done) | simp)) rfl <| WO.Ug rfl (oNeq rfl rfl) rfl <| WO.D (fun h103 => ?_) (fun h103 => ?_)
 rotate_left
 ·refine WO.U (oPkT rfl rfl) rfl <| Nw [(6, _), (7, _), (8, _), (9, _), (10, _), (11, _), (14, _), (18, _), (19, _), (87, _), (88, _), (95, _), (96, _), (97, _), (98, _), (99, _), (100, _), (101, _), (102, _), (103, _), (104, _)] ⟨rfl, rfl, rfl, rfl, rfl, rfl, rfl, rfl, rfl, rfl, rfl, rfl, rfl, rfl, rfl, rfl, rfl, rfl, rfl, rfl, rfl, trivial⟩ <| WC.cF1 rfl <| WC.skip <| after_normal <| WC.weak [(6, _), (7, _), (8, _), (9, _), (10, _), (11, _), (18, _), (19, _), (87, _), (88, _), (95, _), (96, _), (97, _), (98, _), (99, _), (100, _), (101, _), (102, _), (103, _)] ⟨rfl, rfl, rfl, rfl, rfl, rfl, rfl, rfl, rfl, rfl, rfl, rfl, rfl, rfl, rfl, rfl, rfl, rfl, rfl, trivial⟩ <| WC.reg1z (z := 2) rfl <| WO.U (cI (((j + 1 : Nat) : Int)) (oAdd64 rfl rfl (by omega)) (by omega)) rfl <| Um rfl rfl <| Wn <| loopR_normal <| ⟨⟨j + 1, rows2⟩, ⟨rfl, rfl, rfl, rfl, rfl, rfl, rfl, rfl, rfl, rfl, trivial⟩, (subsM_mk3 outH_self (outH_get (by omega) g0) (outH_get (by omega) (g1 (by decide) g0)) (outH_get (by omega) (g1 (by decide) (g1 (by decide) g0)))), ⟨by omega, hl4, (by have := elim_keep (A := vX rows2) (M := M) (j := j) (by omega) (by rw [hMl]; exact hst) (elr_neg (.inr (by rw [← hej, ← vX_ent]; exact num_sign.1 (by omega)))).symm; rwa [hMl] at this), by omega⟩, by show rows.length - (j + 1) < rows.length - j; omega⟩
 refine WO.U (oPkT rfl rfl) rfl <| Nw [(6, _), (7, _), (8, _), (9, _), (10, _), (11, _), (14, _), (18, _), (19, _), (87, _), (88, _), (95, _), (96, _), (97, _), (98, _), (99, _), (100, _), (101, _), (102, _), (103, _), (104, _)] ⟨rfl, rfl, rfl, rfl, rfl, rfl, rfl, rfl, rfl, rfl, rfl, rfl, rfl, rfl, rfl, rfl, rfl, rfl, rfl, rfl, rfl, trivial⟩ <| WC.cT1 rfl ?_
 have hen2 : ent M j c ≠ 0 := by rw [← hej, ← vX_ent]; exact fun k => h103 (num_sign.2 k)
 have hbj : ∀ x, x ∈ (rows2.getD j default).2 → Bd (2 * β + 1) x.1 := by
  intro x hx
  have := hMb.row j
  rw [← hj1, vX_getD] at this
  exact this _ (List.mem_map.2 ⟨x, hx, rfl⟩)
 have hbl : ∀ x, x ∈ (rows2.getD leads.length default).2 → Bd (2 * β + 1) x.1 := by
  intro x hx
  have := hMb.row leads.length
  rw [← hj2, vX_getD] at this
  exact this _ (List.mem_map.2 ⟨x, hx, rfl⟩)
 have hbe := hbj _ (getD_mem (show c < (rows2.getD j default).2.length by omega))
 obtain ⟨r, hr, nw, rfl, hnw⟩ := madded_run (rows2.getD j default).1 (rows2.getD leads.length default).1 (rows2.getD j default).2 (rows2.getD leads.length default).2 (xneg ((rows2.getD j default).2.getD c default)) (by omega) (by omega) (fun x hx => (hbj x hx).mono (by omega)) (fun x hx => (hbl x hx).mono (by omega)) (hbe.neg.mono (by omega))
 refine WC.draw1z (z := 21) rfl (by kernel_rfl) <| Dm rfl rfl <| Dm rfl rfl <| Dm rfl rfl <| Dm rfl rfl <| WD.U (oIxR (j := j) rfl rfl rfl rfl (by omega) (by omega) rfl) rfl <| WD.U (oLdO (f := fX) (us := rows2) (j := j) rfl rfl (outH_get (by omega) g0) (fun _ => rfl) rfl (by decide) (by omega) rfl) rfl <| Dm rfl rfl <| Dm rfl rfl <| WD.U (oIxR (j := j) rfl rfl rfl rfl (by omega) (by omega) rfl) rfl <| WD.U (oLdO (f := fX) (us := rows2) (j := j) rfl rfl (outH_get (by omega) g0) (fun _ => rfl) rfl (by decide) (by omega) rfl) rfl <| Dm rfl rfl <| WD.U (oIxM rfl rfl rfl rfl rfl (by omega) rfl) rfl <| WD.U (oLd (l := .agg [_, _, _, _]) rfl rfl rfl) rfl <| WD.U (oCall rfl (rneg_run ((rows2.getD j default).2.getD c default)) (by first | (simp [-data_sl]; done) | simp)) rfl <| Dm rfl rfl <| Dm rfl rfl <| WD.U (oIxR (j := leads.length) rfl rfl rfl rfl (by omega) (by omega) rfl) rfl <| WD.U (oLdO (f := fX) (us := rows2) (j := leads.length) rfl rfl (outH_get (by omega) g0) (fun _ => rfl) rfl (by decide) (by omega) rfl) rfl <| WD.U (oCall rfl (hr) (by first | (simp [-data_sl]; done) | simp)) rfl <| WD.U (oIxR (j := j) rfl rfl rfl rfl (by omega) (by omega) rfl) rfl <| WD.S0 (oStO (f := fX) (us := rows2) (1, nw) rfl rfl rfl (outH_get (by omega) g0) (fun _ => rfl) rfl rfl (by omega) rfl) <| WD.nil (drawOk_of (by kernel_rfl)) rfl <| after_normal ?_
 refine WC.weak [(6, _), (7, _), (8, _), (9, _), (10, _), (11, _), (18, _), (19, _), (87, _), (88, _), (95, _), (96, _), (97, _), (98, _), (99, _), (100, _), (101, _), (102, _), (103, _)] ⟨rfl, rfl, rfl, rfl, rfl, rfl, rfl, rfl, rfl, rfl, rfl, rfl, rfl, rfl, rfl, rfl, rfl, rfl, rfl, trivial⟩ <| WC.reg1z (z := 2) rfl <| WO.U (cI (((j + 1 : Nat) : Int)) (oAdd64 rfl rfl (by omega)) (by omega)) rfl <| Um rfl rfl <| Wn <| loopR_normal <| ⟨⟨j + 1, rows2.set j (1, nw)⟩, ⟨rfl, congrArg some (by rw [List.length_set]), rfl, rfl, rfl, rfl, rfl, rfl, rfl, rfl, trivial⟩, subsM_mk3 (fun hu => g1 (by omega) (outH_self hu)) g0 (g1 (by decide) (outH_get (by omega) (g1 (by decide) g0))) (g1 (by decide) (outH_get (by omega) (g1 (by decide) (g1 (by decide) g0)))), ⟨by omega, by rw [List.length_set]; exact hl4, by rw [vX_set]; exact (by have := elim_next (A := vX rows2) (M := M) (j := j) (by rw [vX_len]; omega) (by omega) (by rw [hMl]; exact hst) (x := nw.map (·.1)) (by rw [elr_pos (by omega) hen2, ← hej, ← hj1, ← hj2, vX_getD, vX_getD, ← vX_ent, hnw]; rfl); rwa [hMl] at this), by omega⟩, by show rows.length - (j + 1) < rows.length - j; omega⟩
theorem mreduced_runB (rows0 : List X1) (cols w : Nat) (hne : 0 < rows0.length) (ln : rows0.length < 1000000) (hw : Wid w (vX rows0)) (hcw : cols ≤ w) (lw : w < 1000000) (β : Nat) (hβ : β ≤ 268435456) (hgb : GB (vX rows0) cols β) : ∃ r, Run Try.prog T E0 (.call 25 [.sl 1 (rows0.map fX), .v (.int .i64 (cols : Int))] r) ∧ ∃ (rows : List X1) (d : X), r = .tup [.sl 1 (rows.map fX), .sl (kd (gjn (vX rows0) cols).2.length) ((gjn (vX rows0) cols).2.map d64), lvX d] ∧ vX rows = (gjn (vX rows0) cols).1 ∧ d.1 = gjd (vX rows0) cols := by
 refine mkcallE Try.func25 rfl rfl (Nat.le_of_ble_eq_true rfl) ((mreduced_wcB rows0 cols w hne ln hw hcw lw β hβ hgb).mono ?_)
 rintro x e h n ⟨hx, q, rows, d, h1, h2, h3, h4, h5⟩
 refine ⟨.tup [.sl 1 (rows.map fX), .sl (kd (gjn (vX rows0) cols).2.length) ((gjn (vX rows0) cols).2.map d64), lvX d], ⟨rows, d, rfl, h1, h2⟩, ?_⟩
 rw [← outR_kd]
 exact postRO (n := n) hx h3 (by simp) h4 (by show (0 : Nat) ≠ 2; decide) rfl (by decide) rfl (rows_of (n := 1) (fun _ => rfl)) (data_of dfX) h5 (by decide) (rows_of (n := 1) (fun _ => rfl)) data_rows_d64 (by simp)
theorem mreduced_ownB (rows0 : List X1) (cols w : Nat) (hne : 0 < rows0.length) (ln : rows0.length < 1000000) (hw : Wid w (vX rows0)) (hcw : cols ≤ w) (lw : w < 1000000) (β : Nat) (hβ : β ≤ 268435456) (hgb : GB (vX rows0) cols β) : ∃ sz len ob rest, Run Try.prog T E0 (.callO 25 [.sl 1 (rows0.map fX), .v (.int .i64 (cols : Int))] (.tup (.ref 0 sz 0 len :: rest)) ob) ∧ sz = 1 ∧ ∃ (rows : List X1) (d : X), len = rows.length ∧ ob = { cells := (rows.map fX).flatten, sz := 1, elem := 75, st := 0 } ∧ rest = [.sl (kd (gjn (vX rows0) cols).2.length) ((gjn (vX rows0) cols).2.map d64), lvX d] ∧ vX rows = (gjn (vX rows0) cols).1 := by
 refine mkcallOt Try.func25 rfl rfl (Nat.le_of_ble_eq_true rfl) ((mreduced_wcB rows0 cols w hne ln hw hcw lw β hβ hgb).mono ?_)
 rintro x e h n ⟨hx, q, rows, d, h1, h2, h3, h4, h5⟩
 refine ⟨hx, 1, rows.length, _, 4, q, 1, 3, _, [lvX d], ⟨rfl, rows, d, rfl, rfl, by rw [outR_kd], h1⟩, h3, h4, rfl, rfl, ?_, fun hu => ⟨?_, h5 hu⟩, by decide, rows_of (n := 1) (fun _ => rfl), data_rows_d64, by simp⟩
 ·intro c hc
  obtain ⟨row, hr, hc⟩ := List.mem_flatten.1 hc
  exact data_of dfX row hr c hc
 ·intro hq
  have h6 := h5 hu
  rw [← hq, h4] at h6
  exact absurd (congrArg Ob.elem (Option.some.inj h6)) (by show ¬ (75 : Nat) = 3; decide)
theorem mrank_runB (k : Nat) (a : List M1) (hI : IM a) (hV : VM a = true) (β : Nat) (hβ : β ≤ 268435456) (hgb : GB (vM a) (wd a) β) (hne : 0 < a.length) : Run Try.prog T E0 (.call 8 [.sl k (a.map fM)] (lvRank a)) := by
 obtain ⟨l1, l2'⟩ := VM.facts hV
 have l2 : ∀ r, r ∈ a → r.2.length < 1099511627776 := fun r hr => by have := (l2' r hr).2.1; omega
 have hw8 : wd a ≤ 60 := by have := l2' _ (getD_mem (us := a) (i := 0) hne); omega
 refine mkcall Try.func8 rfl rfl (Nat.le_of_ble_eq_true rfl) <| Rg 2 rfl <| Ua rfl rfl <| Ua rfl rfl <| Wn <| WC.assoc <| Rg 3 rfl <| Um rfl rfl <| WO.U (oCall rfl (mvalid_run k a hI (by omega) (fun r hr => by have := l2 r hr; omega)) (by first | exact dc | exact dc1 | (simp [-data_sl]; done) | simp)) rfl <| WO.B (fun h8 => ?_) (fun h8 => ?_)
 rotate_left
 ·refine WO.U (oNot rfl) rfl <| Wn <| WC.cT rfl <| WC.assoc <| Rg 2 rfl <| Ua rfl rfl <| Ua rfl rfl <| Wn <| WC.rets <| post (n := 0) (.inr rfl) rfl ?_ (by first | exact dc | exact dc1 | (simp [-data_sl]; done) | simp)
  unfold lvRank rk; rw [h8, if_neg (by decide), if_neg (by decide)]; rfl
 refine WO.U (oNot rfl) rfl <| Wn <| WC.cF rfl <| WC.skips ?_
 obtain ⟨f1, f2⟩ := VM.facts h8
 have hvn : ∀ r, r ∈ a → ∀ x, x ∈ r.2 → VN x := fun r hr => (f2 r hr).2.2
 have hl8 : (a.map nxr).length = a.length := by simp
 obtain ⟨r, hr, rows, d, rfl, hrows, hd⟩ := mreduced_runB (a.map nxr) (wd a) (wd a) (by rw [hl8]; exact hne) (by rw [hl8]; omega) (by rw [vX_nx a]; exact vM_wid h8) (by omega) (by omega) β hβ (by rw [vX_nx a]; exact hgb)
 rw [vX_nx a] at hrows hr
 refine Rg 13 rfl <| Um rfl rfl <| WO.U (OP.cast (b := .sl 1 ((a.map nxr).map fX)) (oCall rfl (mrats_run k a (by omega) hI (fun r hr x hx => by have := (hvn r hr x hx).1; omega) l2) (by first | exact dc | exact dc1 | (simp [-data_sl]; done) | simp)) (by rw [hl8, kd, if_neg (by omega)])) rfl <| Um rfl rfl <| WO.U (oCall rfl (mwidth_run k a) (by first | exact dc | exact dc1 | (simp [-data_sl]; done) | simp)) rfl <| WO.U (oCall rfl (hr) (by first | exact dc | exact dc1 | (simp [-data_sl]; done) | simp)) rfl <| Um rfl rfl <| WO.U (oEx rfl rfl) rfl <| WO.U (oEx rfl rfl) rfl <| WO.U (oEx rfl rfl) rfl <| WO.S (oAl rfl) rfl <| Ua rfl rfl <| Ua rfl rfl <| WO.S0 (oSt (cs' := [_, _, _, _]) rfl rfl rfl g0 rfl rfl rfl rfl) <| Nw [(5, _)] ⟨rfl, trivial⟩ <| Rg 4 rfl <| Um rfl rfl <| WO.U (oLenM rfl rfl) rfl <| Ua rfl rfl <| Ua rfl rfl <| Wn <| WC.ret <| post (n := 0) (.inr rfl) rfl ?_ (by first | exact dc | exact dc1 | (simp [-data_sl]; done) | simp)
 show LV.tup [_, _] = lvRank a
 unfold lvRank rk; rw [if_pos h8, if_pos h8]
theorem mdetf_runB (k : Nat) (a : List M1) (hI : IM a) (hV : VM a = true) (β : Nat) (hβ : β ≤ 268435456) (hgb : GB (vM a) (wd a) β) (hne : 0 < a.length) : Run Try.prog T E0 (.call 6 [.sl k (a.map fM)] (lvDet a)) := by
 obtain ⟨l1, l2'⟩ := VM.facts hV
 have l2 : ∀ r, r ∈ a → r.2.length < 1099511627776 := fun r hr => by have := (l2' r hr).2.1; omega
 have hw8 : wd a ≤ 60 := by have := l2' _ (getD_mem (us := a) (i := 0) hne); omega
 refine mkcall Try.func6 rfl rfl (Nat.le_of_ble_eq_true rfl) <| Rg 2 rfl <| WO.S (oAl rfl) rfl <| Ua rfl rfl <| Wn <| WC.block <| Rg 4 rfl <| Um rfl rfl <| WO.U (oCall rfl (mvalid_run k a hI (by omega) (fun r hr => by have := l2 r hr; omega)) (by first | exact dc | exact dc1 | (simp [-data_sl]; done) | simp)) rfl <| WO.B (fun h9 => ?_) (fun h9 => ?_)
 rotate_left
 ·refine WO.U (oNot rfl) rfl <| Ua rfl rfl <| Wn <| WC.cT1 rfl <| Rg 3 rfl <| WO.U (oBd (cs := [_, _]) rfl rfl rfl rfl rfl) rfl <| WO.S0 (oSt (cs' := [_, _]) rfl rfl rfl (by repeat (first | exact g0 | refine g1 (by decide) ?_)) rfl rfl rfl rfl) ?_
  refine Ua rfl rfl <| Wn <| WC.ret <| after_ret <| post (n := 0) (.inr rfl) rfl ?_ (by first | exact dc | exact dc1 | (simp [-data_sl]; done) | simp)
  rw [lvDet_no1 h9]; rfl
 refine WO.U (oNot rfl) rfl <| Ua rfl rfl <| Wn <| WC.cF1 rfl <| Rg 4 rfl <| Um rfl rfl <| WO.U (oCall rfl (msquare_run k a) (by first | exact dc | exact dc1 | (simp [-data_sl]; done) | simp)) rfl <| WO.B (fun h14 => ?_) (fun h14 => ?_)
 rotate_left
 ·refine WO.U (oNot rfl) rfl <| Ua rfl rfl <| Wn <| WC.cT1 rfl <| Rg 3 rfl <| WO.U (oBd (cs := [_, _]) rfl rfl rfl rfl rfl) rfl <| WO.S0 (oSt (cs' := [_, _]) rfl rfl rfl (by repeat (first | exact g0 | refine g1 (by decide) ?_)) rfl rfl rfl rfl) ?_
  refine Ua rfl rfl <| Wn <| WC.ret <| after_ret <| post (n := 0) (.inr rfl) rfl ?_ (by first | exact dc | exact dc1 | (simp [-data_sl]; done) | simp)
  rw [lvDet_no2 h9 h14]; rfl
 refine WO.U (oNot rfl) rfl <| Ua rfl rfl <| Wn <| WC.cF1 rfl <| WC.skip <| after_normal ?_
 obtain ⟨f1, f2⟩ := VM.facts h9
 have hvn : ∀ r, r ∈ a → ∀ x, x ∈ r.2 → VN x := fun r hr => (f2 r hr).2.2
 have hsq := sqb_wd h14
 have hl8 : (a.map nxr).length = a.length := by simp
 obtain ⟨r, hr, rows, d, rfl, hrows, hd⟩ := mreduced_runB (a.map nxr) (wd a) (wd a) (by rw [hl8]; exact hne) (by rw [hl8]; omega) (by rw [vX_nx a]; exact vM_wid h9) (by omega) (by omega) β hβ (by rw [vX_nx a]; exact hgb)
 rw [vX_nx a] at hrows hr hd
 have hrk : (gjn (vM a) (wd a)).2.length = (gjn (vM a) a.length).2.length := by rw [hsq]
 refine Rg 13 rfl <| Um rfl rfl <| WO.U (OP.cast (b := .sl 1 ((a.map nxr).map fX)) (oCall rfl (mrats_run k a (by omega) hI (fun r hr x hx => by have := (hvn r hr x hx).1; omega) l2) (by first | exact dc | exact dc1 | (simp [-data_sl]; done) | simp)) (by rw [hl8, kd, if_neg (by omega)])) rfl <| Um rfl rfl <| WO.U (oCall rfl (mwidth_run k a) (by first | exact dc | exact dc1 | (simp [-data_sl]; done) | simp)) rfl <| WO.U (oCall rfl (hr) (by first | exact dc | exact dc1 | (simp [-data_sl]; done) | simp)) rfl <| Um rfl rfl <| WO.U (oEx rfl rfl) rfl <| WO.U (oEx rfl rfl) rfl <| WO.U (oEx rfl rfl) rfl <| WO.S (oAl rfl) rfl <| Ua rfl rfl <| Ua rfl rfl <| WO.S0 (oSt (cs' := [_, _, _, _]) rfl rfl rfl (by repeat (first | exact g0 | refine g1 (by decide) ?_)) rfl rfl rfl rfl) ?_
 refine Nw [(0, _), (2, _), (5, _), (6, _)] ⟨rfl, rfl, rfl, rfl, trivial⟩ <| WC.assoc <| Rg 5 rfl <| Um rfl rfl <| WO.U (oLenM rfl rfl) rfl <| Um rfl rfl <| WO.U (cI ((a.length : Int)) (oLenM rfl rfl) (by simp)) rfl <| WO.U (oLss rfl rfl) rfl <| WO.D (fun h30 => ?_) (fun h30 => ?_)
 rotate_left
 ·refine Wn <| WC.cF rfl <| WC.skips ?_
  have hdet : detV a = d.1 := by unfold detV; rw [if_neg (by omega), hd, hsq]
  refine Rg 6 rfl <| WO.U (oLdP (l := lvX d) rfl rfl (by repeat (first | exact g0 | refine g1 (by decide) ?_)) rfl rfl) rfl ?_
  refine WO.U (OP.cast (b := .tup [lvM (detn a), .v (.int .i64 (dete a))]) (oCall rfl (nout_run d) (by first | exact dc | exact dc1 | (simp [-data_sl]; done) | simp)) (by rw [← hdet]; exact (lvDet_ok h9 h14).symm)) rfl <| WO.U (oEx rfl rfl) rfl <| WO.U (oEx rfl rfl) rfl <| WO.S0 (oSt (cs' := [_, _]) rfl rfl rfl (by repeat (first | exact g0 | refine g1 (by decide) ?_)) rfl rfl rfl rfl) ?_
  refine Ua rfl rfl <| Wn <| WC.ret <| post (n := 0) (.inr rfl) rfl ?_ (by first | exact dc | exact dc1 | (simp [-data_sl]; done) | simp)
  rfl
 refine Wn <| WC.cT rfl ?_
 have hdet : detV a = 0 := by unfold detV; rw [if_pos (by omega)]
 refine Rg 2 rfl <| WO.U (oBd (cs := [_, _, _, _]) rfl rfl rfl rfl rfl) rfl <| WO.S0 (oSt (cs' := [_, _, _, _]) rfl rfl rfl (by repeat (first | exact g0 | refine g1 (by decide) ?_)) rfl rfl rfl rfl) ?_
 refine Wn <| Rg 6 rfl <| WO.U (oLdP (l := lvX x0) rfl rfl (by repeat (first | exact g0 | refine g1 (by decide) ?_)) rfl rfl) rfl ?_
 refine WO.U (OP.cast (b := .tup [lvM (detn a), .v (.int .i64 (dete a))]) (oCall rfl (nout_run x0) (by first | exact dc | exact dc1 | (simp [-data_sl]; done) | simp)) (by rw [show (x0.1 : Rat) = 0 from rfl, ← hdet]; exact (lvDet_ok h9 h14).symm)) rfl <| WO.U (oEx rfl rfl) rfl <| WO.U (oEx rfl rfl) rfl <| WO.S0 (oSt (cs' := [_, _]) rfl rfl rfl (by repeat (first | exact g0 | refine g1 (by decide) ?_)) rfl rfl rfl rfl) ?_
 refine Ua rfl rfl <| Nw [(2, _), (3, _)] ⟨rfl, rfl, trivial⟩ <| WC.ret <| post (n := 0) (.inr rfl) rfl ?_ (by first | exact dc | exact dc1 | (simp [-data_sl]; done) | simp)
 rfl
theorem minverse_runB (k : Nat) (a : List M1) (hI : IM a) (hV : VM a = true) (β : Nat) (hβ : β ≤ 268435456) (hgb : GB (wU (vM a)) a.length β) (hne : 0 < a.length) : Run Try.prog T E0 (.call 9 [.sl k (a.map fM)] (lvInv a)) := by
 obtain ⟨l1, l2'⟩ := VM.facts hV
 have l2 : ∀ r, r ∈ a → r.2.length < 1099511627776 := fun r hr => by have := (l2' r hr).2.1; omega
 have hw8 : wd a ≤ 60 := by have := l2' _ (getD_mem (us := a) (i := 0) hne); omega
 refine mkcall Try.func9 rfl rfl (Nat.le_of_ble_eq_true rfl) <| Rg 2 rfl <| Ua rfl rfl <| Ua rfl rfl <| Wn <| WC.block <| Rg 4 rfl <| Um rfl rfl <| WO.U (oCall rfl (mvalid_run k a hI (by omega) (fun r hr => by have := l2 r hr; omega)) (by first | exact dc | exact dc1 | (simp [-data_sl]; done) | simp)) rfl <| WO.B (fun h15 => ?_) (fun h15 => ?_)
 rotate_left
 ·refine WO.U (oNot rfl) rfl <| Ua rfl rfl <| Wn <| WC.cT1 rfl <| Rg 2 rfl <| Ua rfl rfl <| Ua rfl rfl <| Wn <| WC.ret <| after_ret <| post (n := 0) (.inr rfl) rfl ?_ (by first | exact dc | exact dc1 | (simp [-data_sl]; done) | simp)
  rw [lvInv_no1 h15]; rfl
 refine WO.U (oNot rfl) rfl <| Ua rfl rfl <| Wn <| WC.cF1 rfl <| Rg 4 rfl <| Um rfl rfl <| WO.U (oCall rfl (msquare_run k a) (by first | exact dc | exact dc1 | (simp [-data_sl]; done) | simp)) rfl <| WO.B (fun h19 => ?_) (fun h19 => ?_)
 rotate_left
 ·refine WO.U (oNot rfl) rfl <| Ua rfl rfl <| Wn <| WC.cT1 rfl <| Rg 2 rfl <| Ua rfl rfl <| Ua rfl rfl <| Wn <| WC.ret <| after_ret <| post (n := 0) (.inr rfl) rfl ?_ (by first | exact dc | exact dc1 | (simp [-data_sl]; done) | simp)
  rw [lvInv_no2 h15 h19]; rfl
 refine WO.U (oNot rfl) rfl <| Ua rfl rfl <| Wn <| WC.cF1 rfl <| WC.skip <| after_normal ?_
 obtain ⟨f1, f2⟩ := VM.facts h15
 have hvn : ∀ r, r ∈ a → ∀ x, x ∈ r.2 → VN x := fun r hr => (f2 r hr).2.2
 have hsq := sqb_wd h19
 have hmr := mrats_run k a (by omega) hI (fun r hr x hx => by have := (hvn r hr x hx).1; omega) l2
 obtain ⟨al, hal⟩ : ∃ al, al = a.map nxr := ⟨_, rfl⟩
 have hl8 : al.length = a.length := by rw [hal]; simp
 have hw : ∀ r, r ∈ al → r.2.length = al.length := fun r hr => by
  rw [hal] at hr; obtain ⟨s, hs, rfl⟩ := List.mem_map.1 hr
  show (s.2.map nx).length = _; rw [List.length_map, (f2 s hs).1, hsq, hl8]
 have hk : ∀ r, r ∈ al → r.1 = kd r.2.length := fun r hr => by
  rw [hal] at hr; obtain ⟨s, hs, rfl⟩ := List.mem_map.1 hr; rfl
 have hvm : vX al = vM a := by rw [hal]; exact vX_nx a
 have hgb' : GB (wU (vX al)) al.length β := by rw [hvm, hl8]; exact hgb
 rw [← hal] at hmr
 have hvmr := congrArg List.length hvm
 have hiS : invS a = gjn (wU (vX al)) al.length := by unfold invS; rw [hvm, hl8]
 rw [kd, if_neg (by omega)] at hmr
 refine Rg 3 rfl <| Um rfl rfl <| WO.U (cI ((al.length : Int)) (oLenM rfl rfl) (by simp [hl8])) rfl <| Ua rfl rfl <| Wn <| Rg 1 rfl <| Ua rfl rfl <| Nw [(0, _), (4, _), (5, _)] ⟨rfl, rfl, rfl, trivial⟩ <| Rg 3 rfl <| Um rfl rfl <| WO.U (oCall rfl (mone_run al.length (by omega)) (by first | exact dc | exact dc1 | (simp [-data_sl]; done) | simp)) rfl <| Ua rfl rfl <| Wn <| WC.assoc <| Rg 4 rfl <| Um rfl rfl <| WO.U (oCall rfl (hmr) (by first | exact dc | exact dc1 | (simp [-data_sl]; done) | simp)) rfl <| WO.U (oLenM rfl rfl) rfl <| Um rfl rfl <| Wn <| WC.block <| WC.loopV (α := Nat × Nat × (List X1)) (fun ⟨i, q, ds⟩ => [(4, .v (.int .i64 (al.length : Int))), (5, outV q 1 (ds.map fX)), (6, .sl 1 (((List.range al.length).map fun i => (((1 : Nat), uX al.length i) : X1)).map fX)), (26, .sl 1 (al.map fX)), (27, .v (.int .i64 (al.length : Int))), (28, .v (.int .i64 (i : Int)))]) (fun ⟨i, q, ds⟩ => outH q 1 75 (ds.map fX) []) (fun ⟨i, q, ds⟩ n => i ≤ al.length ∧ ds = (List.range i).map (wUX al) ∧ ds.length = i ∧ q < n) (fun ⟨i, q, ds⟩ => al.length - i) (0, 0, []) ⟨rfl, rfl, rfl, rfl, rfl, rfl, trivial⟩ trivial ⟨Nat.zero_le _, rfl, rfl, by omega⟩ ?_
 rintro ⟨i, q, ds⟩ n hF
 change WC _ _ _ _ _ [(4, .v (.int .i64 (al.length : Int))), (5, outV q 1 (ds.map fX)), (6, .sl 1 (((List.range al.length).map fun i => (((1 : Nat), uX al.length i) : X1)).map fX)), (26, .sl 1 (al.map fX)), (27, .v (.int .i64 (al.length : Int))), (28, .v (.int .i64 (i : Int)))] (outH q 1 75 (ds.map fX) []) n _
 obtain ⟨hi, hds, hdl, hq⟩ := hF
 refine Rg 1 rfl <| WO.U (oLss rfl rfl) rfl <| WO.D (fun h29 => ?_) (fun h29 => ?_)
 ·refine Wn <| WC.cT rfl <| WC.skips <| WC.block <| Rg 5 rfl <| Um rfl rfl <| WO.U (oIxM rfl rfl rfl rfl rfl (by omega) rfl) rfl <| WO.U (oLd rfl rfl rfl) rfl <| Ua rfl rfl <| Ua rfl rfl <| WO.nil ?_
  have hm := getD_mem (us := al) (i := i) (by omega)
  have hrw := hw _ hm
  have hrk := hk _ hm
  have hc0 : ((al.getD i default).2.map xc) = [] → Run Try.prog T E0 (.call 35 [.sl (al.getD i default).1 ((al.getD i default).2.map xc)] (.sl 0 [])) := fun h => by
   rw [hrk, xc_nil h]; exact clone1_nil
  have hc1 : ((al.getD i default).2.map xc) ≠ [] → Run Try.prog T E0 (.callO 35 [.sl (al.getD i default).1 ((al.getD i default).2.map xc)] (.ref 0 4 0 ((al.getD i default).2.map xc).length) { cells := ((al.getD i default).2.map xc).flatten, sz := 4, elem := 58, st := 0 }) := fun h => by
   have h2 : 0 < (al.getD i default).2.length := by
    rcases Nat.eq_zero_or_pos (al.getD i default).2.length with h3 | h3
    ·exact absurd (by rw [List.length_eq_zero_iff.1 h3]; rfl) h
    ·exact h3
   obtain ⟨_, _, _, h4, rfl, rfl, rfl⟩ := clone1_own (al.getD i default).1 (al.getD i default).2 (by rw [hrk, kd, if_neg (by omega)]; decide) h2 (by omega)
   rw [List.length_map]; exact h4
  have hux : (uX al.length i).length = al.length := uX_len _ _
  have hul : ((List.range al.length).map fun i => (((1 : Nat), uX al.length i) : X1)).length = al.length := by simp
  refine WC.draw1F (z := 11) rfl (by kernel_rfl) <| Dm rfl rfl <| Dm rfl rfl <| WD.callV (us := (al.getD i default).2.map xc) (sz := 4) (el := 58) rfl hc0 hc1 (by first | exact dc | exact dc1 | (simp [-data_sl]; done) | simp) rfl <| Dm rfl rfl <| Dm rfl rfl <| WD.U (oIxM (j := i) rfl rfl rfl rfl (by omega) (by omega) rfl) rfl <| WD.U (OP.cast (b := .sl 1 ((uX al.length i).map xc)) (oLd rfl rfl rfl) (by rw [range_getD (by omega)])) rfl <| WD.ap (te := ti58) (k0 := 0) (us := (al.getD i default).2.map xc) (rows := (uX al.length i).map xc) (.inl rfl) rfl rfl rfl rfl rfl (by decide) (rows_of (n := 4) (fun _ => rfl)) (rows_of (n := 4) (fun _ => rfl)) (by rw [List.length_map, hux]; omega) (by rw [List.length_map, List.length_map, hrw, hux]; show (2 * (al.length + al.length) + 256) * 64 ≤ _; omega) (by rw [List.length_map, List.length_map, hrw, hux]; show al.length + al.length < _; omega) (outH_get (by omega) rfl) rfl <| WD.U (oBs' (cs := [_]) (rows := [[_]]) rfl rfl (by decide) rfl rfl rfl) rfl <| WD.weakH _ (outH_swap (by omega)) <| WD.ap (te := ti75) (k0 := 0) (us := ds.map fX) (rows := [[_]]) (.inl rfl) rfl rfl rfl (by rw [outK_zero]; rfl) rfl (by decide) (by intro r hr; rw [List.mem_singleton] at hr; subst hr; rfl) (rows_of (n := 1) (fun _ => rfl)) (by simp) (by rw [List.length_map]; show (2 * (ds.length + 1) + 256) * 24 ≤ _; omega) (by rw [List.length_map]; show ds.length + 1 < _; omega) (g1 (by omega) rfl) rfl <| WD.U (oAs rfl) rfl <| WD.nil (drawOk_ren (rn n) (by simp only [List.reverse_cons, List.reverse_nil, List.nil_append, List.cons_append, List.map_cons, List.map_nil, ren, Nat.add_assoc, rn_add, rn_lt hq]; kernel_rfl)) rfl <| Fz.rows (d := 5) ds (wUX al i) (ys := ((al.getD i default).2 ++ (uX al.length i)).map xc) [(4, _), (6, _), (26, _), (27, _), (28, _)] ⟨rfl, rfl, rfl, rfl, rfl, trivial⟩ rfl (by simp) rfl (by omega) (by simp) (by decide) (by simp) (rows_of (n := 4) (fun _ => rfl)) (data_of dxc) <| after_normal <| WC.reg1z (z := 2) rfl <| WO.U (cI (((i + 1 : Nat) : Int)) (oAdd64 rfl rfl (by omega)) (by omega)) rfl <| Um rfl rfl <| Wn <| loopR_normal <| ⟨⟨i + 1, _, ds ++ [wUX al i]⟩, ⟨rfl, rfl, rfl, rfl, rfl, rfl, trivial⟩, subsM_out, ⟨by omega, by rw [List.range_succ, List.map_append, hds]; rfl, by simp; omega, by omega⟩, by show al.length - (i + 1) < al.length - i; omega⟩
 refine Wn <| WC.cF rfl <| WC.exits <| loopR_exit <| after_exit rfl ?_
 obtain ⟨d0, dt, rfl⟩ : ∃ d0 dt, ds = d0 :: dt := by
  cases ds with
  | nil => simp at hdl; omega
  | cons d dt => exact ⟨d, dt, rfl⟩
 obtain rfl : i = al.length := by omega
 have hvw : vX (d0 :: dt) = wU (vX al) := by rw [hds]; exact vX_wU al
 have hwid : Wid (al.length + al.length) (wU (vX al)) := by
  have h := wU_wid (A := vX al) (w := al.length) (fun r hr => by obtain ⟨s, hs, rfl⟩ := List.mem_map.1 hr; rw [List.length_map]; exact hw s hs)
  rwa [vX_len] at h
 obtain ⟨sz, len, ob, rest, hr, rfl, rows, d, rfl, rfl, rfl, hrows⟩ := mreduced_ownB (d0 :: dt) al.length (al.length + al.length) (by simp) (by omega) (by rw [hvw]; exact hwid) (by omega) (by omega) β hβ (by rw [hvw]; exact hgb')
 rw [hvw] at hr hrows
 obtain ⟨_, gw, gl, gc⟩ := hgb'.all hwid (by omega) al.length (Nat.le_refl _)
 have hrl : rows.length = al.length := by
  have := congrArg List.length hrows
  rw [gjn_len, wU_len, vX_len, vX_len] at this; exact this
 rw [wU_len, vX_len] at gl
 rw [← hiS] at hr hrows gw gl
 have hwr := wid_vX gw hrows
 clear hiS hvmr
 refine Rg 11 rfl <| Um rfl rfl <| Um rfl rfl <| WO.S (oCallOF [.sl 1 ((d0 :: dt).map fX), .v (.int .i64 (al.length : Int))] [(q, { cells := ((d0 :: dt).map fX).flatten, sz := 1, elem := 75, st := 1 })] rfl hr (.own (ob := { cells := ((d0 :: dt).map fX).flatten, sz := 1, elem := 75, st := 0 }) ((d0 :: dt).map fX) (by simp) g0 (by show (0 : Nat) ≠ 2; decide) rfl (by decide) (by simp [keys]) rfl (rows_of (n := 1) (fun _ => rfl)) (data_of dfX) (.data (.v _) .nil)) (by intro p hp; rw [List.mem_singleton] at hp; subst hp; exact ⟨_, g0, by show (0 : Nat) ≠ 2; decide, rfl⟩)) rfl <| Um rfl rfl <| WO.U (oEx rfl rfl) rfl <| WO.U (oEx rfl rfl) rfl <| WO.U (oEx rfl rfl) rfl <| WO.S (oAl rfl) rfl <| Ua rfl rfl <| Ua rfl rfl <| WO.S0 (oSt (cs' := [_, _, _, _]) rfl rfl rfl g0 rfl rfl rfl rfl) <| Nw [(4, _), (9, _), (10, _)] ⟨rfl, rfl, rfl, trivial⟩ <| WC.assoc <| Rg 4 rfl <| Um rfl rfl <| WO.U (oLenM rfl rfl) rfl <| Um rfl rfl <| WO.U (oLss rfl rfl) rfl <| WO.D (fun h54 => ?_) (fun h54 => ?_)
 ·refine Wn <| WC.cT rfl <| WC.assoc <| Rg 2 rfl <| Ua rfl rfl <| Ua rfl rfl <| Wn <| WC.rets <| post (n := 0) (.inr rfl) rfl ?_ (by first | exact dc | exact dc1 | (simp [-data_sl]; done) | simp)
  rw [lvInv_no3 h15 h19 (by omega)]; rfl
 refine Wn <| WC.cF rfl <| WC.skips <| WC.assoc <| Rg 3 rfl <| Um rfl rfl <| WO.U (oLenR rfl rfl) rfl <| Um rfl rfl <| Wn <| WC.block <| WC.loopV (α := Nat × Nat × (List X1)) (fun ⟨i, q2, cs⟩ => [(4, .v (.int .i64 (al.length : Int))), (9, .ref q2 1 0 rows.length), (56, .v (.int .i64 (rows.length : Int))), (57, .v (.int .i64 (i : Int)))]) (fun ⟨i, q2, cs⟩ => [(q2, { cells := (cs.map fX).flatten, sz := 1, elem := 75, st := 0 })]) (fun ⟨i, q2, cs⟩ n => i ≤ rows.length ∧ cs = (rows.take i).map (cutX al.length) ++ rows.drop i) (fun ⟨i, q2, cs⟩ => rows.length - i) (0, _, rows) ⟨rfl, rfl, rfl, rfl, trivial⟩ ⟨(by repeat (first | exact g0 | refine g1 (by omega) ?_)), trivial⟩ ⟨Nat.zero_le _, rfl⟩ ?_
 rintro ⟨i, q2, cs⟩ n hF
 change WC _ _ _ _ _ [(4, .v (.int .i64 (al.length : Int))), (9, .ref q2 1 0 rows.length), (56, .v (.int .i64 (rows.length : Int))), (57, .v (.int .i64 (i : Int)))] ([(q2, { cells := (cs.map fX).flatten, sz := 1, elem := 75, st := 0 })]) n _
 obtain ⟨hi, hcs⟩ := hF
 have hcl : cs.length = rows.length := by rw [hcs, half_len hi]
 refine Rg 1 rfl <| WO.U (oLss rfl rfl) rfl <| WO.D (fun h58 => ?_) (fun h58 => ?_)
 rotate_left
 ·refine Wn <| WC.cF rfl <| WC.exits <| loopR_exit <| after_exit rfl ?_
  have hcs' : cs = rows.map (cutX al.length) := by
   rw [hcs, show i = rows.length by omega, List.take_length, List.drop_length, List.append_nil]
  have hcr : ∀ r, r ∈ cs → r.2.length < 1099511627776 := by
   intro r hr
   rw [hcs'] at hr
   obtain ⟨s, hs, rfl⟩ := List.mem_map.1 hr
   have := hwr s hs
   show (s.2.drop al.length).length < _
   rw [List.length_drop]; omega
  have hout : lvOM (cs.mapM (fun r => r.2.mapM fun x => outN x.1)) = lvOM (invO a) := by
   rw [outX_eq, hcs', vX_cut, hrows, hl8]; rfl
  refine Rg 6 rfl <| Um rfl rfl <| WO.S (OP.cast (b := lvOM (invO a)) (oCallF [.sl 1 (cs.map fX)] [(q2, { cells := (cs.map fX).flatten, sz := 1, elem := 75, st := 1 })] rfl (mouts_run 1 cs (by omega) hcr) (.own (ob := { cells := (cs.map fX).flatten, sz := 1, elem := 75, st := 0 }) (cs.map fX) (by rw [List.length_map, hcl]) g0 (by show (0 : Nat) ≠ 2; decide) rfl (by decide) (by simp [keys]) rfl (rows_of (n := 1) (fun _ => rfl)) (data_of dfX) .nil) (by intro p hp; rw [List.mem_singleton] at hp; subst hp; exact ⟨_, g0, by show (0 : Nat) ≠ 2; decide, rfl⟩)) hout) rfl <| WO.U (oEx rfl rfl) rfl <| WO.U (oEx rfl rfl) rfl <| Ua rfl rfl <| Ua rfl rfl <| Wn <| WC.ret <| post (n := 0) (.inr rfl) rfl ?_ (by first | exact dc | exact dc1 | (simp [-data_sl]; done) | simp)
  rw [lvInv_ok h15 h19 (by omega)]; rfl
 refine Wn <| WC.cT rfl <| WC.skips <| WC.block <| Rg 2 rfl <| Um rfl rfl <| Ua rfl rfl <| Wn <| WC.reg1z (z := 10) rfl <| Um rfl rfl <| Um rfl rfl <| Um rfl rfl <| Um rfl rfl <| WO.U (oIxR rfl rfl rfl rfl rfl (by omega) rfl) rfl <| WO.U (OP.cast (b := .sl (rows.getD i default).1 ((rows.getD i default).2.map xc)) (oLdO (f := fX) (us := cs) (j := i) rfl rfl g0 (fun _ => rfl) rfl (by decide) (by omega) rfl) (by rw [hcs, half_getD (by omega)])) rfl <| Um rfl rfl <| WO.U (OP.cast (b := .sl (rows.getD i default).1 (((rows.getD i default).2.drop al.length).map xc)) (oSlLo (i := al.length) rfl rfl rfl (rows_of (f := xc) (n := 4) (fun _ => rfl)) rfl rfl (by rw [List.length_map, hwr _ (getD_mem (by omega))]; omega)) (by rw [List.map_drop])) rfl <| WO.U (oIxR rfl rfl rfl rfl rfl (by omega) rfl) rfl <| WO.S0 (oStO (f := fX) (us := cs) (cutX al.length (rows.getD i default)) rfl rfl rfl g0 (fun _ => rfl) rfl rfl (by omega) rfl) <| Wn <| after_normal <| WC.weak [(4, _), (9, _), (56, _), (57, _)] ⟨rfl, rfl, rfl, rfl, trivial⟩ <| WC.reg1z (z := 2) rfl <| WO.U (cI (((i + 1 : Nat) : Int)) (oAdd64 rfl rfl (by omega)) (by omega)) rfl ?_
 refine Um rfl rfl <| Wn <| loopR_normal <| ⟨⟨i + 1, _, cs.set i (cutX al.length (rows.getD i default))⟩, ⟨rfl, rfl, rfl, rfl, trivial⟩, ⟨g0, trivial⟩, ⟨by omega, ?_⟩, by show rows.length - (i + 1) < rows.length - i; omega⟩
 rw [hcs, half_set (by omega)]
theorem mlinear_runB (al : List X1) (kb : Nat) (bl : List X) (w : Nat) (hne : 0 < al.length) (ln : al.length < 100000) (hw : ∀ r, r ∈ al → r.2.length = w) (hk : ∀ r, r ∈ al → r.1 = kd r.2.length) (hbl : bl.length = al.length) (hw9 : w ≤ 60) (β : Nat) (hβ : β ≤ 268435456) (hgb : GB (wR (vX al) (bl.map (·.1))) w β) : ∃ r, Run Try.prog T E0 (.call 38 [.sl 1 (al.map fX), .sl kb (bl.map xc), .v (.int .i64 (w : Int))] r) ∧ (if nosol (gjn (wR (vX al) (bl.map (·.1))) w) w = true then r = .tup [.v (.int .i64 0), .sl 0 []] else ∃ xs : List X, r = .tup [.v (.int .i64 (solk (gjn (wR (vX al) (bl.map (·.1))) w) w)), .sl 1 (xs.map xc)] ∧ xs.map (·.1) = solv (gjn (wR (vX al) (bl.map (·.1))) w) w (gjn (wR (vX al) (bl.map (·.1))) w).2.length) := by
 refine mkcallE Try.func38 rfl rfl (Nat.le_of_ble_eq_true rfl) <| Rg 2 rfl <| Ua rfl rfl <| Ua rfl rfl <| Wn <| Rg 1 rfl <| Ua rfl rfl <| Wn <| WC.assoc <| Rg 3 rfl <| Um rfl rfl <| WO.U (oLenM rfl rfl) rfl <| Um rfl rfl <| Wn <| WC.block <| WC.loopV (α := Nat × Nat × (List X1)) (fun ⟨i, q, ds⟩ => [(1, .sl kb (bl.map xc)), (2, .v (.int .i64 (w : Int))), (8, outV q 1 (ds.map fX)), (19, .sl 1 (al.map fX)), (20, .v (.int .i64 (al.length : Int))), (21, .v (.int .i64 (i : Int)))]) (fun ⟨i, q, ds⟩ => outH q 1 75 (ds.map fX) []) (fun ⟨i, q, ds⟩ n => i ≤ al.length ∧ ds = (List.range i).map (wX al bl) ∧ ds.length = i ∧ q < n) (fun ⟨i, q, ds⟩ => al.length - i) (0, 0, []) ⟨rfl, rfl, rfl, rfl, rfl, rfl, trivial⟩ trivial ⟨Nat.zero_le _, rfl, rfl, by omega⟩ ?_
 rintro ⟨i, q, ds⟩ n hF
 change WC _ _ _ _ _ [(1, .sl kb (bl.map xc)), (2, .v (.int .i64 (w : Int))), (8, outV q 1 (ds.map fX)), (19, .sl 1 (al.map fX)), (20, .v (.int .i64 (al.length : Int))), (21, .v (.int .i64 (i : Int)))] (outH q 1 75 (ds.map fX) []) n _
 obtain ⟨hi, hds, hdl, hq⟩ := hF
 refine Rg 1 rfl <| WO.U (oLss rfl rfl) rfl <| WO.D (fun h22 => ?_) (fun h22 => ?_)
 ·refine Wn <| WC.cT rfl <| WC.skips <| WC.block <| Rg 5 rfl <| Um rfl rfl <| WO.U (oIxM rfl rfl rfl rfl rfl (by omega) rfl) rfl <| WO.U (oLd rfl rfl rfl) rfl <| Ua rfl rfl <| Ua rfl rfl <| WO.nil ?_
  have hm := getD_mem (us := al) (i := i) (by omega)
  have hrw := hw _ hm
  have hrk := hk _ hm
  have hc0 : ((al.getD i default).2.map xc) = [] → Run Try.prog T E0 (.call 35 [.sl (al.getD i default).1 ((al.getD i default).2.map xc)] (.sl 0 [])) := fun h => by
   rw [hrk, xc_nil h]; exact clone1_nil
  have hc1 : ((al.getD i default).2.map xc) ≠ [] → Run Try.prog T E0 (.callO 35 [.sl (al.getD i default).1 ((al.getD i default).2.map xc)] (.ref 0 4 0 ((al.getD i default).2.map xc).length) { cells := ((al.getD i default).2.map xc).flatten, sz := 4, elem := 58, st := 0 }) := fun h => by
   have h2 : 0 < (al.getD i default).2.length := by
    rcases Nat.eq_zero_or_pos (al.getD i default).2.length with h3 | h3
    ·exact absurd (by rw [List.length_eq_zero_iff.1 h3]; rfl) h
    ·exact h3
   obtain ⟨_, _, _, h4, rfl, rfl, rfl⟩ := clone1_own (al.getD i default).1 (al.getD i default).2 (by rw [hrk, kd, if_neg (by omega)]; decide) h2 (by omega)
   rw [List.length_map]; exact h4
  refine WC.draw1F (z := 12) rfl (by kernel_rfl) <| Dm rfl rfl <| Dm rfl rfl <| WD.callV (us := (al.getD i default).2.map xc) (sz := 4) (el := 58) rfl hc0 hc1 (by first | exact dc | exact dc1 | (simp [-data_sl]; done) | simp) rfl <| Dm rfl rfl <| Dm rfl rfl <| WD.U (oIxM rfl rfl rfl rfl rfl (by omega) rfl) rfl <| WD.U (oLd (l := .agg [_, _, _, _]) rfl rfl rfl) rfl <| WD.U (oBs' (cs := [_, _, _, _]) (rows := [[_, _, _, _]]) rfl rfl (by decide) rfl rfl rfl) rfl <| WD.ap (te := ti58) (k0 := 0) (us := (al.getD i default).2.map xc) (rows := [xc (bl.getD i default)]) (.inl rfl) rfl rfl rfl rfl rfl (by decide) (by intro r hr; rw [List.mem_singleton] at hr; subst hr; rfl) (rows_of (n := 4) (fun _ => rfl)) (by simp) (by rw [List.length_map, hrw]; show (2 * (w + 1) + 256) * 64 ≤ _; omega) (by rw [List.length_map, hrw]; show w + 1 < _; omega) (outH_get (by omega) rfl) rfl <| WD.U (oBs' (cs := [_]) (rows := [[_]]) rfl rfl (by decide) rfl rfl rfl) rfl <| WD.weakH _ (outH_swap (by omega)) <| WD.ap (te := ti75) (k0 := 0) (us := ds.map fX) (rows := [[_]]) (.inl rfl) rfl rfl rfl (by rw [outK_zero]; rfl) rfl (by decide) (by intro r hr; rw [List.mem_singleton] at hr; subst hr; rfl) (rows_of (n := 1) (fun _ => rfl)) (by simp) (by rw [List.length_map]; show (2 * (ds.length + 1) + 256) * 24 ≤ _; omega) (by rw [List.length_map]; show ds.length + 1 < _; omega) (g1 (by omega) rfl) rfl <| WD.U (oAs rfl) rfl <| WD.nil (drawOk_ren (rn n) (by simp only [List.reverse_cons, List.reverse_nil, List.nil_append, List.cons_append, List.map_cons, List.map_nil, ren, Nat.add_assoc, rn_add, rn_lt hq]; kernel_rfl)) rfl <| Fz.rows (d := 8) ds (wX al bl i) (ys := ((al.getD i default).2 ++ [bl.getD i default]).map xc) [(1, _), (2, _), (19, _), (20, _), (21, _)] ⟨rfl, rfl, rfl, rfl, rfl, trivial⟩ rfl (by simp) rfl (by omega) (by simp) (by decide) (by simp) (rows_of (n := 4) (fun _ => rfl)) (data_of dxc) <| after_normal <| WC.reg1z (z := 2) rfl <| WO.U (cI (((i + 1 : Nat) : Int)) (oAdd64 rfl rfl (by omega)) (by omega)) rfl <| Um rfl rfl <| Wn <| loopR_normal <| ⟨⟨i + 1, _, ds ++ [wX al bl i]⟩, ⟨rfl, rfl, rfl, rfl, rfl, rfl, trivial⟩, subsM_out, ⟨by omega, by rw [List.range_succ, List.map_append, hds]; rfl, by simp; omega, by omega⟩, by show al.length - (i + 1) < al.length - i; omega⟩
 refine Wn <| WC.cF rfl <| WC.exits <| loopR_exit <| after_exit rfl ?_
 obtain ⟨d0, dt, rfl⟩ : ∃ d0 dt, ds = d0 :: dt := by
  cases ds with
  | nil => simp at hdl; omega
  | cons d dt => exact ⟨d, dt, rfl⟩
 obtain rfl : i = al.length := by omega
 have hvw : vX (d0 :: dt) = (wR (vX al) (bl.map (·.1))) := by rw [hds]; exact vX_w al bl
 have hwid : Wid (w + 1) (wR (vX al) (bl.map (·.1))) := wR_wid (fun r hr => by obtain ⟨s, hs, rfl⟩ := List.mem_map.1 hr; rw [List.length_map]; exact hw s hs)
 obtain ⟨r, hr, rows, d, rfl, hrows, _⟩ := mreduced_runB (d0 :: dt) w (w + 1) (by simp) (by omega) (by rw [hvw]; exact hwid) (by omega) (by omega) β hβ (by rw [hvw]; exact hgb)
 rw [hvw] at hr hrows
 obtain ⟨_, gw, gl, gc⟩ := hgb.all hwid (by omega) w (Nat.le_refl _)
 have hrl : rows.length = al.length := by
  have := congrArg List.length hrows
  rw [gjn_len, wR_len] at this; simpa [vX] using this
 rw [wR_len] at gl
 have gl : (gjn (wR (vX al) (bl.map (·.1))) w).2.length ≤ rows.length := by simpa [vX, hrl] using gl
 generalize gjn (wR (vX al) (bl.map (·.1))) w = S at *
 have hwr := wid_vX gw hrows
 refine Rg 11 rfl <| Um rfl rfl <| Um rfl rfl <| WO.S (oCallF [.sl 1 ((d0 :: dt).map fX), .v (.int .i64 (w : Int))] [(q, { cells := ((d0 :: dt).map fX).flatten, sz := 1, elem := 75, st := 1 })] rfl hr (.own (ob := { cells := ((d0 :: dt).map fX).flatten, sz := 1, elem := 75, st := 0 }) ((d0 :: dt).map fX) (by simp) g0 (by show (0 : Nat) ≠ 2; decide) rfl (by decide) (by simp [keys]) rfl (rows_of (n := 1) (fun _ => rfl)) (data_of dfX) (.data (.v _) .nil)) (by intro p hp; rw [List.mem_singleton] at hp; subst hp; exact ⟨_, g0, by show (0 : Nat) ≠ 2; decide, rfl⟩)) rfl <| Um rfl rfl <| WO.U (oEx rfl rfl) rfl <| WO.U (oEx rfl rfl) rfl <| WO.U (oEx rfl rfl) rfl <| WO.S (oAl rfl) rfl <| Ua rfl rfl <| Ua rfl rfl <| WO.S0 (oSt (cs' := [_, _, _, _]) rfl rfl rfl g0 rfl rfl rfl rfl) <| Nw [(2, _), (11, _), (12, _)] ⟨rfl, rfl, rfl, trivial⟩ <| WC.assoc <| Rg 6 rfl <| Um rfl rfl <| Um rfl rfl <| WO.U (oLenM rfl rfl) rfl <| WO.U (OP.cast (b := .sl 1 ((rows.drop S.2.length).map fX)) (oSlLo (i := S.2.length) rfl rfl rfl (rows_of (f := fX) (n := 1) (fun _ => rfl)) rfl rfl (by rw [List.length_map]; omega)) (by rw [List.map_drop])) rfl <| WO.U (oLenM rfl rfl) rfl <| Um rfl rfl <| Wn <| WC.block ?_
 refine WC.loopV (α := Nat) (fun i => [(2, .v (.int .i64 (w : Int))), (11, .sl 1 (rows.map fX)), (12, .sl (kd S.2.length) (S.2.map d64)), (48, .sl 1 ((rows.drop S.2.length).map fX)), (49, .v (.int .i64 ((rows.drop S.2.length).length : Int))), (50, .v (.int .i64 (i : Int)))]) (fun i => []) (fun i n => i ≤ (rows.drop S.2.length).length ∧ ∀ k, S.2.length ≤ k → k < S.2.length + i → ent S.1 k w = 0) (fun i => (rows.drop S.2.length).length - i) (0) ⟨rfl, rfl, rfl, rfl, rfl, rfl, trivial⟩ trivial ⟨Nat.zero_le _, by intro k h1 h2; omega⟩ ?_
 rintro i n hF
 change WC _ _ _ _ _ [(2, .v (.int .i64 (w : Int))), (11, .sl 1 (rows.map fX)), (12, .sl (kd S.2.length) (S.2.map d64)), (48, .sl 1 ((rows.drop S.2.length).map fX)), (49, .v (.int .i64 ((rows.drop S.2.length).length : Int))), (50, .v (.int .i64 (i : Int)))] ([]) n _
 obtain ⟨hi2, hz⟩ := hF
 refine Rg 1 rfl <| WO.U (oLss rfl rfl) rfl <| WO.D (fun h51 => ?_) (fun h51 => ?_)
 ·refine Wn <| WC.cT rfl <| WC.skips <| WC.block <| Rg 3 rfl <| WO.U (oIxM rfl rfl rfl rfl rfl (by omega) rfl) rfl <| WO.U (oLd rfl rfl rfl) rfl <| Ua rfl rfl <| WO.nil ?_
  have hdm : S.2.length + i < rows.length := by rw [List.length_drop] at h51; omega
  have hrl2 : (((rows.drop S.2.length).getD i default).2).length = w + 1 := by rw [dropD]; exact hwr _ (getD_mem hdm)
  have he : ent S.1 (S.2.length + i) w = (((rows.drop S.2.length).getD i default).2.getD w default).1 := by rw [← hrows, ent_vX hdm, dropD]
  refine Rg 6 rfl <| Um rfl rfl <| Um rfl rfl <| WO.U (oIxM (j := w) rfl rfl rfl rfl (by omega) (by omega) rfl) rfl <| WO.U (oLd (l := .agg [_, _, _, _]) rfl rfl rfl) rfl <| WO.U (oCall rfl (rsign_run (((rows.drop S.2.length).getD i default).2.getD w default)) (by first | exact dc | exact dc1 | (simp [-data_sl]; done) | simp)) rfl <| WO.U (oNeq rfl rfl) rfl <| WO.D (fun h59 => ?_) (fun h59 => ?_)
  ·refine Nw [(2, _), (11, _), (12, _), (48, _), (49, _), (50, _), (59, _)] ⟨rfl, rfl, rfl, rfl, rfl, rfl, rfl, trivial⟩ <| WC.cT1 rfl <| Rg 2 rfl <| Ua rfl rfl <| Ua rfl rfl <| Wn <| WC.ret <| after_ret <| loopR_ret <| after_ret ?_
   have hsl : S.1.length = rows.length := by rw [← hrows]; simp [vX]
   have hns : nosol S w = true := nosol_yes (k := S.2.length + i) (by omega) (by omega) (by rw [he]; intro h0; exact h59 (num_sign.2 h0))
   exact ⟨.tup [.v (.int .i64 0), .sl 0 []], by rw [if_pos hns], post (n := 0) (.inr rfl) rfl rfl (by first | exact dc | exact dc1 | (simp [-data_sl]; done) | simp)⟩
  refine Nw [(2, _), (11, _), (12, _), (48, _), (49, _), (50, _), (59, _)] ⟨rfl, rfl, rfl, rfl, rfl, rfl, rfl, trivial⟩ <| WC.cF1 rfl <| WC.skip <| after_normal <| WC.reg1z (z := 2) rfl <| WO.U (cI (((i + 1 : Nat) : Int)) (oAdd64 rfl rfl (by omega)) (by omega)) rfl <| Um rfl rfl <| Wn <| loopR_normal <| ⟨i + 1, ⟨rfl, rfl, rfl, rfl, rfl, rfl, trivial⟩, trivial, ⟨by omega, fun k h1 h2 => ?_⟩, by show (rows.drop S.2.length).length - (i + 1) < (rows.drop S.2.length).length - i; omega⟩
  by_cases hk : k < S.2.length + i
  ·exact hz k h1 hk
  ·obtain rfl : k = S.2.length + i := by omega
   rw [he]; exact num_sign.1 (by omega)
 refine Wn <| WC.cF rfl <| WC.exits <| loopR_exit <| after_exit rfl ?_
 have hns : nosol S w = false := by
  have hsl : S.1.length = rows.length := by rw [← hrows]; simp [vX]
  rw [List.length_drop] at h51 hi2
  exact nosol_no (by omega) (fun k h1 h2 => hz k h1 (by omega))
 refine Rg 3 rfl <| Um rfl rfl <| WO.S (oMk (a := w) (b := w) rfl rfl rfl rfl (by omega) (by omega) (by decide) (by omega) (by show 64 * w ≤ _; omega) (by omega)) rfl <| Ua rfl rfl <| Wn <| WC.assoc <| Rg 3 rfl <| Um rfl rfl <| WO.U (oLenM rfl rfl) rfl <| Um rfl rfl <| Wn <| WC.block <| WC.loopV (α := Nat × Nat × (List X)) (fun ⟨i, q2, xs⟩ => [(2, .v (.int .i64 (w : Int))), (11, .sl 1 (rows.map fX)), (12, .sl (kd S.2.length) (S.2.map d64)), (16, .ref q2 4 0 w), (63, .sl (kd S.2.length) (S.2.map d64)), (64, .v (.int .i64 (S.2.length : Int))), (65, .v (.int .i64 (i : Int)))]) (fun ⟨i, q2, xs⟩ => [(q2, { cells := (xs.map xc).flatten, sz := 4, elem := 58, st := 0 })]) (fun ⟨i, q2, xs⟩ n => i ≤ S.2.length ∧ xs.length = w ∧ xs.map (·.1) = solv S w i) (fun ⟨i, q2, xs⟩ => S.2.length - i) (0, _, List.replicate w x0) ⟨rfl, rfl, rfl, rfl, rfl, rfl, rfl, trivial⟩ ⟨g0.trans (by rw [List.map_replicate]; rfl), trivial⟩ ⟨Nat.zero_le _, by simp, by rw [List.map_replicate]; rfl⟩ ?_
 rintro ⟨i, q2, xs⟩ n hF
 change WC _ _ _ _ _ [(2, .v (.int .i64 (w : Int))), (11, .sl 1 (rows.map fX)), (12, .sl (kd S.2.length) (S.2.map d64)), (16, .ref q2 4 0 w), (63, .sl (kd S.2.length) (S.2.map d64)), (64, .v (.int .i64 (S.2.length : Int))), (65, .v (.int .i64 (i : Int)))] ([(q2, { cells := (xs.map xc).flatten, sz := 4, elem := 58, st := 0 })]) n _
 obtain ⟨hi4, hxl, hxs⟩ := hF
 refine Rg 1 rfl <| WO.U (oLss rfl rfl) rfl <| WO.D (fun h66 => ?_) (fun h66 => ?_)
 ·refine Wn <| WC.cT rfl <| WC.skips <| WC.block <| Rg 5 rfl <| Um rfl rfl <| WO.U (oIxM rfl rfl rfl rfl rfl (by omega) rfl) rfl <| WO.U (oLd rfl rfl rfl) rfl <| Ua rfl rfl <| Ua rfl rfl <| WO.nil ?_
  have hld := gc _ (getD_mem (us := S.2) (i := i) (by omega))
  have hrl4 : ((rows.getD i default).2).length = w + 1 := hwr _ (getD_mem (by omega))
  have he4 : ent S.1 i w = ((rows.getD i default).2.getD w default).1 := by rw [← hrows, ent_vX (by omega)]
  refine WC.reg1z (z := 11) rfl <| Um rfl rfl <| Um rfl rfl <| Um rfl rfl <| Um rfl rfl <| WO.U (oIxM rfl rfl rfl rfl rfl (by omega) rfl) rfl <| WO.U (oLd rfl rfl rfl) rfl <| Um rfl rfl <| WO.U (oIxM (j := w) rfl rfl rfl rfl (by omega) (by omega) rfl) rfl <| WO.U (oLd (l := .agg [_, _, _, _]) rfl rfl rfl) rfl <| WO.U (oIxR rfl rfl rfl rfl rfl (by omega) rfl) rfl <| WO.S0 (oStO (f := xc) (us := xs) ((rows.getD i default).2.getD w default) rfl rfl rfl g0 (fun _ => rfl) rfl rfl (by omega) rfl) <| Wn <| after_normal <| WC.weak [(2, _), (11, _), (12, _), (16, _), (63, _), (64, _), (65, _)] ⟨rfl, rfl, rfl, rfl, rfl, rfl, rfl, trivial⟩ <| WC.reg1z (z := 2) rfl <| WO.U (cI (((i + 1 : Nat) : Int)) (oAdd64 rfl rfl (by omega)) (by omega)) rfl <| Um rfl rfl <| Wn <| loopR_normal <| ⟨⟨i + 1, _, xs.set (S.2.getD i default) ((rows.getD i default).2.getD w default)⟩, ⟨rfl, rfl, rfl, rfl, rfl, rfl, rfl, trivial⟩, ⟨g0, trivial⟩, ⟨by omega, by rw [List.length_set]; exact hxl, ?_⟩, by show S.2.length - (i + 1) < S.2.length - i; omega⟩
  rw [List.map_set, hxs, solv, he4]
 refine Wn <| WC.cF rfl <| WC.exits <| loopR_exit <| after_exit rfl <| WC.assoc ?_
 have hxs' : xs.map (·.1) = solv S w S.2.length := by rw [hxs, show i = S.2.length by omega]
 refine Rg 4 rfl <| Um rfl rfl <| WO.U (oLenM rfl rfl) rfl <| Um rfl rfl <| WO.U (oLss rfl rfl) rfl <| WO.D (fun h84 => ?_) (fun h84 => ?_)
 ·refine Wn <| WC.cT rfl <| WC.assoc <| Rg 3 rfl <| Um rfl rfl <| Ua rfl rfl <| Ua rfl rfl <| Nw [(6, _), (7, _)] ⟨rfl, rfl, trivial⟩ <| WC.rets <| ⟨.tup [.v (.int .i64 2), .sl 1 (xs.map xc)], by rw [if_neg (by rw [hns]; decide)]; exact ⟨xs, by unfold solk; rw [if_pos (by omega)], hxs'⟩, ?_⟩
  exact postA (n := 0) [(q2, { cells := (xs.map xc).flatten, sz := 4, elem := 58, st := 1 })] (.inr rfl) rfl (.data (.v _) (.own (ob := { cells := (xs.map xc).flatten, sz := 4, elem := 58, st := 0 }) _ (by rw [List.length_map, hxl]) g0 (by show (0 : Nat) ≠ 2; decide) rfl (by decide) (List.mem_singleton.2 rfl) rfl (rows_of (n := 4) (fun _ => rfl)) (data_of dxc) .nil)) (by intro p hp; rw [List.mem_singleton] at hp; subst hp; exact ⟨_, g0, by show (0 : Nat) ≠ 2; decide, rfl⟩)
 refine Wn <| WC.cF rfl <| WC.skips <| Rg 3 rfl <| Um rfl rfl <| Ua rfl rfl <| Ua rfl rfl <| Nw [(6, _), (7, _)] ⟨rfl, rfl, trivial⟩ <| WC.ret <| ⟨.tup [.v (.int .i64 1), .sl 1 (xs.map xc)], by rw [if_neg (by rw [hns]; decide)]; exact ⟨xs, by unfold solk; rw [if_neg (by omega)], hxs'⟩, ?_⟩
 exact postA (n := 0) [(q2, { cells := (xs.map xc).flatten, sz := 4, elem := 58, st := 1 })] (.inr rfl) rfl (.data (.v _) (.own (ob := { cells := (xs.map xc).flatten, sz := 4, elem := 58, st := 0 }) _ (by rw [List.length_map, hxl]) g0 (by show (0 : Nat) ≠ 2; decide) rfl (by decide) (List.mem_singleton.2 rfl) rfl (rows_of (n := 4) (fun _ => rfl)) (data_of dxc) .nil)) (by intro p hp; rw [List.mem_singleton] at hp; subst hp; exact ⟨_, g0, by show (0 : Nat) ≠ 2; decide, rfl⟩)
theorem msolve_runB (k k2 : Nat) (a : List M1) (b : List NM) (hI : IM a) (hIb : IV b) (hV : VM a = true) (β : Nat) (hβ : β ≤ 268435456) (hgb : GB (wR (vM a) (b.map nq)) (wd a) β) (lb : b.length ≤ 70) (hne : 0 < a.length) : Run Try.prog T E0 (.call 10 [.sl k (a.map fM), .sl k2 (b.map mc)] (lvSol a b)) := by
 obtain ⟨l1, l2'⟩ := VM.facts hV
 have l2 : ∀ r, r ∈ a → r.2.length < 1099511627776 := fun r hr => by have := (l2' r hr).2.1; omega
 have hw8 : wd a ≤ 60 := by have := l2' _ (getD_mem (us := a) (i := 0) hne); omega
 refine mkcall Try.func10 rfl rfl (Nat.le_of_ble_eq_true rfl) <| Rg 3 rfl <| Ua rfl rfl <| Ua rfl rfl <| Ua rfl rfl <| Wn <| WC.block <| Rg 9 rfl <| Um rfl rfl <| WO.U (oCall rfl (mvalid_run k a hI (by omega) (fun r hr => by have := l2 r hr; omega)) (by first | exact dc | exact dc1 | (simp [-data_sl]; done) | simp)) rfl <| WO.B (fun h13 => ?_) (fun h13 => ?_)
 rotate_left
 ·refine WO.U (oNot rfl) rfl <| Um rfl rfl <| WO.K rfl rfl <| WO.K rfl rfl <| WO.K rfl rfl <| WO.U (oPkT rfl rfl) rfl <| Ua rfl rfl <| Wn <| WC.cT1 rfl <| Rg 3 rfl <| Ua rfl rfl <| Ua rfl rfl <| Ua rfl rfl <| Wn <| WC.ret <| after_ret <| post (n := 0) (.inr rfl) rfl ?_ (by first | exact dc | exact dc1 | (simp [-data_sl]; done) | simp)
  rw [lvSol_no1 (.inl h13)]; rfl
 refine WO.U (oNot rfl) rfl <| Um rfl rfl <| WO.Ug rfl (oMv rfl) rfl <| WO.Ug rfl (oCall rfl (vv_run k2 b hIb (by omega)) (by first | exact dc | exact dc1 | (simp [-data_sl]; done) | simp)) rfl <| WO.B (fun h17 => ?_) (fun h17 => ?_)
 rotate_left
 ·refine WO.Ug rfl (oNot rfl) rfl <| WO.U (oPkF rfl rfl) rfl <| Ua rfl rfl <| Wn <| WC.cT1 rfl <| Rg 3 rfl <| Ua rfl rfl <| Ua rfl rfl <| Ua rfl rfl <| Wn <| WC.ret <| after_ret <| post (n := 0) (.inr rfl) rfl ?_ (by first | exact dc | exact dc1 | (simp [-data_sl]; done) | simp)
  rw [lvSol_no1 (.inr h17)]; rfl
 refine WO.Ug rfl (oNot rfl) rfl <| WO.U (oPkF rfl rfl) rfl <| Ua rfl rfl <| Wn <| WC.cF1 rfl <| Rg 6 rfl <| Um rfl rfl <| WO.U (oLenM rfl rfl) rfl <| Um rfl rfl <| WO.U (oLenM rfl rfl) rfl <| WO.U (oNeq rfl rfl) rfl <| WO.D (fun h25 => ?_) (fun h25 => ?_)
 ·refine Ua rfl rfl <| Nw [(0, _), (1, _), (20, _)] ⟨rfl, rfl, rfl, trivial⟩ <| WC.cT1 rfl <| Rg 3 rfl <| Ua rfl rfl <| Ua rfl rfl <| Ua rfl rfl <| Wn <| WC.ret <| after_ret <| post (n := 0) (.inr rfl) rfl ?_ (by first | exact dc | exact dc1 | (simp [-data_sl]; done) | simp)
  rw [lvSol_no2 h13 h17 (by omega)]; rfl
 refine Ua rfl rfl <| Nw [(0, _), (1, _), (20, _)] ⟨rfl, rfl, rfl, trivial⟩ <| WC.cF1 rfl <| WC.skip <| after_normal ?_
 obtain ⟨f1, f2⟩ := VM.facts h13
 have hvn : ∀ r, r ∈ a → ∀ x, x ∈ r.2 → VN x := fun r hr => (f2 r hr).2.2
 obtain ⟨g1', hvb⟩ := VV.facts h17
 have hab : a.length = b.length := by omega
 have hl8 : (a.map nxr).length = a.length := by simp
 obtain ⟨r, hr, hrr⟩ := mlinear_runB (a.map nxr) (kd (b.map nx).length) (b.map nx) (wd a) (by rw [hl8]; exact hne) (by rw [hl8]; omega) (fun r hr => by obtain ⟨s, hs, rfl⟩ := List.mem_map.1 hr; show (s.2.map nx).length = _; rw [List.length_map]; exact (f2 s hs).1) (fun r hr => by obtain ⟨s, hs, rfl⟩ := List.mem_map.1 hr; rfl) (by simp [hab]) (by omega) β hβ (by rw [wR_M]; exact hgb)
 rw [wR_M] at hrr
 obtain ⟨ks, kk, xs, rfl, hx1, hx2, hxl⟩ : ∃ (ks : Int) (kk : Nat) (xs : List X), r = .tup [.v (.int .i64 ks), .sl kk (xs.map xc)] ∧ (nosol (solS a b) (wd a) = true → ks = 0 ∧ xs = []) ∧ (nosol (solS a b) (wd a) = false → ks = solk (solS a b) (wd a) ∧ xs.map (·.1) = solv (solS a b) (wd a) (solS a b).2.length) ∧ xs.length ≤ 60 := by
  cases hn : nosol (solS a b) (wd a) with
  | true => rw [show nosol (gjn (wR (vM a) (b.map nq)) (wd a)) (wd a) = true from hn, if_pos rfl] at hrr; exact ⟨0, 0, [], hrr, fun _ => ⟨rfl, rfl⟩, fun h => by (cases h), by decide⟩
  | false =>
   rw [show nosol (gjn (wR (vM a) (b.map nq)) (wd a)) (wd a) = false from hn, if_neg (by decide)] at hrr
   obtain ⟨xs, h1, h2⟩ := hrr
   exact ⟨_, 1, xs, h1, fun h => by (cases h), fun _ => ⟨rfl, h2⟩, by have := congrArg List.length h2; rw [solv_len, List.length_map] at this; omega⟩
 have ho1 : nosol (solS a b) (wd a) = true → ks = 0 ∧ (xs.mapM fun x => outN x.1) = some [] := fun h => ⟨(hx1 h).1, by rw [(hx1 h).2]; rfl⟩
 have ho2 : nosol (solS a b) (wd a) = false → ks = solk (solS a b) (wd a) ∧ (xs.mapM fun x => outN x.1) = solO a b := fun h => ⟨(hx2 h).1, by rw [show (xs.mapM fun x => outN x.1) = (xs.map (·.1)).mapM outN from (mapM_map' outN (·.1) xs).symm, (hx2 h).2]; rfl⟩
 have hfin := lvSol_eq h13 h17 hab (xs.mapM fun x => outN x.1) ks ho1 ho2
 refine Rg 12 rfl <| Um rfl rfl <| WO.U (OP.cast (b := .sl 1 ((a.map nxr).map fX)) (oCall rfl (mrats_run k a (by omega) hI (fun r hr x hx => by have := (hvn r hr x hx).1; omega) l2) (by first | exact dc | exact dc1 | (simp [-data_sl]; done) | simp)) (by rw [hl8, kd, if_neg (by omega)])) rfl <| Um rfl rfl <| WO.U (oCall rfl (nrats_run k2 b (by omega) hIb (fun x hx => by have := (hvb x hx).1; omega)) (by first | exact dc | exact dc1 | (simp [-data_sl]; done) | simp)) rfl <| Um rfl rfl <| WO.U (oCall rfl (mwidth_run k a) (by first | exact dc | exact dc1 | (simp [-data_sl]; done) | simp)) rfl <| WO.U (oCall rfl (hr) (by first | exact dc | exact dc1 | (simp [-data_sl]; done) | simp)) rfl <| Um rfl rfl <| WO.U (oEx rfl rfl) rfl <| WO.U (oEx rfl rfl) rfl <| Ua rfl rfl <| Ua rfl rfl <| Nw [(7, _), (8, _)] ⟨rfl, rfl, trivial⟩ <| Rg 7 rfl <| Um rfl rfl <| WO.U (oCall rfl (nouts_run kk xs (by omega)) (by first | exact dc | exact dc1 | (simp [-data_sl]; done) | simp)) rfl <| Um rfl rfl <| WO.U (oEx rfl rfl) rfl <| WO.U (oEx rfl rfl) rfl <| Ua rfl rfl <| Ua rfl rfl <| WO.nil ?_
 refine WC.assoc <| Rg 2 rfl <| Um rfl rfl <| WO.U (oNeq rfl rfl) rfl <| WO.D (fun h42 => ?_) (fun h42 => ?_)
 ·refine Wn <| WC.cT rfl <| WC.assoc <| Rg 4 rfl <| Um rfl rfl <| Ua rfl rfl <| Ua rfl rfl <| Ua rfl rfl <| Nw [(4, _), (5, _), (6, _)] ⟨rfl, rfl, rfl, trivial⟩ <| WC.rets ?_
  have hos : (xs.mapM fun x => outN x.1).isSome = false := by
   cases h : (xs.mapM fun x => outN x.1).isSome with
   | true => rw [h] at h42; exact absurd rfl h42
   | false => rfl
  refine post (n := 0) (.inr rfl) rfl ?_ (by first | exact dc | exact dc1 | (simp [-data_sl]; done) | simp)
  rw [hfin, hos]; rfl
 refine Wn <| WC.cF rfl <| WC.skips <| Rg 5 rfl <| Um rfl rfl <| Um rfl rfl <| Ua rfl rfl <| Ua rfl rfl <| Ua rfl rfl <| Nw [(4, _), (5, _), (6, _)] ⟨rfl, rfl, rfl, trivial⟩ <| WC.ret ?_
 have hos : (xs.mapM fun x => outN x.1).isSome = true := by
  cases h : (xs.mapM fun x => outN x.1).isSome with
  | true => rfl
  | false => rw [h] at h42; exact absurd (by decide) h42
 refine post (n := 0) (.inr rfl) rfl ?_ (by first | exact dc | exact dc1 | (simp [-data_sl]; done) | simp)
 rw [hfin, hos]; rfl
end Go.Proofs.Ytcmieifjephdcaa
