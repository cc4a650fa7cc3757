/- Part D of the proof of matrixReduces_holds: what it rests on. No condition. -/
import Derived.Test.YtcmieifjephdcaaGreatRedC
set_option linter.unusedVariables false
set_option linter.unusedSimpArgs false
set_option maxRecDepth 100000
set_option maxHeartbeats 4000000
namespace Go.Proofs.YtcmieifjephdcaaGreat
open Go.Ab Go.RowKit
theorem long_run (k1 k2 : Nat) (xs ys : List Nat) (hx : Dg 4294967296 xs) (hy : Dg 4294967296 ys) (ty : Trm ys) (hl : 2 ≤ ys.length) (hle : ys.length ≤ xs.length) (lx : xs.length < 549755813888) : ∃ r, Run Tryz.prog T E0 (.call 144 [.sl k1 (xs.map d32), .sl k2 (ys.map d32)] r) ∧ ∃ qs rs, r = .tup [.sl 1 (qs.map d32), .sl 1 (rs.map d32)] ∧ Dg 4294967296 qs ∧ Dg 4294967296 rs ∧ val 4294967296 qs * val 4294967296 ys + val 4294967296 rs = val 4294967296 xs ∧ val 4294967296 rs < val 4294967296 ys ∧ qs.length ≤ xs.length ∧ rs.length = ys.length := by
  obtain ⟨sh, hsh⟩ : ∃ sh, sh = 32 - blen (ys.getD (ys.length - 1) default) := ⟨_, rfl⟩
  obtain ⟨n1, n2, n3⟩ := norm_facts hy ty hl hsh
  obtain ⟨vs, hvs⟩ : ∃ vs, vs = dgs 4294967296 (val 4294967296 ys * 2 ^ sh) := ⟨_, rfl⟩
  rw [← hvs] at n2 n3
  rw [← n2] at n3
  have hvd : Dg 4294967296 vs := by rw [hvs]; exact dgs_dg (by decide) _
  have hvv : val 4294967296 vs = val 4294967296 ys * 2 ^ sh := by rw [hvs]; exact dgs_val (by decide) _
  have hyl : ys.getD (ys.length - 1) default < 4294967296 := getD_lt hy (by omega)
  obtain ⟨_, _, _, hr1, us0, rfl, rfl, rfl, hud0, huv0, hul0⟩ := shifted_run k1 xs sh hx n1 (by omega)
  obtain ⟨_, _, _, hr2, ws, rfl, rfl, rfl, hwd, hwv, hwl⟩ := shifted_run k2 ys sh hy n1 (by omega)
  have htr : trim ws = vs := by rw [trim_dgs (by decide) hwd, hwv, hvs]
  have hp31 : (2 : Nat) ^ sh ≤ 2 ^ 31 := Nat.pow_le_pow_right (by decide) (by omega)
  have hp0 : 0 < (2 : Nat) ^ sh := Nat.pow_pos (by decide)
  have hV0 : 0 < val 4294967296 vs := by
    have h1 := take_drop_val 4294967296 vs (vs.length - 1) (by omega)
    rw [drop_cons_getD (by omega : vs.length - 1 < vs.length)] at h1
    simp only [val] at h1
    have h2 : 0 < (4294967296 : Nat) ^ (vs.length - 1) := Nat.pow_pos (by decide)
    have h3 := Nat.mul_le_mul h2 n3
    have h4 := Nat.mul_add ((4294967296 : Nat) ^ (vs.length - 1)) (vs.getD (vs.length - 1) default) (4294967296 * val 4294967296 (List.drop (vs.length - 1 + 1) vs))
    omega
  refine mkcallE Tryz.func144 rfl rfl (Nat.le_of_ble_eq_true rfl) ?_
  refine WC.weak [(0, _), (1, _)] ⟨rfl, rfl, trivial⟩ ?_
  refine WC.reg (z := 2) rfl ?_
  refine WO.U (oAs rfl) rfl ?_
  refine WO.U (oAs rfl) rfl ?_
  refine WO.nil ?_
  refine WC.weak [(0, _), (1, _)] ⟨rfl, rfl, trivial⟩ ?_
  refine WC.reg (z := 8) rfl ?_
  refine WO.U (oMv rfl) rfl ?_
  refine WO.U (oMv rfl) rfl ?_
  refine WO.U (oLenM rfl rfl) rfl ?_
  refine WO.U (oSub64 rfl rfl (by omega)) rfl ?_
  refine WO.U (oIxM (j := ys.length - 1) rfl rfl rfl rfl (by omega) (by omega) rfl) rfl ?_
  refine WO.U (oLd rfl rfl rfl) rfl ?_
  refine WO.U (OP.castI (b := (sh : Int)) (oCall rfl (zeros32_run _ hyl) (by simp)) (by rw [hsh])) rfl ?_
  refine WO.U (oAs rfl) rfl ?_
  refine WO.nil ?_
  refine WC.weak [(0, _), (1, _), (6, _)] ⟨rfl, rfl, rfl, trivial⟩ ?_
  refine WC.reg (z := 9) rfl ?_
  refine WO.U (oMv rfl) rfl ?_
  refine WO.U (oMv rfl) rfl ?_
  refine WO.S (oCallO rfl hr1 (by simp)) rfl ?_
  refine WO.U (oMv rfl) rfl ?_
  refine WO.U (oMv rfl) rfl ?_
  refine WO.S (oCallO rfl hr2 (by simp)) rfl ?_
  refine WO.S (OP.cast (b := .sl 1 (vs.map d32)) (oCallF [.sl 1 (ws.map d32)] [((0 + 2 + 8 + 5), { cells := (ws.map d32).flatten, sz := 1, elem := 125, st := 1 })] rfl (trim_run 1 ws (by omega) (by omega)) (.own _ (by simp) g0 (by show (0 : Nat) ≠ 2; decide) rfl (by decide) (by simp [keys]) rfl rows_d32 data_rows_d32 .nil) (by intro p hp; simp at hp; subst hp; exact ⟨_, g0, by show (0 : Nat) ≠ 2; decide, rfl⟩)) (by rw [htr]; rfl)) rfl ?_
  refine WO.U (oAs rfl) rfl ?_
  refine WO.U (oAs rfl) rfl ?_
  refine WO.nil ?_
  refine WC.weak [(6, _), (7, _), (8, _)] ⟨rfl, rfl, rfl, trivial⟩ ?_
  refine WC.reg (z := 3) rfl ?_
  refine WO.U (oMv rfl) rfl ?_
  refine WO.U (oLenM rfl rfl) rfl ?_
  refine WO.U (oAs rfl) rfl ?_
  refine WO.nil ?_
  refine WC.weak [(6, _), (7, _), (8, _), (9, _)] ⟨rfl, rfl, rfl, rfl, trivial⟩ ?_
  refine WC.reg (z := 6) rfl ?_
  refine WO.U (oMv rfl) rfl ?_
  refine WO.U (oLenR rfl rfl) rfl ?_
  refine WO.U (oMv rfl) rfl ?_
  refine WO.U (oSub64 rfl rfl (by omega)) rfl ?_
  refine WO.S (oMk (a := xs.length + 1 - ys.length) (b := xs.length + 1 - ys.length) rfl rfl rfl rfl (by omega) (by omega) (by decide) (by omega) (by show 4 * (xs.length + 1 - ys.length) ≤ _; omega) (by omega)) rfl ?_
  refine WO.U (oAs rfl) rfl ?_
  refine WO.nil ?_
  refine WC.weak [(6, _), (7, _), (8, _), (9, _), (10, _)] ⟨rfl, rfl, rfl, rfl, rfl, trivial⟩ ?_
  refine WC.assoc ?_
  refine WC.reg (z := 6) rfl ?_
  refine WO.U (oMv rfl) rfl ?_
  refine WO.U (oLenR rfl rfl) rfl ?_
  refine WO.U (oMv rfl) rfl ?_
  refine WO.U (oSub64 rfl rfl (by omega)) rfl ?_
  refine WO.U (oSub64 rfl rfl (by omega)) rfl ?_
  refine WO.U (oAs rfl) rfl ?_
  refine WO.nil ?_
  refine WC.weak [(6, _), (7, _), (8, _), (9, _), (10, _), (11, _)] ⟨rfl, rfl, rfl, rfl, rfl, rfl, trivial⟩ ?_
  refine WC.block ?_
  refine WC.loopV (α := Nat × (List Nat) × (List Nat)) (fun ⟨k, us, qs⟩ => [(6, .v (.int .i64 (sh : Int))), (7, .ref (0 + 2 + 8 + 2) 1 0 us.length), (8, .sl 1 (vs.map d32)), (9, .v (.int .i64 (vs.length : Int))), (10, .ref (0 + 2 + 8 + 9 + 3 + 4) 1 0 qs.length), (11, .v (.int .i64 ((k : Int) - 1)))]) (fun ⟨k, us, qs⟩ => [((0 + 2 + 8 + 2), { cells := (us.map d32).flatten, sz := 1, elem := 125, st := 0 }), ((0 + 2 + 8 + 9 + 3 + 4), { cells := (qs.map d32).flatten, sz := 1, elem := 125, st := 0 })]) (fun ⟨k, us, qs⟩ n => k + vs.length ≤ us.length ∧ us.length = xs.length + 1 ∧ qs.length = xs.length + 1 - ys.length ∧ Dg 4294967296 us ∧ Dg 4294967296 qs ∧ val 4294967296 us0 = val 4294967296 (qs.drop k) * val 4294967296 vs * 4294967296 ^ k + val 4294967296 us ∧ val 4294967296 (us.drop k) < val 4294967296 vs ∧ 30 ≤ n) (fun ⟨k, us, qs⟩ => k) (xs.length + 1 - ys.length, us0, List.replicate (xs.length + 1 - ys.length) 0) ⟨rfl, rfl, rfl, rfl, congrArg some (by rw [List.length_replicate]; rfl), congrArg (fun z => some (LV.v (.int .i64 z))) (by omega), trivial⟩ ⟨rfl, g0.trans (by rw [List.map_replicate]; rfl), trivial⟩ ⟨by omega, hul0, by simp, hud0, by intro d hd; simp at hd; rw [hd.2]; decide, by rw [List.drop_eq_nil_of_le (by simp)]; simp [val], long_init (n := xs.length) (by decide) huv0 (val_lt (by decide) hx) (by omega) (by omega) (by omega) hp0 (by omega), by omega⟩ ?_
  rintro ⟨k, us, qs⟩ n hF
  change WC _ _ _ _ _ [(6, .v (.int .i64 (sh : Int))), (7, .ref (0 + 2 + 8 + 2) 1 0 us.length), (8, .sl 1 (vs.map d32)), (9, .v (.int .i64 (vs.length : Int))), (10, .ref (0 + 2 + 8 + 9 + 3 + 4) 1 0 qs.length), (11, .v (.int .i64 ((k : Int) - 1)))] ([((0 + 2 + 8 + 2), { cells := (us.map d32).flatten, sz := 1, elem := 125, st := 0 }), ((0 + 2 + 8 + 9 + 3 + 4), { cells := (qs.map d32).flatten, sz := 1, elem := 125, st := 0 })]) n _
  obtain ⟨hk, hul, hql0, hud, hqd, hU, hlt, hn30⟩ := hF
  refine WC.assoc ?_
  refine WC.reg (z := 2) rfl ?_
  refine WO.U (oMv rfl) rfl ?_
  refine WO.U (oGeq rfl rfl) rfl ?_
  refine WO.D (fun h54 => ?_) (fun h54 => ?_)
  rotate_left
  · refine WO.nil ?_
    refine WC.weak [(6, _), (7, _), (8, _), (9, _), (10, _), (11, _), (54, _)] ⟨rfl, rfl, rfl, rfl, rfl, rfl, rfl, trivial⟩ ?_
    refine WC.cF rfl ?_
    refine WC.exits ?_
    refine loopR_exit ?_
    refine after_exit rfl ?_
    refine WC.weak [(6, _), (7, _), (9, _), (10, _)] ⟨rfl, rfl, rfl, rfl, trivial⟩ ?_
    have hk0 : k = 0 := by omega
    subst hk0
    rw [List.drop_zero, Nat.pow_zero, Nat.mul_one] at hU
    rw [List.drop_zero] at hlt
    refine WC.reg (z := 3) rfl ?_
    refine WO.U (oMv rfl) rfl ?_
    refine WO.S (oMk (a := vs.length) (b := vs.length) rfl rfl rfl rfl (by omega) (by omega) (by decide) (by omega) (by show 4 * vs.length ≤ _; omega) (by omega)) rfl ?_
    refine WO.U (oAs rfl) rfl ?_
    refine WO.nil ?_
    refine WC.weak [(6, _), (7, _), (10, _), (25, _)] ⟨rfl, rfl, rfl, rfl, trivial⟩ ?_
    refine WC.assoc ?_
    refine WC.reg (z := 3) rfl ?_
    refine WO.U (oMv rfl) rfl ?_
    refine WO.U (oLenR rfl rfl) rfl ?_
    refine WO.U (oMv rfl) rfl ?_
    refine WO.nil ?_
    refine WC.weak [(6, _), (7, _), (10, _), (25, _), (229, _), (230, _)] ⟨rfl, rfl, rfl, rfl, rfl, rfl, trivial⟩ ?_
    refine WC.block ?_
    refine WC.loopV (α := Nat × Nat × (List Nat)) (fun ⟨i, q3, rs⟩ => [(6, .v (.int .i64 (sh : Int))), (7, .ref (0 + 2 + 8 + 2) 1 0 us.length), (10, .ref (0 + 2 + 8 + 9 + 3 + 4) 1 0 qs.length), (25, .ref q3 1 0 rs.length), (229, .v (.int .i64 (vs.length : Int))), (230, .v (.int .i64 (i : Int)))]) (fun ⟨i, q3, rs⟩ => [((0 + 2 + 8 + 2), { cells := (us.map d32).flatten, sz := 1, elem := 125, st := 0 }), ((0 + 2 + 8 + 9 + 3 + 4), { cells := (qs.map d32).flatten, sz := 1, elem := 125, st := 0 }), (q3, { cells := (rs.map d32).flatten, sz := 1, elem := 125, st := 0 })]) (fun ⟨i, q3, rs⟩ n => i ≤ vs.length ∧ rs.length = vs.length ∧ Dg 4294967296 rs ∧ val 4294967296 rs = (val 4294967296 (us.take (i + 1)) / 2 ^ sh) % 4294967296 ^ i ∧ (∀ j, i ≤ j → rs.getD j default = 0) ∧ 30 ≤ q3) (fun ⟨i, q3, rs⟩ => vs.length - i) (0, n + 2 + 1, List.replicate vs.length 0) ⟨rfl, rfl, rfl, congrArg some (by rw [List.length_replicate]; rfl), rfl, rfl, trivial⟩ ⟨g1 (by omega) g0, g1 (by omega) (g1 (by decide) g0), g0.trans (by rw [List.map_replicate]; rfl), trivial⟩ ⟨Nat.zero_le _, by simp, by intro d hd; simp at hd; rw [hd.2]; decide, by rw [val_zeros, Nat.pow_zero, Nat.mod_one], fun j _ => getD_zeros _ _, by omega⟩ ?_
    rintro ⟨i, q3, rs⟩ n hR
    change WC _ _ _ _ _ [(6, .v (.int .i64 (sh : Int))), (7, .ref (0 + 2 + 8 + 2) 1 0 us.length), (10, .ref (0 + 2 + 8 + 9 + 3 + 4) 1 0 qs.length), (25, .ref q3 1 0 rs.length), (229, .v (.int .i64 (vs.length : Int))), (230, .v (.int .i64 (i : Int)))] ([((0 + 2 + 8 + 2), { cells := (us.map d32).flatten, sz := 1, elem := 125, st := 0 }), ((0 + 2 + 8 + 9 + 3 + 4), { cells := (qs.map d32).flatten, sz := 1, elem := 125, st := 0 }), (q3, { cells := (rs.map d32).flatten, sz := 1, elem := 125, st := 0 })]) n _
    obtain ⟨hi, hrl, hrd, hrv, hrz, hq3⟩ := hR
    refine WC.reg (z := 1) rfl ?_
    refine WO.U (oLss rfl rfl) rfl ?_
    refine WO.D (fun h231 => ?_) (fun h231 => ?_)
    rotate_left
    · refine WO.nil ?_
      refine WC.weak [(6, _), (7, _), (10, _), (25, _), (229, _), (230, _), (231, _)] ⟨rfl, rfl, rfl, rfl, rfl, rfl, rfl, trivial⟩ ?_
      refine WC.cF rfl ?_
      refine WC.exits ?_
      refine loopR_exit ?_
      refine after_exit rfl ?_
      refine WC.weak [(10, _), (25, _)] ⟨rfl, rfl, trivial⟩ ?_
      have hi' : i = vs.length := by omega
      subst hi'
      rw [rest_end (Nat.lt_trans hlt (val_lt (by decide) hvd)) (by omega)] at hrv
      obtain ⟨hx1, hx2⟩ := unshift hp0 (show val 4294967296 xs * 2 ^ sh = val 4294967296 qs * (val 4294967296 ys * 2 ^ sh) + val 4294967296 us by rw [← hvv, ← huv0, hU]) (by rw [← hvv]; exact hlt)
      rw [← hrv] at hx1 hx2
      refine WC.reg (z := 4) rfl ?_
      refine WO.U (oMv rfl) rfl ?_
      refine WO.U (oMv rfl) rfl ?_
      refine WO.U (oAs rfl) rfl ?_
      refine WO.U (oAs rfl) rfl ?_
      refine WO.nil ?_
      refine WC.weak [(4, _), (5, _)] ⟨rfl, rfl, trivial⟩ ?_
      refine WC.ret ?_
      refine ⟨.tup [.sl 1 (qs.map d32), .sl 1 (rs.map d32)], ⟨qs, rs, rfl, hqd, hrd, hx1, hx2, by omega, by omega⟩, ?_⟩
      exact postA (n := 0) [((0 + 2 + 8 + 9 + 3 + 4), { cells := (qs.map d32).flatten, sz := 1, elem := 125, st := 1 }), (q3, { cells := (rs.map d32).flatten, sz := 1, elem := 125, st := 1 })] (.inr rfl) rfl (.own _ (by simp) (g1 (by omega) g0) (by show (0 : Nat) ≠ 2; decide) rfl (by decide) (by simp [keys]) rfl rows_d32 data_rows_d32 (.own _ (by simp) (g1 (by omega) (g1 (by omega) g0)) (by show (0 : Nat) ≠ 2; decide) rfl (by decide) (by simp [keys]) rfl rows_d32 data_rows_d32 .nil)) (by intro p hp; simp at hp; rcases hp with hp | hp <;> subst hp; exact ⟨_, g1 (by omega) g0, by show (0 : Nat) ≠ 2; decide, rfl⟩; exact ⟨_, g1 (by omega) (g1 (by omega) g0), by show (0 : Nat) ≠ 2; decide, rfl⟩)
    refine WO.nil ?_
    refine WC.weak [(6, _), (7, _), (10, _), (25, _), (229, _), (230, _), (231, _)] ⟨rfl, rfl, rfl, rfl, rfl, rfl, rfl, trivial⟩ ?_
    refine WC.cT rfl ?_
    refine WC.skips ?_
    refine WC.block ?_
    refine WC.reg (z := 2) rfl ?_
    refine WO.U (oMv rfl) rfl ?_
    refine WO.U (oAs rfl) rfl ?_
    refine WO.nil ?_
    refine WC.weak [(6, _), (7, _), (10, _), (25, _), (26, _), (229, _), (230, _)] ⟨rfl, rfl, rfl, rfl, rfl, rfl, rfl, trivial⟩ ?_
    have hux : us.getD i default < 4294967296 := getD_lt hud (by omega)
    have huy : us.getD (i + 1) default < 4294967296 := getD_lt hud (by omega)
    obtain ⟨Z, hZ⟩ : ∃ Z, Z = (us.getD i default + us.getD (i + 1) default * 4294967296) / 2 ^ sh := ⟨_, rfl⟩
    refine WC.draw1z (z := 20) rfl (by kernel_rfl) ?_
    refine WD.U (oMv rfl) rfl ?_
    refine WD.U (oMv rfl) rfl ?_
    refine WD.U (oMv rfl) rfl ?_
    refine WD.U (oMv rfl) rfl ?_
    refine WD.U (oIxR rfl rfl rfl rfl rfl (by omega) rfl) rfl ?_
    refine WD.U (oLdO (f := d32) (us := us) (j := i) rfl rfl g0 (fun _ => rfl) rfl (by decide) (by omega) rfl) rfl ?_
    refine WD.U (OP.castI (b := (us.getD i default : Int)) (oCnv rfl rfl rfl) (by rw [IntKind.wrap_u64]; omega)) rfl ?_
    refine WD.U (oMv rfl) rfl ?_
    refine WD.U (oMv rfl) rfl ?_
    refine WD.U (OP.castI (b := ((i + 1 : Nat) : Int)) (oAdd64 rfl rfl (by omega)) (by omega)) rfl ?_
    refine WD.U (oIxR (j := i + 1) rfl rfl rfl rfl (by omega) (by omega) rfl) rfl ?_
    refine WD.U (oLdO (f := d32) (us := us) (j := i + 1) rfl rfl g0 (fun _ => rfl) rfl (by decide) (by omega) rfl) rfl ?_
    refine WD.U (OP.castI (b := (us.getD (i + 1) default : Int)) (oCnv rfl rfl rfl) (by rw [IntKind.wrap_u64]; omega)) rfl ?_
    refine WD.U (OP.castI (b := ((us.getD (i + 1) default * 4294967296 : Nat) : Int)) (oShlU (s := 32) rfl rfl (by omega)) (by omega)) rfl ?_
    refine WD.U (oBin (v := .int .u64 (((us.getD i default + us.getD (i + 1) default * 4294967296) : Nat) : Int)) rfl rfl (or_lo (by omega) (by omega))) rfl ?_
    refine WD.U (oMv rfl) rfl ?_
    refine WD.U (OP.castI (b := (Z : Int)) (oShrU (s := sh) rfl rfl (by omega)) (by rw [hZ]; simp)) rfl ?_
    refine WD.U (OP.castI (b := ((Z % 4294967296 : Nat) : Int)) (oCnv rfl rfl rfl) (by rw [IntKind.wrap_u32]; omega)) rfl ?_
    refine WD.U (oIxR rfl rfl rfl rfl rfl (by omega) rfl) rfl ?_
    refine WD.S0 (oStO (f := d32) (us := rs) (Z % 4294967296) rfl rfl rfl (g1 (by omega) (g1 (by omega) g0)) (fun _ => rfl) rfl rfl (by omega) rfl) ?_
    refine WD.nil (drawOk_of (by kernel_rfl)) rfl ?_
    refine after_normal ?_
    refine WC.weak [(6, _), (7, _), (10, _), (25, _), (229, _), (230, _)] ⟨rfl, rfl, rfl, rfl, rfl, rfl, trivial⟩ ?_
    refine WC.reg1z (z := 2) rfl ?_
    refine WO.U (OP.castI (b := ((i + 1 : Nat) : Int)) (oAdd64 rfl rfl (by omega)) (by omega)) rfl ?_
    refine WO.U (oMv rfl) rfl ?_
    refine WO.nil ?_
    refine loopR_normal ?_
    refine ⟨⟨i + 1, q3, rs.set i (Z % 4294967296)⟩, ⟨rfl, rfl, rfl, congrArg some (by rw [List.length_set]), rfl, rfl, trivial⟩, ⟨g1 (by omega) g0, g1 (by omega) (g1 (by decide) g0), g0, trivial⟩, ⟨by omega, by rw [List.length_set]; exact hrl, hrd.set _ (Nat.mod_lt _ (by decide)), by rw [hZ]; exact rest_set (by omega) (by omega) hud (by omega) (hrz i (Nat.le_refl _)) hrv, ?_, hq3⟩, by show vs.length - (i + 1) < vs.length - i; omega⟩
    intro j hj
    rw [lgetD_set (by omega)]; exact hrz j (by omega)
  refine WO.nil ?_
  refine WC.weak [(6, _), (7, _), (8, _), (9, _), (10, _), (11, _), (54, _)] ⟨rfl, rfl, rfl, rfl, rfl, rfl, rfl, trivial⟩ ?_
  refine WC.cT rfl ?_
  refine WC.skips ?_
  refine WC.block ?_
  have hu0 : us.getD (k - 1 + vs.length) default < 4294967296 := getD_lt hud (by omega)
  have hu1 : us.getD (k - 1 + vs.length - 1) default < 4294967296 := getD_lt hud (by omega)
  have LQh := lq_make (B := 4294967296) (by decide) (j := k - 1) hud hvd (by omega) (by omega) (by omega) (by rw [show k - 1 + 1 = k by omega]; exact hlt)
  obtain ⟨top, htop⟩ : ∃ top, top = us.getD (k - 1 + vs.length) default * 4294967296 + us.getD (k - 1 + vs.length - 1) default := ⟨_, rfl⟩
  obtain ⟨u2, hu2⟩ : ∃ z, z = us.getD (k - 1 + vs.length - 2) default := ⟨_, rfl⟩
  obtain ⟨v1, hv1⟩ : ∃ z, z = vs.getD (vs.length - 1) default := ⟨_, rfl⟩
  obtain ⟨v2, hv2⟩ : ∃ z, z = vs.getD (vs.length - 2) default := ⟨_, rfl⟩
  rw [← htop, ← hu2, ← hv1, ← hv2] at LQh
  have lu2 : u2 < 4294967296 := by rw [hu2]; exact getD_lt hud (by omega)
  have lv1 : v1 < 4294967296 := by rw [hv1]; exact getD_lt hvd (by omega)
  have lv2 : v2 < 4294967296 := by rw [hv2]; exact getD_lt hvd (by omega)
  have gv1 : 2147483648 ≤ v1 := by rw [hv1]; exact n3
  have htop2 : top < 18446744073709551616 := by omega
  have hRB := LQh.lt_pow (val_lt (B := 4294967296) (by decide) hvd)
  refine WC.draw (z := 18) rfl (by kernel_rfl) ?_
  refine WD.U (oMv rfl) rfl ?_
  refine WD.U (oMv rfl) rfl ?_
  refine WD.U (oMv rfl) rfl ?_
  refine WD.U (OP.castI (b := ((k - 1 + vs.length : Nat) : Int)) (oAdd64 rfl rfl (by omega)) (by omega)) rfl ?_
  refine WD.U (oIxR (j := k - 1 + vs.length) rfl rfl rfl rfl (by omega) (by omega) rfl) rfl ?_
  refine WD.U (oLdO (f := d32) (us := us) (j := k - 1 + vs.length) rfl rfl g0 (fun _ => rfl) rfl (by decide) (by omega) rfl) rfl ?_
  refine WD.U (OP.castI (b := (us.getD (k - 1 + vs.length) default : Int)) (oCnv rfl rfl rfl) (by rw [IntKind.wrap_u64]; omega)) rfl ?_
  refine WD.U (OP.castI (b := ((us.getD (k - 1 + vs.length) default * 4294967296 : Nat) : Int)) (oShlU (s := 32) rfl rfl (by omega)) (by omega)) rfl ?_
  refine WD.U (oMv rfl) rfl ?_
  refine WD.U (oMv rfl) rfl ?_
  refine WD.U (oMv rfl) rfl ?_
  refine WD.U (OP.castI (b := ((k - 1 + vs.length : Nat) : Int)) (oAdd64 rfl rfl (by omega)) (by omega)) rfl ?_
  refine WD.U (oSub64 rfl rfl (by omega)) rfl ?_
  refine WD.U (oIxR (j := k - 1 + vs.length - 1) rfl rfl rfl rfl (by omega) (by omega) rfl) rfl ?_
  refine WD.U (oLdO (f := d32) (us := us) (j := k - 1 + vs.length - 1) rfl rfl g0 (fun _ => rfl) rfl (by decide) (by omega) rfl) rfl ?_
  refine WD.U (OP.castI (b := (us.getD (k - 1 + vs.length - 1) default : Int)) (oCnv rfl rfl rfl) (by rw [IntKind.wrap_u64]; omega)) rfl ?_
  refine WD.U (OP.castI (b := (top : Int)) (oBin (v := .int .u64 ((us.getD (k - 1 + vs.length) default * 4294967296 + us.getD (k - 1 + vs.length - 1) default : Nat) : Int)) rfl rfl (or_hi (by omega) (by omega))) (by rw [htop])) rfl ?_
  refine WD.U (oAs rfl) rfl ?_
  refine WD.nil (drawOk_of (by kernel_rfl)) rfl ?_
  refine WC.weak [(6, _), (7, _), (8, _), (9, _), (10, _), (11, _), (12, _)] ⟨rfl, rfl, rfl, rfl, rfl, rfl, rfl, trivial⟩ ?_
  refine WC.reg (z := 9) rfl ?_
  refine WO.U (oMv rfl) rfl ?_
  refine WO.U (oMv rfl) rfl ?_
  refine WO.U (oMv rfl) rfl ?_
  refine WO.U (oSub64 rfl rfl (by omega)) rfl ?_
  refine WO.U (oIxM (j := vs.length - 1) rfl rfl rfl rfl (by omega) (by omega) rfl) rfl ?_
  refine WO.U (oLd rfl rfl rfl) rfl ?_
  refine WO.U (OP.castI (b := (v1 : Int)) (oCnv rfl rfl rfl) (by rw [IntKind.wrap_u64]; omega)) rfl ?_
  refine WO.U (oQuoU rfl rfl (by omega) (by omega)) rfl ?_
  refine WO.U (oAs rfl) rfl ?_
  refine WO.nil ?_
  refine WC.weak [(6, _), (7, _), (8, _), (9, _), (10, _), (11, _), (12, _), (13, _)] ⟨rfl, rfl, rfl, rfl, rfl, rfl, rfl, rfl, trivial⟩ ?_
  refine WC.reg (z := 9) rfl ?_
  refine WO.U (oMv rfl) rfl ?_
  refine WO.U (oMv rfl) rfl ?_
  refine WO.U (oMv rfl) rfl ?_
  refine WO.U (oSub64 rfl rfl (by omega)) rfl ?_
  refine WO.U (oIxM (j := vs.length - 1) rfl rfl rfl rfl (by omega) (by omega) rfl) rfl ?_
  refine WO.U (oLd rfl rfl rfl) rfl ?_
  refine WO.U (OP.castI (b := (v1 : Int)) (oCnv rfl rfl rfl) (by rw [IntKind.wrap_u64]; omega)) rfl ?_
  refine WO.U (oRemU rfl rfl (by omega)) rfl ?_
  refine WO.U (oAs rfl) rfl ?_
  refine WO.nil ?_
  refine WC.weak [(6, _), (7, _), (8, _), (9, _), (10, _), (11, _), (13, _), (14, _)] ⟨rfl, rfl, rfl, rfl, rfl, rfl, rfl, rfl, trivial⟩ ?_
  refine WC.block ?_
  refine WC.loopV (α := Nat × Nat) (fun ⟨qh, rh⟩ => [(6, .v (.int .i64 (sh : Int))), (7, .ref (0 + 2 + 8 + 2) 1 0 us.length), (8, .sl 1 (vs.map d32)), (9, .v (.int .i64 (vs.length : Int))), (10, .ref (0 + 2 + 8 + 9 + 3 + 4) 1 0 qs.length), (11, .v (.int .i64 ((k : Int) - 1))), (13, .v (.int .u64 (qh : Int))), (14, .v (.int .u64 (rh : Int)))]) (fun ⟨qh, rh⟩ => [((0 + 2 + 8 + 2), { cells := (us.map d32).flatten, sz := 1, elem := 125, st := 0 }), ((0 + 2 + 8 + 9 + 3 + 4), { cells := (qs.map d32).flatten, sz := 1, elem := 125, st := 0 })]) (fun ⟨qh, rh⟩ n => top = qh * v1 + rh ∧ val 4294967296 (us.drop (k - 1)) / val 4294967296 vs ≤ qh ∧ qh ≤ 4294967297 ∧ rh < 4294967296 ∧ 30 ≤ n) (fun ⟨qh, rh⟩ => qh) (top / v1, top % v1) ⟨rfl, rfl, rfl, rfl, rfl, rfl, rfl, rfl, trivial⟩ ⟨g0, g1 (by decide) g0, trivial⟩ ⟨(Nat.div_add_mod' top v1).symm, lq_start LQh (by decide), lq_first LQh (by decide), by have := Nat.mod_lt top (show 0 < v1 by omega); omega, by omega⟩ ?_
  rintro ⟨qh, rh⟩ n hG
  change WC _ _ _ _ _ [(6, .v (.int .i64 (sh : Int))), (7, .ref (0 + 2 + 8 + 2) 1 0 us.length), (8, .sl 1 (vs.map d32)), (9, .v (.int .i64 (vs.length : Int))), (10, .ref (0 + 2 + 8 + 9 + 3 + 4) 1 0 qs.length), (11, .v (.int .i64 ((k : Int) - 1))), (13, .v (.int .u64 (qh : Int))), (14, .v (.int .u64 (rh : Int)))] ([((0 + 2 + 8 + 2), { cells := (us.map d32).flatten, sz := 1, elem := 125, st := 0 }), ((0 + 2 + 8 + 9 + 3 + 4), { cells := (qs.map d32).flatten, sz := 1, elem := 125, st := 0 })]) n _
  obtain ⟨hG1, hG2, hG3, hG4, hn31⟩ := hG
  refine WC.assoc ?_
  refine WC.draw (z := 24) rfl (by kernel_rfl) ?_
  refine WD.U (oMv rfl) rfl ?_
  refine WD.U (oGeq rfl rfl) rfl ?_
  refine WD.D (fun h91 => ?_) (fun h91 => ?_)
  · refine WD.U (oMv rfl) rfl ?_
    refine WD.K rfl rfl ?_
    refine WD.K rfl rfl ?_
    refine WD.K rfl rfl ?_
    refine WD.K rfl rfl ?_
    refine WD.K rfl rfl ?_
    refine WD.K rfl rfl ?_
    refine WD.K rfl rfl ?_
    refine WD.K rfl rfl ?_
    refine WD.K rfl rfl ?_
    refine WD.K rfl rfl ?_
    refine WD.K rfl rfl ?_
    refine WD.K rfl rfl ?_
    refine WD.K rfl rfl ?_
    refine WD.K rfl rfl ?_
    refine WD.K rfl rfl ?_
    refine WD.K rfl rfl ?_
    refine WD.K rfl rfl ?_
    refine WD.K rfl rfl ?_
    refine WD.K rfl rfl ?_
    refine WD.K rfl rfl ?_
    refine WD.U (oPkT rfl rfl) rfl ?_
    refine WD.nil (drawOk_of (by kernel_rfl)) rfl ?_
    refine WC.weak [(6, _), (7, _), (8, _), (9, _), (10, _), (11, _), (13, _), (14, _), (93, _), (94, _), (95, _), (96, _), (97, _), (98, _), (99, _), (100, _), (101, _), (102, _), (103, _), (104, _), (105, _), (106, _), (107, _), (108, _), (109, _), (110, _), (111, _), (112, _), (113, _)] ⟨rfl, rfl, rfl, rfl, rfl, rfl, rfl, rfl, rfl, rfl, rfl, rfl, rfl, rfl, rfl, rfl, rfl, rfl, rfl, rfl, rfl, rfl, rfl, rfl, rfl, rfl, rfl, rfl, rfl, trivial⟩ ?_
    refine WC.cT rfl ?_
    refine WC.skips ?_
    refine WC.block1 ?_
    obtain ⟨hdc1, hdc2⟩ := lq_dec LQh hG1 hG2 (by first | exact .inl (by omega) | exact .inr (by omega))
    refine WC.reg (z := 3) rfl ?_
    refine WO.U (oMv rfl) rfl ?_
    refine WO.U (OP.castI (b := ((qh - 1 : Nat) : Int)) (oSubU rfl rfl) (by omega)) rfl ?_
    refine WO.U (oAs rfl) rfl ?_
    refine WO.nil ?_
    refine WC.weak [(6, _), (7, _), (8, _), (9, _), (10, _), (11, _), (13, _), (14, _), (93, _), (94, _), (95, _), (96, _), (97, _), (98, _), (99, _), (100, _), (101, _), (102, _), (103, _), (104, _), (105, _), (106, _), (107, _), (108, _), (109, _), (110, _), (111, _), (112, _)] ⟨rfl, rfl, rfl, rfl, rfl, rfl, rfl, rfl, rfl, rfl, rfl, rfl, rfl, rfl, rfl, rfl, rfl, rfl, rfl, rfl, rfl, rfl, rfl, rfl, rfl, rfl, rfl, rfl, trivial⟩ ?_
    refine WC.reg (z := 9) rfl ?_
    refine WO.U (oMv rfl) rfl ?_
    refine WO.U (oMv rfl) rfl ?_
    refine WO.U (oMv rfl) rfl ?_
    refine WO.U (oSub64 rfl rfl (by omega)) rfl ?_
    refine WO.U (oIxM (j := vs.length - 1) rfl rfl rfl rfl (by omega) (by omega) rfl) rfl ?_
    refine WO.U (oLd rfl rfl rfl) rfl ?_
    refine WO.U (OP.castI (b := (v1 : Int)) (oCnv rfl rfl rfl) (by rw [IntKind.wrap_u64]; omega)) rfl ?_
    refine WO.U (OP.castI (b := ((rh + v1 : Nat) : Int)) (oAddU rfl rfl) (by omega)) rfl ?_
    refine WO.U (oAs rfl) rfl ?_
    refine WO.nil ?_
    refine WC.weak [(6, _), (7, _), (8, _), (9, _), (10, _), (11, _), (13, _), (14, _), (93, _), (94, _), (95, _), (96, _), (97, _), (98, _), (99, _), (100, _), (101, _), (102, _), (103, _), (104, _), (105, _), (106, _), (107, _), (108, _), (109, _), (110, _), (111, _), (112, _)] ⟨rfl, rfl, rfl, rfl, rfl, rfl, rfl, rfl, rfl, rfl, rfl, rfl, rfl, rfl, rfl, rfl, rfl, rfl, rfl, rfl, rfl, rfl, rfl, rfl, rfl, rfl, rfl, rfl, trivial⟩ ?_
    refine WC.reg (z := 2) rfl ?_
    refine WO.U (oMv rfl) rfl ?_
    refine WO.U (oGeq rfl rfl) rfl ?_
    refine WO.D (fun h125 => ?_) (fun h125 => ?_)
    rotate_left
    · refine WO.nil ?_
      refine WC.weak [(6, _), (7, _), (8, _), (9, _), (10, _), (11, _), (13, _), (14, _), (93, _), (94, _), (95, _), (96, _), (97, _), (98, _), (99, _), (100, _), (101, _), (102, _), (103, _), (104, _), (105, _), (106, _), (107, _), (108, _), (109, _), (110, _), (111, _), (112, _), (125, _)] ⟨rfl, rfl, rfl, rfl, rfl, rfl, rfl, rfl, rfl, rfl, rfl, rfl, rfl, rfl, rfl, rfl, rfl, rfl, rfl, rfl, rfl, rfl, rfl, rfl, rfl, rfl, rfl, rfl, rfl, trivial⟩ ?_
      refine WC.cF1 rfl ?_
      refine WC.skip ?_
      refine after0_normal ?_
      refine loopR_normal ?_
      refine ⟨⟨qh - 1, rh + v1⟩, ⟨rfl, rfl, rfl, rfl, rfl, rfl, rfl, rfl, trivial⟩, ⟨g0, g1 (by decide) g0, trivial⟩, ⟨dec_eq hG1 hdc1, hdc2, by omega, by omega, by omega⟩, by show qh - 1 < qh; omega⟩
    refine WO.nil ?_
    refine WC.weak [(6, _), (7, _), (8, _), (9, _), (10, _), (11, _), (13, _), (14, _), (93, _), (94, _), (95, _), (96, _), (97, _), (98, _), (99, _), (100, _), (101, _), (102, _), (103, _), (104, _), (105, _), (106, _), (107, _), (108, _), (109, _), (110, _), (111, _), (112, _), (125, _)] ⟨rfl, rfl, rfl, rfl, rfl, rfl, rfl, rfl, rfl, rfl, rfl, rfl, rfl, rfl, rfl, rfl, rfl, rfl, rfl, rfl, rfl, rfl, rfl, rfl, rfl, rfl, rfl, rfl, rfl, trivial⟩ ?_
    refine WC.cT1 rfl ?_
    refine WC.exit ?_
    refine after0_exitF rfl ?_
    refine loopR_exit ?_
    refine after_exit rfl ?_
    refine WC.weak [(6, _), (7, _), (8, _), (9, _), (10, _), (11, _), (13, _), (93, _), (94, _), (95, _), (96, _), (97, _), (98, _), (99, _), (100, _), (101, _), (102, _), (103, _), (104, _), (105, _), (106, _), (107, _), (108, _), (109, _), (110, _), (111, _), (112, _)] ⟨rfl, rfl, rfl, rfl, rfl, rfl, rfl, rfl, rfl, rfl, rfl, rfl, rfl, rfl, rfl, rfl, rfl, rfl, rfl, rfl, rfl, rfl, rfl, rfl, rfl, rfl, rfl, trivial⟩ ?_
    obtain ⟨hql, hqo⟩ := lq_break LQh hG1 hdc1 hG4 (by omega) hG3
    replace hG2 := hdc2
    obtain ⟨q1, hq1⟩ : ∃ q1, q1 = qh - 1 := ⟨_, rfl⟩
    rw [← hq1] at hqo hql hG2 ⊢
    refine WC.reg (z := 2) rfl ?_
    refine WO.U (oAs rfl) rfl ?_
    refine WO.U (oAs rfl) rfl ?_
    refine WO.nil ?_
    refine WC.weak [(6, _), (7, _), (8, _), (9, _), (10, _), (11, _), (13, _), (15, _), (16, _), (93, _), (94, _), (95, _), (96, _), (97, _), (98, _), (99, _), (100, _), (101, _), (102, _), (103, _), (104, _), (105, _), (106, _), (107, _), (108, _), (109, _), (110, _), (111, _), (112, _)] ⟨rfl, rfl, rfl, rfl, rfl, rfl, rfl, rfl, rfl, rfl, rfl, rfl, rfl, rfl, rfl, rfl, rfl, rfl, rfl, rfl, rfl, rfl, rfl, rfl, rfl, rfl, rfl, rfl, rfl, trivial⟩ ?_
    refine WC.assoc ?_
    refine WC.reg (z := 3) rfl ?_
    refine WO.U (oMv rfl) rfl ?_
    refine WO.U (oLenM rfl rfl) rfl ?_
    refine WO.U (oMv rfl) rfl ?_
    refine WO.nil ?_
    refine WC.weak [(6, _), (7, _), (8, _), (9, _), (10, _), (11, _), (13, _), (15, _), (16, _), (93, _), (94, _), (95, _), (96, _), (97, _), (98, _), (99, _), (100, _), (101, _), (102, _), (103, _), (104, _), (105, _), (106, _), (107, _), (108, _), (109, _), (110, _), (111, _), (112, _), (126, _), (127, _), (128, _)] ⟨rfl, rfl, rfl, rfl, rfl, rfl, rfl, rfl, rfl, rfl, rfl, rfl, rfl, rfl, rfl, rfl, rfl, rfl, rfl, rfl, rfl, rfl, rfl, rfl, rfl, rfl, rfl, rfl, rfl, rfl, rfl, rfl, trivial⟩ ?_
    refine WC.block ?_
    refine WC.loopV (α := Nat × Nat × Nat × (List Nat)) (fun ⟨i, c, b, us1⟩ => [(6, .v (.int .i64 (sh : Int))), (7, .ref (0 + 2 + 8 + 2) 1 0 us1.length), (8, .sl 1 (vs.map d32)), (9, .v (.int .i64 (vs.length : Int))), (10, .ref (0 + 2 + 8 + 9 + 3 + 4) 1 0 qs.length), (11, .v (.int .i64 ((k : Int) - 1))), (13, .v (.int .u64 (q1 : Int))), (15, .v (.int .u64 (b : Int))), (16, .v (.int .u64 (c : Int))), (126, .sl 1 (vs.map d32)), (127, .v (.int .i64 (vs.length : Int))), (128, .v (.int .i64 (i : Int)))]) (fun ⟨i, c, b, us1⟩ => [((0 + 2 + 8 + 2), { cells := (us1.map d32).flatten, sz := 1, elem := 125, st := 0 }), ((0 + 2 + 8 + 9 + 3 + 4), { cells := (qs.map d32).flatten, sz := 1, elem := 125, st := 0 })]) (fun ⟨i, c, b, us1⟩ n => i ≤ vs.length ∧ us1.length = us.length ∧ Dg 4294967296 us1 ∧ c < 4294967296 ∧ b ≤ 1 ∧ val 4294967296 us1 + 4294967296 ^ (k - 1) * (q1 * val 4294967296 (vs.take i)) = val 4294967296 us + 4294967296 ^ (k - 1 + i) * (c + b) ∧ us1.take (k - 1) = us.take (k - 1) ∧ us1.drop (k - 1 + i) = us.drop (k - 1 + i) ∧ 30 ≤ n) (fun ⟨i, c, b, us1⟩ => vs.length - i) (0, 0, 0, us) ⟨rfl, rfl, rfl, rfl, rfl, rfl, rfl, rfl, rfl, rfl, rfl, rfl, trivial⟩ ⟨g0, g1 (by decide) g0, trivial⟩ ⟨Nat.zero_le _, rfl, hud, by decide, by decide, by simp [val], rfl, rfl, by omega⟩ ?_
    rintro ⟨i, c, b, us1⟩ n hL
    change WC _ _ _ _ _ [(6, .v (.int .i64 (sh : Int))), (7, .ref (0 + 2 + 8 + 2) 1 0 us1.length), (8, .sl 1 (vs.map d32)), (9, .v (.int .i64 (vs.length : Int))), (10, .ref (0 + 2 + 8 + 9 + 3 + 4) 1 0 qs.length), (11, .v (.int .i64 ((k : Int) - 1))), (13, .v (.int .u64 (q1 : Int))), (15, .v (.int .u64 (b : Int))), (16, .v (.int .u64 (c : Int))), (126, .sl 1 (vs.map d32)), (127, .v (.int .i64 (vs.length : Int))), (128, .v (.int .i64 (i : Int)))] ([((0 + 2 + 8 + 2), { cells := (us1.map d32).flatten, sz := 1, elem := 125, st := 0 }), ((0 + 2 + 8 + 9 + 3 + 4), { cells := (qs.map d32).flatten, sz := 1, elem := 125, st := 0 })]) n _
    obtain ⟨hi, hl1, hd1, hc1, hb1, he1, ht1, hp1, hn32⟩ := hL
    refine WC.reg (z := 1) rfl ?_
    refine WO.U (oLss rfl rfl) rfl ?_
    refine WO.D (fun h129 => ?_) (fun h129 => ?_)
    · refine WO.nil ?_
      refine WC.weak [(6, _), (7, _), (8, _), (9, _), (10, _), (11, _), (13, _), (15, _), (16, _), (126, _), (127, _), (128, _), (129, _)] ⟨rfl, rfl, rfl, rfl, rfl, rfl, rfl, rfl, rfl, rfl, rfl, rfl, rfl, trivial⟩ ?_
      refine WC.cT rfl ?_
      refine WC.skips ?_
      refine WC.block ?_
      have hvi : vs.getD i default < 4294967296 := getD_lt hvd (by omega)
      have hui : us1.getD (k - 1 + i) default < 4294967296 := getD_lt hd1 (by omega)
      have hqv := mul_dig hql hvi
      obtain ⟨p, hpe⟩ : ∃ p, p = q1 * vs.getD i default + c := ⟨_, rfl⟩
      obtain ⟨u, hue⟩ : ∃ u, u = us1.getD (k - 1 + i) default := ⟨_, rfl⟩
      have hpb : p < 18446744073709551616 := by omega
      obtain ⟨d, hde⟩ : ∃ d, d = (u + 4294967296 - p % 4294967296 - b) % 4294967296 := ⟨_, rfl⟩
      refine WC.reg (z := 5) rfl ?_
      refine WO.U (oMv rfl) rfl ?_
      refine WO.U (oIxM rfl rfl rfl rfl rfl (by omega) rfl) rfl ?_
      refine WO.U (oLd rfl rfl rfl) rfl ?_
      refine WO.U (oAs rfl) rfl ?_
      refine WO.U (oAs rfl) rfl ?_
      refine WO.nil ?_
      refine WC.weak [(6, _), (7, _), (8, _), (9, _), (10, _), (11, _), (13, _), (15, _), (16, _), (17, _), (18, _), (126, _), (127, _), (128, _)] ⟨rfl, rfl, rfl, rfl, rfl, rfl, rfl, rfl, rfl, rfl, rfl, rfl, rfl, rfl, trivial⟩ ?_
      refine WC.reg (z := 7) rfl ?_
      refine WO.U (oMv rfl) rfl ?_
      refine WO.U (oMv rfl) rfl ?_
      refine WO.U (OP.castI (b := (vs.getD i default : Int)) (oCnv rfl rfl rfl) (by rw [IntKind.wrap_u64]; omega)) rfl ?_
      refine WO.U (OP.castI (b := ((q1 * vs.getD i default : Nat) : Int)) (oMulU rfl rfl) (by rw [← Int.natCast_mul]; omega)) rfl ?_
      refine WO.U (oMv rfl) rfl ?_
      refine WO.U (OP.castI (b := (p : Int)) (oAddU rfl rfl) (by omega)) rfl ?_
      refine WO.U (oAs rfl) rfl ?_
      refine WO.nil ?_
      refine WC.weak [(6, _), (7, _), (8, _), (9, _), (10, _), (11, _), (13, _), (15, _), (17, _), (19, _), (126, _), (127, _), (128, _)] ⟨rfl, rfl, rfl, rfl, rfl, rfl, rfl, rfl, rfl, rfl, rfl, rfl, rfl, trivial⟩ ?_
      refine WC.reg (z := 3) rfl ?_
      refine WO.U (oMv rfl) rfl ?_
      refine WO.U (OP.castI (b := ((p / 4294967296 : Nat) : Int)) (oShrU (s := 32) rfl rfl (by omega)) (by omega)) rfl ?_
      refine WO.U (oAs rfl) rfl ?_
      refine WO.nil ?_
      refine WC.weak [(6, _), (7, _), (8, _), (9, _), (10, _), (11, _), (13, _), (15, _), (16, _), (17, _), (19, _), (126, _), (127, _), (128, _)] ⟨rfl, rfl, rfl, rfl, rfl, rfl, rfl, rfl, rfl, rfl, rfl, rfl, rfl, rfl, trivial⟩ ?_
      refine WC.reg (z := 14) rfl ?_
      refine WO.U (oMv rfl) rfl ?_
      refine WO.U (oMv rfl) rfl ?_
      refine WO.U (oMv rfl) rfl ?_
      refine WO.U (OP.castI (b := ((k - 1 + i : Nat) : Int)) (oAdd64 rfl rfl (by omega)) (by omega)) rfl ?_
      refine WO.U (oIxR (j := k - 1 + i) rfl rfl rfl rfl (by omega) (by omega) rfl) rfl ?_
      refine WO.U (oLdO (f := d32) (us := us1) (j := k - 1 + i) rfl rfl g0 (fun _ => rfl) rfl (by decide) (by omega) rfl) rfl ?_
      refine WO.U (OP.castI (b := (u : Int)) (oCnv rfl rfl rfl) (by rw [IntKind.wrap_u64]; omega)) rfl ?_
      refine WO.U (oMv rfl) rfl ?_
      refine WO.U (OP.castI (b := ((p % 4294967296 : Nat) : Int)) (oCnv rfl rfl rfl) (by rw [IntKind.wrap_u32]; omega)) rfl ?_
      refine WO.U (OP.castI (b := ((p % 4294967296 : Nat) : Int)) (oCnv rfl rfl rfl) (by rw [IntKind.wrap_u64]; omega)) rfl ?_
      refine WO.U (oSubU rfl rfl) rfl ?_
      refine WO.U (oMv rfl) rfl ?_
      refine WO.U (OP.castI (b := ((((u + 18446744073709551616 - p % 4294967296 - b) % 18446744073709551616) : Nat) : Int)) (oSubU rfl rfl) (by omega)) rfl ?_
      refine WO.U (oAs rfl) rfl ?_
      refine WO.nil ?_
      refine WC.weak [(6, _), (7, _), (8, _), (9, _), (10, _), (11, _), (13, _), (16, _), (17, _), (20, _), (126, _), (127, _), (128, _)] ⟨rfl, rfl, rfl, rfl, rfl, rfl, rfl, rfl, rfl, rfl, rfl, rfl, rfl, trivial⟩ ?_
      refine WC.reg (z := 8) rfl ?_
      refine WO.U (oMv rfl) rfl ?_
      refine WO.U (oMv rfl) rfl ?_
      refine WO.U (oMv rfl) rfl ?_
      refine WO.U (OP.castI (b := ((k - 1 + i : Nat) : Int)) (oAdd64 rfl rfl (by omega)) (by omega)) rfl ?_
      refine WO.U (oMv rfl) rfl ?_
      refine WO.U (OP.castI (b := (d : Int)) (oCnv rfl rfl rfl) (by rw [IntKind.wrap_u32]; omega)) rfl ?_
      refine WO.U (oIxR (j := k - 1 + i) rfl rfl rfl rfl (by omega) (by omega) rfl) rfl ?_
      refine WO.S0 (oStO (f := d32) (us := us1) d rfl rfl rfl g0 (fun _ => rfl) rfl rfl (by omega) rfl) ?_
      refine WO.nil ?_
      refine WC.weak [(6, _), (7, _), (8, _), (9, _), (10, _), (11, _), (13, _), (16, _), (20, _), (126, _), (127, _), (128, _)] ⟨rfl, rfl, rfl, rfl, rfl, rfl, rfl, rfl, rfl, rfl, rfl, rfl, trivial⟩ ?_
      refine WC.reg1z (z := 3) rfl ?_
      refine WO.U (oMv rfl) rfl ?_
      refine WO.U (OP.castI (b := ((if u < p % 4294967296 + b then 1 else 0 : Nat) : Int)) (oShrU (s := 63) rfl rfl (by omega)) (by split <;> omega)) rfl ?_
      refine WO.U (oAs rfl) rfl ?_
      refine WO.nil ?_
      refine after_normal ?_
      refine WC.weak [(6, _), (7, _), (8, _), (9, _), (10, _), (11, _), (13, _), (15, _), (16, _), (126, _), (127, _), (128, _)] ⟨rfl, rfl, rfl, rfl, rfl, rfl, rfl, rfl, rfl, rfl, rfl, rfl, trivial⟩ ?_
      refine WC.reg1z (z := 2) rfl ?_
      refine WO.U (OP.castI (b := ((i + 1 : Nat) : Int)) (oAdd64 rfl rfl (by omega)) (by omega)) rfl ?_
      refine WO.U (oMv rfl) rfl ?_
      refine WO.nil ?_
      refine loopR_normal ?_
      refine ⟨⟨i + 1, p / 4294967296, if u < p % 4294967296 + b then 1 else 0, us1.set (k - 1 + i) d⟩, ⟨rfl, congrArg some (by rw [List.length_set]), rfl, rfl, rfl, rfl, rfl, rfl, rfl, rfl, rfl, rfl, trivial⟩, ⟨g0, g1 (by decide) (g1 (by decide) g0), trivial⟩, ⟨by omega, by rw [List.length_set]; exact hl1, hd1.set _ (by omega), by omega, by split <;> omega, ?_, by rw [take_set_le (by omega)]; exact ht1, by rw [drop_set_lt (by omega)]; exact drop_more hp1 (by omega), by omega⟩, by show vs.length - (i + 1) < vs.length - i; omega⟩
      rw [hpe]
      exact submul_step he1 (by omega) (by rw [← hpe, ← hue, hde]; split <;> omega)
    refine WO.nil ?_
    refine WC.weak [(6, _), (7, _), (8, _), (9, _), (10, _), (11, _), (13, _), (15, _), (16, _), (126, _), (127, _), (128, _), (129, _)] ⟨rfl, rfl, rfl, rfl, rfl, rfl, rfl, rfl, rfl, rfl, rfl, rfl, rfl, trivial⟩ ?_
    refine WC.cF rfl ?_
    refine WC.exits ?_
    refine loopR_exit ?_
    refine after_exit rfl ?_
    refine WC.weak [(6, _), (7, _), (8, _), (9, _), (10, _), (11, _), (13, _), (15, _), (16, _)] ⟨rfl, rfl, rfl, rfl, rfl, rfl, rfl, rfl, rfl, trivial⟩ ?_
    have hi' : i = vs.length := by omega
    subst hi'
    rw [List.take_of_length_le (Nat.le_refl _)] at he1
    obtain ⟨u, hue⟩ : ∃ u, u = us1.getD (k - 1 + vs.length) default := ⟨_, rfl⟩
    have hul1 : u < 4294967296 := by rw [hue]; exact getD_lt hd1 (by omega)
    obtain ⟨d, hde⟩ : ∃ d, d = (u + 4294967296 - c - b) % 4294967296 := ⟨_, rfl⟩
    have hd4 : d < 4294967296 := by omega
    refine WC.reg (z := 12) rfl ?_
    refine WO.U (oMv rfl) rfl ?_
    refine WO.U (oMv rfl) rfl ?_
    refine WO.U (oMv rfl) rfl ?_
    refine WO.U (OP.castI (b := ((k - 1 + vs.length : Nat) : Int)) (oAdd64 rfl rfl (by omega)) (by omega)) rfl ?_
    refine WO.U (oIxR (j := k - 1 + vs.length) rfl rfl rfl rfl (by omega) (by omega) rfl) rfl ?_
    refine WO.U (oLdO (f := d32) (us := us1) (j := k - 1 + vs.length) rfl rfl g0 (fun _ => rfl) rfl (by decide) (by omega) rfl) rfl ?_
    refine WO.U (OP.castI (b := (u : Int)) (oCnv rfl rfl rfl) (by rw [IntKind.wrap_u64]; omega)) rfl ?_
    refine WO.U (oMv rfl) rfl ?_
    refine WO.U (oSubU rfl rfl) rfl ?_
    refine WO.U (oMv rfl) rfl ?_
    refine WO.U (OP.castI (b := ((((u + 18446744073709551616 - c - b) % 18446744073709551616) : Nat) : Int)) (oSubU rfl rfl) (by omega)) rfl ?_
    refine WO.U (oAs rfl) rfl ?_
    refine WO.nil ?_
    refine WC.weak [(6, _), (7, _), (8, _), (9, _), (10, _), (11, _), (13, _), (21, _)] ⟨rfl, rfl, rfl, rfl, rfl, rfl, rfl, rfl, trivial⟩ ?_
    refine WC.reg (z := 8) rfl ?_
    refine WO.U (oMv rfl) rfl ?_
    refine WO.U (oMv rfl) rfl ?_
    refine WO.U (oMv rfl) rfl ?_
    refine WO.U (OP.castI (b := ((k - 1 + vs.length : Nat) : Int)) (oAdd64 rfl rfl (by omega)) (by omega)) rfl ?_
    refine WO.U (oMv rfl) rfl ?_
    refine WO.U (OP.castI (b := (d : Int)) (oCnv rfl rfl rfl) (by rw [IntKind.wrap_u32]; omega)) rfl ?_
    refine WO.U (oIxR (j := k - 1 + vs.length) rfl rfl rfl rfl (by omega) (by omega) rfl) rfl ?_
    refine WO.S0 (oStO (f := d32) (us := us1) d rfl rfl rfl g0 (fun _ => rfl) rfl rfl (by omega) rfl) ?_
    refine WO.nil ?_
    refine WC.weak [(6, _), (7, _), (8, _), (9, _), (10, _), (11, _), (13, _), (21, _)] ⟨rfl, rfl, rfl, rfl, rfl, rfl, rfl, rfl, trivial⟩ ?_
    refine WC.assoc ?_
    refine WC.reg (z := 3) rfl ?_
    refine WO.U (oMv rfl) rfl ?_
    refine WO.U (OP.castI (b := ((if u < c + b then 1 else 0 : Nat) : Int)) (oShrU (s := 63) rfl rfl (by omega)) (by split <;> omega)) rfl ?_
    refine WO.U (oEql rfl rfl) rfl ?_
    refine WO.D (fun h184 => ?_) (fun h184 => ?_)
    rotate_left
    · have hneg : c + b ≤ u := by
        rcases Nat.lt_or_ge u (c + b) with h | h
        · rw [if_pos h] at h184; simp at h184
        · exact h
      have hs2 := sub_last (o := 0) (d := d) he1 (by omega) (by rw [← hue]; omega)
      rw [Nat.mul_zero, Nat.add_zero] at hs2
      refine WO.nil ?_
      refine WC.weak [(6, _), (7, _), (8, _), (9, _), (10, _), (11, _), (13, _), (184, _)] ⟨rfl, rfl, rfl, rfl, rfl, rfl, rfl, rfl, trivial⟩ ?_
      refine WC.cF rfl ?_
      refine WC.skips ?_
      have hlF : (us1.set (k - 1 + vs.length) d).length = us.length := by rw [List.length_set]; exact hl1
      have hdF : Dg 4294967296 (us1.set (k - 1 + vs.length) d) := hd1.set _ hd4
      have hltF := long_end0 (by decide) hV0 (by omega) (by omega) (by rw [take_set_le (by omega)]; exact ht1) hs2 hG2
      have hUF := long_next (qs := qs) (j := k - 1) (by omega) (by rw [show k - 1 + 1 = k by omega]; exact hU) hs2
      refine WC.reg1z (z := 6) rfl ?_
      refine WO.U (oMv rfl) rfl ?_
      refine WO.U (oMv rfl) rfl ?_
      refine WO.U (oMv rfl) rfl ?_
      refine WO.U (OP.castI (b := (q1 : Int)) (oCnv rfl rfl rfl) (by rw [IntKind.wrap_u32]; omega)) rfl ?_
      refine WO.U (oIxR (j := k - 1) rfl rfl rfl rfl (by omega) (by omega) rfl) rfl ?_
      refine WO.S0 (oStO (f := d32) (us := qs) q1 rfl rfl rfl (g1 (by decide) (g1 (by decide) g0)) (fun _ => rfl) rfl rfl (by omega) rfl) ?_
      refine WO.nil ?_
      refine after_normal ?_
      refine WC.weak [(6, _), (7, _), (8, _), (9, _), (10, _), (11, _)] ⟨rfl, rfl, rfl, rfl, rfl, rfl, trivial⟩ ?_
      refine WC.reg1z (z := 3) rfl ?_
      refine WO.U (oMv rfl) rfl ?_
      refine WO.U (OP.castI (b := ((k - 1 : Nat) : Int) - 1) (oSub64 rfl rfl (by omega)) (by omega)) rfl ?_
      refine WO.U (oAs rfl) rfl ?_
      refine WO.nil ?_
      refine loopR_normal ?_
      refine ⟨⟨k - 1, (us1.set (k - 1 + vs.length) d), qs.set (k - 1) q1⟩, ⟨rfl, congrArg some (by rw [List.length_set]), rfl, rfl, congrArg some (by rw [List.length_set]), rfl, trivial⟩, ⟨g1 (by decide) g0, g0, trivial⟩, ⟨by rw [hlF]; omega, by rw [hlF]; exact hul, by rw [List.length_set]; exact hql0, hdF, hqd.set _ (by omega), hUF, hltF, by omega⟩, by show k - 1 < k; omega⟩
    have hneg : u < c + b := by
      rcases Nat.lt_or_ge u (c + b) with h | h
      · exact h
      · rw [if_neg (by omega)] at h184; simp at h184
    have hs2 := sub_last (o := 1) (d := d) he1 (by omega) (by rw [← hue]; omega)
    have hlT : (us1.set (k - 1 + vs.length) d).length = us.length := by rw [List.length_set]; exact hl1
    have hdT : Dg 4294967296 (us1.set (k - 1 + vs.length) d) := hd1.set _ hd4
    have htT : (us1.set (k - 1 + vs.length) d).take (k - 1) = us.take (k - 1) := by rw [take_set_le (by omega)]; exact ht1
    have hpT : (us1.set (k - 1 + vs.length) d).drop (k - 1 + vs.length + 1) = us.drop (k - 1 + vs.length + 1) := by rw [drop_set_lt (by omega)]; exact drop_more hp1 (by omega)
    obtain ⟨hgt, hq1p⟩ := neg_gt (by decide) hdT (by omega) hlT hRB hpT htT hs2
    refine WO.nil ?_
    refine WC.weak [(6, _), (7, _), (8, _), (9, _), (10, _), (11, _), (13, _), (184, _)] ⟨rfl, rfl, rfl, rfl, rfl, rfl, rfl, rfl, trivial⟩ ?_
    refine WC.cT rfl ?_
    refine WC.assoc ?_
    refine WC.reg (z := 3) rfl ?_
    refine WO.U (oMv rfl) rfl ?_
    refine WO.U (OP.castI (b := ((q1 - 1 : Nat) : Int)) (oSubU rfl rfl) (by omega)) rfl ?_
    refine WO.U (oAs rfl) rfl ?_
    refine WO.nil ?_
    refine WC.weak [(6, _), (7, _), (8, _), (9, _), (10, _), (11, _), (13, _)] ⟨rfl, rfl, rfl, rfl, rfl, rfl, rfl, trivial⟩ ?_
    refine WC.assoc ?_
    refine WC.reg (z := 1) rfl ?_
    refine WO.U (oAs rfl) rfl ?_
    refine WO.nil ?_
    refine WC.weak [(6, _), (7, _), (8, _), (9, _), (10, _), (11, _), (13, _), (22, _)] ⟨rfl, rfl, rfl, rfl, rfl, rfl, rfl, rfl, trivial⟩ ?_
    refine WC.assoc ?_
    refine WC.assoc ?_
    refine WC.reg (z := 3) rfl ?_
    refine WO.U (oMv rfl) rfl ?_
    refine WO.U (oLenM rfl rfl) rfl ?_
    refine WO.U (oMv rfl) rfl ?_
    refine WO.nil ?_
    refine WC.weak [(6, _), (7, _), (8, _), (9, _), (10, _), (11, _), (13, _), (22, _), (187, _), (188, _), (189, _)] ⟨rfl, rfl, rfl, rfl, rfl, rfl, rfl, rfl, rfl, rfl, rfl, trivial⟩ ?_
    refine WC.block ?_
    refine WC.loopV (α := Nat × Nat × (List Nat)) (fun ⟨i2, c2, us3⟩ => [(6, .v (.int .i64 (sh : Int))), (7, .ref (0 + 2 + 8 + 2) 1 0 us3.length), (8, .sl 1 (vs.map d32)), (9, .v (.int .i64 (vs.length : Int))), (10, .ref (0 + 2 + 8 + 9 + 3 + 4) 1 0 qs.length), (11, .v (.int .i64 ((k : Int) - 1))), (13, .v (.int .u64 ((q1 - 1 : Nat) : Int))), (22, .v (.int .u32 (c2 : Int))), (187, .sl 1 (vs.map d32)), (188, .v (.int .i64 (vs.length : Int))), (189, .v (.int .i64 (i2 : Int)))]) (fun ⟨i2, c2, us3⟩ => [((0 + 2 + 8 + 2), { cells := (us3.map d32).flatten, sz := 1, elem := 125, st := 0 }), ((0 + 2 + 8 + 9 + 3 + 4), { cells := (qs.map d32).flatten, sz := 1, elem := 125, st := 0 })]) (fun ⟨i2, c2, us3⟩ n => i2 ≤ vs.length ∧ us3.length = us.length ∧ Dg 4294967296 us3 ∧ c2 ≤ 1 ∧ val 4294967296 us3 + 4294967296 ^ (k - 1 + i2) * c2 = val 4294967296 (us1.set (k - 1 + vs.length) d) + 4294967296 ^ (k - 1) * val 4294967296 (vs.take i2) ∧ us3.take (k - 1) = us.take (k - 1) ∧ us3.drop (k - 1 + vs.length) = (us1.set (k - 1 + vs.length) d).drop (k - 1 + vs.length) ∧ 30 ≤ n) (fun ⟨i2, c2, us3⟩ => vs.length - i2) (0, 0, (us1.set (k - 1 + vs.length) d)) ⟨rfl, congrArg some (by rw [List.length_set]), rfl, rfl, rfl, rfl, rfl, rfl, rfl, rfl, rfl, trivial⟩ ⟨g0, g1 (by decide) (g1 (by decide) g0), trivial⟩ ⟨Nat.zero_le _, hlT, hdT, by decide, by simp [val], htT, rfl, by omega⟩ ?_
    rintro ⟨i2, c2, us3⟩ n hM
    change WC _ _ _ _ _ [(6, .v (.int .i64 (sh : Int))), (7, .ref (0 + 2 + 8 + 2) 1 0 us3.length), (8, .sl 1 (vs.map d32)), (9, .v (.int .i64 (vs.length : Int))), (10, .ref (0 + 2 + 8 + 9 + 3 + 4) 1 0 qs.length), (11, .v (.int .i64 ((k : Int) - 1))), (13, .v (.int .u64 ((q1 - 1 : Nat) : Int))), (22, .v (.int .u32 (c2 : Int))), (187, .sl 1 (vs.map d32)), (188, .v (.int .i64 (vs.length : Int))), (189, .v (.int .i64 (i2 : Int)))] ([((0 + 2 + 8 + 2), { cells := (us3.map d32).flatten, sz := 1, elem := 125, st := 0 }), ((0 + 2 + 8 + 9 + 3 + 4), { cells := (qs.map d32).flatten, sz := 1, elem := 125, st := 0 })]) n _
    obtain ⟨hi2, hl3, hd3, hc3, he3, ht3, hp3, hn33⟩ := hM
    refine WC.reg (z := 1) rfl ?_
    refine WO.U (oLss rfl rfl) rfl ?_
    refine WO.D (fun h190 => ?_) (fun h190 => ?_)
    · refine WO.nil ?_
      refine WC.weak [(6, _), (7, _), (8, _), (9, _), (10, _), (11, _), (13, _), (22, _), (187, _), (188, _), (189, _), (190, _)] ⟨rfl, rfl, rfl, rfl, rfl, rfl, rfl, rfl, rfl, rfl, rfl, rfl, trivial⟩ ?_
      refine WC.cT rfl ?_
      refine WC.skips ?_
      refine WC.block ?_
      refine WC.reg (z := 5) rfl ?_
      refine WO.U (oMv rfl) rfl ?_
      refine WO.U (oIxM rfl rfl rfl rfl rfl (by omega) rfl) rfl ?_
      refine WO.U (oLd rfl rfl rfl) rfl ?_
      refine WO.U (oAs rfl) rfl ?_
      refine WO.U (oAs rfl) rfl ?_
      refine WO.nil ?_
      refine WC.weak [(6, _), (7, _), (8, _), (9, _), (10, _), (11, _), (13, _), (22, _), (23, _), (24, _), (187, _), (188, _), (189, _)] ⟨rfl, rfl, rfl, rfl, rfl, rfl, rfl, rfl, rfl, rfl, rfl, rfl, rfl, trivial⟩ ?_
      have hu3 : us3.getD (k - 1 + i2) default < 4294967296 := getD_lt hd3 (by omega)
      have hv3 : vs.getD i2 default < 4294967296 := getD_lt hvd (by omega)
      refine WC.reg1z (z := 19) rfl ?_
      refine WO.U (oMv rfl) rfl ?_
      refine WO.U (oMv rfl) rfl ?_
      refine WO.U (oMv rfl) rfl ?_
      refine WO.U (OP.castI (b := ((k - 1 + i2 : Nat) : Int)) (oAdd64 rfl rfl (by omega)) (by omega)) rfl ?_
      refine WO.U (oMv rfl) rfl ?_
      refine WO.U (oMv rfl) rfl ?_
      refine WO.U (oMv rfl) rfl ?_
      refine WO.U (OP.castI (b := ((k - 1 + i2 : Nat) : Int)) (oAdd64 rfl rfl (by omega)) (by omega)) rfl ?_
      refine WO.U (oIxR (j := k - 1 + i2) rfl rfl rfl rfl (by omega) (by omega) rfl) rfl ?_
      refine WO.U (oLdO (f := d32) (us := us3) (j := k - 1 + i2) rfl rfl g0 (fun _ => rfl) rfl (by decide) (by omega) rfl) rfl ?_
      refine WO.U (oMv rfl) rfl ?_
      refine WO.U (oMv rfl) rfl ?_
      refine WO.U (oCall rfl (add32_run (us3.getD (k - 1 + i2) default) (vs.getD i2 default) c2 hu3 hv3 hc3) (by simp)) rfl ?_
      refine WO.U (oMv rfl) rfl ?_
      refine WO.U (oEx rfl rfl) rfl ?_
      refine WO.U (oEx rfl rfl) rfl ?_
      refine WO.U (oIxR (j := k - 1 + i2) rfl rfl rfl rfl (by omega) (by omega) rfl) rfl ?_
      refine WO.S0 (oStO (f := d32) (us := us3) ((us3.getD (k - 1 + i2) default + vs.getD i2 default + c2) % 4294967296) rfl rfl rfl g0 (fun _ => rfl) rfl rfl (by omega) rfl) ?_
      refine WO.U (oAs rfl) rfl ?_
      refine WO.nil ?_
      refine after_normal ?_
      refine WC.weak [(6, _), (7, _), (8, _), (9, _), (10, _), (11, _), (13, _), (22, _), (187, _), (188, _), (189, _)] ⟨rfl, rfl, rfl, rfl, rfl, rfl, rfl, rfl, rfl, rfl, rfl, trivial⟩ ?_
      refine WC.reg1z (z := 2) rfl ?_
      refine WO.U (OP.castI (b := ((i2 + 1 : Nat) : Int)) (oAdd64 rfl rfl (by omega)) (by omega)) rfl ?_
      refine WO.U (oMv rfl) rfl ?_
      refine WO.nil ?_
      refine loopR_normal ?_
      refine ⟨⟨i2 + 1, _, us3.set (k - 1 + i2) ((us3.getD (k - 1 + i2) default + vs.getD i2 default + c2) % 4294967296)⟩, ⟨rfl, congrArg some (by rw [List.length_set]), rfl, rfl, rfl, rfl, rfl, rfl, rfl, rfl, rfl, trivial⟩, ⟨g0, g1 (by decide) (g1 (by decide) g0), trivial⟩, ⟨by omega, by rw [List.length_set]; exact hl3, hd3.set _ (by omega), by omega, addback_step he3 (by omega), by rw [take_set_le (by omega)]; exact ht3, by rw [drop_set_lt (by omega)]; exact hp3, by omega⟩, by show vs.length - (i2 + 1) < vs.length - i2; omega⟩
    refine WO.nil ?_
    refine WC.weak [(6, _), (7, _), (8, _), (9, _), (10, _), (11, _), (13, _), (22, _), (187, _), (188, _), (189, _), (190, _)] ⟨rfl, rfl, rfl, rfl, rfl, rfl, rfl, rfl, rfl, rfl, rfl, rfl, trivial⟩ ?_
    refine WC.cF rfl ?_
    refine WC.exits ?_
    refine loopR_exit ?_
    refine after_exit rfl ?_
    refine WC.weak [(6, _), (7, _), (8, _), (9, _), (10, _), (11, _), (13, _), (22, _)] ⟨rfl, rfl, rfl, rfl, rfl, rfl, rfl, rfl, trivial⟩ ?_
    have hi' : i2 = vs.length := by omega
    subst hi'
    rw [List.take_of_length_le (Nat.le_refl _)] at he3
    have hu3 : us3.getD (k - 1 + vs.length) default < 4294967296 := getD_lt hd3 (by omega)
    refine WC.reg (z := 10) rfl ?_
    refine WO.U (oMv rfl) rfl ?_
    refine WO.U (oMv rfl) rfl ?_
    refine WO.U (oMv rfl) rfl ?_
    refine WO.U (OP.castI (b := ((k - 1 + vs.length : Nat) : Int)) (oAdd64 rfl rfl (by omega)) (by omega)) rfl ?_
    refine WO.U (oIxR (j := k - 1 + vs.length) rfl rfl rfl rfl (by omega) (by omega) rfl) rfl ?_
    refine WO.U (oLdO (f := d32) (us := us3) (j := k - 1 + vs.length) rfl rfl g0 (fun _ => rfl) rfl (by decide) (by omega) rfl) rfl ?_
    refine WO.U (oMv rfl) rfl ?_
    refine WO.U (OP.castI (b := (((us3.getD (k - 1 + vs.length) default + c2) % 4294967296 : Nat) : Int)) (oAdd32 rfl rfl) (by omega)) rfl ?_
    refine WO.U (oIxR (j := k - 1 + vs.length) rfl rfl rfl rfl (by omega) (by omega) rfl) rfl ?_
    refine WO.S0 (oStO (f := d32) (us := us3) ((us3.getD (k - 1 + vs.length) default + c2) % 4294967296) rfl rfl rfl g0 (fun _ => rfl) rfl rfl (by omega) rfl) ?_
    refine WO.nil ?_
    refine WC.weak [(6, _), (7, _), (8, _), (9, _), (10, _), (11, _), (13, _)] ⟨rfl, rfl, rfl, rfl, rfl, rfl, rfl, trivial⟩ ?_
    have hlF : (us3.set (k - 1 + vs.length) ((us3.getD (k - 1 + vs.length) default + c2) % 4294967296)).length = us.length := by rw [List.length_set]; exact hl3
    have hdF : Dg 4294967296 (us3.set (k - 1 + vs.length) ((us3.getD (k - 1 + vs.length) default + c2) % 4294967296)) := hd3.set _ (by omega)
    have h4 := addback_last he3 (by omega)
    obtain ⟨hs4, hltF⟩ := back_end (by decide) hV0 hdF (by omega) hlF hRB (by rw [drop_set_lt (by omega)]; exact (drop_more hp3 (by omega)).trans hpT) (by rw [take_set_le (by omega)]; exact ht3) hs2 h4 hG2 hq1p hqo hgt (by omega)
    have hUF := long_next (qs := qs) (j := k - 1) (by omega) (by rw [show k - 1 + 1 = k by omega]; exact hU) hs4
    refine WC.reg1z (z := 6) rfl ?_
    refine WO.U (oMv rfl) rfl ?_
    refine WO.U (oMv rfl) rfl ?_
    refine WO.U (oMv rfl) rfl ?_
    refine WO.U (OP.castI (b := ((q1 - 1 : Nat) : Int)) (oCnv rfl rfl rfl) (by rw [IntKind.wrap_u32]; omega)) rfl ?_
    refine WO.U (oIxR (j := k - 1) rfl rfl rfl rfl (by omega) (by omega) rfl) rfl ?_
    refine WO.S0 (oStO (f := d32) (us := qs) (q1 - 1) rfl rfl rfl (g1 (by decide) (g1 (by decide) g0)) (fun _ => rfl) rfl rfl (by omega) rfl) ?_
    refine WO.nil ?_
    refine after_normal ?_
    refine WC.weak [(6, _), (7, _), (8, _), (9, _), (10, _), (11, _)] ⟨rfl, rfl, rfl, rfl, rfl, rfl, trivial⟩ ?_
    refine WC.reg1z (z := 3) rfl ?_
    refine WO.U (oMv rfl) rfl ?_
    refine WO.U (OP.castI (b := ((k - 1 : Nat) : Int) - 1) (oSub64 rfl rfl (by omega)) (by omega)) rfl ?_
    refine WO.U (oAs rfl) rfl ?_
    refine WO.nil ?_
    refine loopR_normal ?_
    refine ⟨⟨k - 1, (us3.set (k - 1 + vs.length) ((us3.getD (k - 1 + vs.length) default + c2) % 4294967296)), qs.set (k - 1) (q1 - 1)⟩, ⟨rfl, congrArg some (by rw [List.length_set]), rfl, rfl, congrArg some (by rw [List.length_set]), rfl, trivial⟩, ⟨g1 (by decide) g0, g0, trivial⟩, ⟨by rw [hlF]; omega, by rw [hlF]; exact hul, by rw [List.length_set]; exact hql0, hdF, hqd.set _ (by omega), hUF, hltF, by omega⟩, by show k - 1 < k; omega⟩
  refine WD.U (oMv rfl) rfl ?_
  refine WD.Ug rfl (oMv rfl) rfl ?_
  refine WD.Ug rfl (oMv rfl) rfl ?_
  refine WD.Ug rfl (oMv rfl) rfl ?_
  refine WD.Ug rfl (oSub64 rfl rfl (by omega)) rfl ?_
  refine WD.Ug rfl (oIxM (j := vs.length - 2) rfl rfl rfl rfl (by omega) (by omega) rfl) rfl ?_
  refine WD.Ug rfl (oLd rfl rfl rfl) rfl ?_
  refine WD.Ug rfl (OP.castI (b := (v2 : Int)) (oCnv rfl rfl rfl) (by rw [IntKind.wrap_u64]; omega)) rfl ?_
  refine WD.Ug rfl (OP.castI (b := ((qh * v2 : Nat) : Int)) (oMulU rfl rfl) (by rw [← Int.natCast_mul]; have := mul_dig (a := qh) (b := v2) (by omega) (by omega); omega)) rfl ?_
  refine WD.Ug rfl (oMv rfl) rfl ?_
  refine WD.Ug rfl (OP.castI (b := ((rh * 4294967296 : Nat) : Int)) (oShlU (s := 32) rfl rfl (by omega)) (by omega)) rfl ?_
  refine WD.Ug rfl (oMv rfl) rfl ?_
  refine WD.Ug rfl (oMv rfl) rfl ?_
  refine WD.Ug rfl (oMv rfl) rfl ?_
  refine WD.Ug rfl (OP.castI (b := ((k - 1 + vs.length : Nat) : Int)) (oAdd64 rfl rfl (by omega)) (by omega)) rfl ?_
  refine WD.Ug rfl (oSub64 rfl rfl (by omega)) rfl ?_
  refine WD.Ug rfl (oIxR (j := k - 1 + vs.length - 2) rfl rfl rfl rfl (by omega) (by omega) rfl) rfl ?_
  refine WD.Ug rfl (oLdO (f := d32) (us := us) (j := k - 1 + vs.length - 2) rfl rfl g0 (fun _ => rfl) rfl (by decide) (by omega) rfl) rfl ?_
  refine WD.Ug rfl (OP.castI (b := (u2 : Int)) (oCnv rfl rfl rfl) (by rw [IntKind.wrap_u64]; omega)) rfl ?_
  refine WD.Ug rfl (oBin (v := .int .u64 ((rh * 4294967296 + u2 : Nat) : Int)) rfl rfl (or_hi (by omega) (by omega))) rfl ?_
  refine WD.Ug rfl (oGtr rfl rfl) rfl ?_
  refine WD.D (fun h112 => ?_) (fun h112 => ?_)
  rotate_left
  · refine WD.U (oPkF rfl rfl) rfl ?_
    refine WD.nil (drawOk_of (by kernel_rfl)) rfl ?_
    refine WC.weak [(6, _), (7, _), (8, _), (9, _), (10, _), (11, _), (13, _), (14, _), (93, _), (94, _), (95, _), (96, _), (97, _), (98, _), (99, _), (100, _), (101, _), (102, _), (103, _), (104, _), (105, _), (106, _), (107, _), (108, _), (109, _), (110, _), (111, _), (112, _), (113, _)] ⟨rfl, rfl, rfl, rfl, rfl, rfl, rfl, rfl, rfl, rfl, rfl, rfl, rfl, rfl, rfl, rfl, rfl, rfl, rfl, rfl, rfl, rfl, rfl, rfl, rfl, rfl, rfl, rfl, rfl, trivial⟩ ?_
    refine WC.cF rfl ?_
    refine WC.exits ?_
    refine loopR_exit ?_
    refine after_exit rfl ?_
    refine WC.weak [(6, _), (7, _), (8, _), (9, _), (10, _), (11, _), (13, _), (93, _), (94, _), (95, _), (96, _), (97, _), (98, _), (99, _), (100, _), (101, _), (102, _), (103, _), (104, _), (105, _), (106, _), (107, _), (108, _), (109, _), (110, _), (111, _), (112, _)] ⟨rfl, rfl, rfl, rfl, rfl, rfl, rfl, rfl, rfl, rfl, rfl, rfl, rfl, rfl, rfl, rfl, rfl, rfl, rfl, rfl, rfl, rfl, rfl, rfl, rfl, rfl, rfl, trivial⟩ ?_
    have hqo := lq_ok LQh hG1 (show qh < 4294967296 by omega) (by omega)
    have hql : qh < 4294967296 := by omega
    obtain ⟨q1, hq1⟩ : ∃ q1, q1 = qh := ⟨_, rfl⟩
    rw [← hq1] at hqo hql hG2 ⊢
    refine WC.reg (z := 2) rfl ?_
    refine WO.U (oAs rfl) rfl ?_
    refine WO.U (oAs rfl) rfl ?_
    refine WO.nil ?_
    refine WC.weak [(6, _), (7, _), (8, _), (9, _), (10, _), (11, _), (13, _), (15, _), (16, _), (93, _), (94, _), (95, _), (96, _), (97, _), (98, _), (99, _), (100, _), (101, _), (102, _), (103, _), (104, _), (105, _), (106, _), (107, _), (108, _), (109, _), (110, _), (111, _), (112, _)] ⟨rfl, rfl, rfl, rfl, rfl, rfl, rfl, rfl, rfl, rfl, rfl, rfl, rfl, rfl, rfl, rfl, rfl, rfl, rfl, rfl, rfl, rfl, rfl, rfl, rfl, rfl, rfl, rfl, rfl, trivial⟩ ?_
    refine WC.assoc ?_
    refine WC.reg (z := 3) rfl ?_
    refine WO.U (oMv rfl) rfl ?_
    refine WO.U (oLenM rfl rfl) rfl ?_
    refine WO.U (oMv rfl) rfl ?_
    refine WO.nil ?_
    refine WC.weak [(6, _), (7, _), (8, _), (9, _), (10, _), (11, _), (13, _), (15, _), (16, _), (93, _), (94, _), (95, _), (96, _), (97, _), (98, _), (99, _), (100, _), (101, _), (102, _), (103, _), (104, _), (105, _), (106, _), (107, _), (108, _), (109, _), (110, _), (111, _), (112, _), (126, _), (127, _), (128, _)] ⟨rfl, rfl, rfl, rfl, rfl, rfl, rfl, rfl, rfl, rfl, rfl, rfl, rfl, rfl, rfl, rfl, rfl, rfl, rfl, rfl, rfl, rfl, rfl, rfl, rfl, rfl, rfl, rfl, rfl, rfl, rfl, rfl, trivial⟩ ?_
    refine WC.block ?_
    refine WC.loopV (α := Nat × Nat × Nat × (List Nat)) (fun ⟨i, c, b, us1⟩ => [(6, .v (.int .i64 (sh : Int))), (7, .ref (0 + 2 + 8 + 2) 1 0 us1.length), (8, .sl 1 (vs.map d32)), (9, .v (.int .i64 (vs.length : Int))), (10, .ref (0 + 2 + 8 + 9 + 3 + 4) 1 0 qs.length), (11, .v (.int .i64 ((k : Int) - 1))), (13, .v (.int .u64 (q1 : Int))), (15, .v (.int .u64 (b : Int))), (16, .v (.int .u64 (c : Int))), (126, .sl 1 (vs.map d32)), (127, .v (.int .i64 (vs.length : Int))), (128, .v (.int .i64 (i : Int)))]) (fun ⟨i, c, b, us1⟩ => [((0 + 2 + 8 + 2), { cells := (us1.map d32).flatten, sz := 1, elem := 125, st := 0 }), ((0 + 2 + 8 + 9 + 3 + 4), { cells := (qs.map d32).flatten, sz := 1, elem := 125, st := 0 })]) (fun ⟨i, c, b, us1⟩ n => i ≤ vs.length ∧ us1.length = us.length ∧ Dg 4294967296 us1 ∧ c < 4294967296 ∧ b ≤ 1 ∧ val 4294967296 us1 + 4294967296 ^ (k - 1) * (q1 * val 4294967296 (vs.take i)) = val 4294967296 us + 4294967296 ^ (k - 1 + i) * (c + b) ∧ us1.take (k - 1) = us.take (k - 1) ∧ us1.drop (k - 1 + i) = us.drop (k - 1 + i) ∧ 30 ≤ n) (fun ⟨i, c, b, us1⟩ => vs.length - i) (0, 0, 0, us) ⟨rfl, rfl, rfl, rfl, rfl, rfl, rfl, rfl, rfl, rfl, rfl, rfl, trivial⟩ ⟨g0, g1 (by decide) g0, trivial⟩ ⟨Nat.zero_le _, rfl, hud, by decide, by decide, by simp [val], rfl, rfl, by omega⟩ ?_
    rintro ⟨i, c, b, us1⟩ n hL
    change WC _ _ _ _ _ [(6, .v (.int .i64 (sh : Int))), (7, .ref (0 + 2 + 8 + 2) 1 0 us1.length), (8, .sl 1 (vs.map d32)), (9, .v (.int .i64 (vs.length : Int))), (10, .ref (0 + 2 + 8 + 9 + 3 + 4) 1 0 qs.length), (11, .v (.int .i64 ((k : Int) - 1))), (13, .v (.int .u64 (q1 : Int))), (15, .v (.int .u64 (b : Int))), (16, .v (.int .u64 (c : Int))), (126, .sl 1 (vs.map d32)), (127, .v (.int .i64 (vs.length : Int))), (128, .v (.int .i64 (i : Int)))] ([((0 + 2 + 8 + 2), { cells := (us1.map d32).flatten, sz := 1, elem := 125, st := 0 }), ((0 + 2 + 8 + 9 + 3 + 4), { cells := (qs.map d32).flatten, sz := 1, elem := 125, st := 0 })]) n _
    obtain ⟨hi, hl1, hd1, hc1, hb1, he1, ht1, hp1, hn32⟩ := hL
    refine WC.reg (z := 1) rfl ?_
    refine WO.U (oLss rfl rfl) rfl ?_
    refine WO.D (fun h129 => ?_) (fun h129 => ?_)
    · refine WO.nil ?_
      refine WC.weak [(6, _), (7, _), (8, _), (9, _), (10, _), (11, _), (13, _), (15, _), (16, _), (126, _), (127, _), (128, _), (129, _)] ⟨rfl, rfl, rfl, rfl, rfl, rfl, rfl, rfl, rfl, rfl, rfl, rfl, rfl, trivial⟩ ?_
      refine WC.cT rfl ?_
      refine WC.skips ?_
      refine WC.block ?_
      have hvi : vs.getD i default < 4294967296 := getD_lt hvd (by omega)
      have hui : us1.getD (k - 1 + i) default < 4294967296 := getD_lt hd1 (by omega)
      have hqv := mul_dig hql hvi
      obtain ⟨p, hpe⟩ : ∃ p, p = q1 * vs.getD i default + c := ⟨_, rfl⟩
      obtain ⟨u, hue⟩ : ∃ u, u = us1.getD (k - 1 + i) default := ⟨_, rfl⟩
      have hpb : p < 18446744073709551616 := by omega
      obtain ⟨d, hde⟩ : ∃ d, d = (u + 4294967296 - p % 4294967296 - b) % 4294967296 := ⟨_, rfl⟩
      refine WC.reg (z := 5) rfl ?_
      refine WO.U (oMv rfl) rfl ?_
      refine WO.U (oIxM rfl rfl rfl rfl rfl (by omega) rfl) rfl ?_
      refine WO.U (oLd rfl rfl rfl) rfl ?_
      refine WO.U (oAs rfl) rfl ?_
      refine WO.U (oAs rfl) rfl ?_
      refine WO.nil ?_
      refine WC.weak [(6, _), (7, _), (8, _), (9, _), (10, _), (11, _), (13, _), (15, _), (16, _), (17, _), (18, _), (126, _), (127, _), (128, _)] ⟨rfl, rfl, rfl, rfl, rfl, rfl, rfl, rfl, rfl, rfl, rfl, rfl, rfl, rfl, trivial⟩ ?_
      refine WC.reg (z := 7) rfl ?_
      refine WO.U (oMv rfl) rfl ?_
      refine WO.U (oMv rfl) rfl ?_
      refine WO.U (OP.castI (b := (vs.getD i default : Int)) (oCnv rfl rfl rfl) (by rw [IntKind.wrap_u64]; omega)) rfl ?_
      refine WO.U (OP.castI (b := ((q1 * vs.getD i default : Nat) : Int)) (oMulU rfl rfl) (by rw [← Int.natCast_mul]; omega)) rfl ?_
      refine WO.U (oMv rfl) rfl ?_
      refine WO.U (OP.castI (b := (p : Int)) (oAddU rfl rfl) (by omega)) rfl ?_
      refine WO.U (oAs rfl) rfl ?_
      refine WO.nil ?_
      refine WC.weak [(6, _), (7, _), (8, _), (9, _), (10, _), (11, _), (13, _), (15, _), (17, _), (19, _), (126, _), (127, _), (128, _)] ⟨rfl, rfl, rfl, rfl, rfl, rfl, rfl, rfl, rfl, rfl, rfl, rfl, rfl, trivial⟩ ?_
      refine WC.reg (z := 3) rfl ?_
      refine WO.U (oMv rfl) rfl ?_
      refine WO.U (OP.castI (b := ((p / 4294967296 : Nat) : Int)) (oShrU (s := 32) rfl rfl (by omega)) (by omega)) rfl ?_
      refine WO.U (oAs rfl) rfl ?_
      refine WO.nil ?_
      refine WC.weak [(6, _), (7, _), (8, _), (9, _), (10, _), (11, _), (13, _), (15, _), (16, _), (17, _), (19, _), (126, _), (127, _), (128, _)] ⟨rfl, rfl, rfl, rfl, rfl, rfl, rfl, rfl, rfl, rfl, rfl, rfl, rfl, rfl, trivial⟩ ?_
      refine WC.reg (z := 14) rfl ?_
      refine WO.U (oMv rfl) rfl ?_
      refine WO.U (oMv rfl) rfl ?_
      refine WO.U (oMv rfl) rfl ?_
      refine WO.U (OP.castI (b := ((k - 1 + i : Nat) : Int)) (oAdd64 rfl rfl (by omega)) (by omega)) rfl ?_
      refine WO.U (oIxR (j := k - 1 + i) rfl rfl rfl rfl (by omega) (by omega) rfl) rfl ?_
      refine WO.U (oLdO (f := d32) (us := us1) (j := k - 1 + i) rfl rfl g0 (fun _ => rfl) rfl (by decide) (by omega) rfl) rfl ?_
      refine WO.U (OP.castI (b := (u : Int)) (oCnv rfl rfl rfl) (by rw [IntKind.wrap_u64]; omega)) rfl ?_
      refine WO.U (oMv rfl) rfl ?_
      refine WO.U (OP.castI (b := ((p % 4294967296 : Nat) : Int)) (oCnv rfl rfl rfl) (by rw [IntKind.wrap_u32]; omega)) rfl ?_
      refine WO.U (OP.castI (b := ((p % 4294967296 : Nat) : Int)) (oCnv rfl rfl rfl) (by rw [IntKind.wrap_u64]; omega)) rfl ?_
      refine WO.U (oSubU rfl rfl) rfl ?_
      refine WO.U (oMv rfl) rfl ?_
      refine WO.U (OP.castI (b := ((((u + 18446744073709551616 - p % 4294967296 - b) % 18446744073709551616) : Nat) : Int)) (oSubU rfl rfl) (by omega)) rfl ?_
      refine WO.U (oAs rfl) rfl ?_
      refine WO.nil ?_
      refine WC.weak [(6, _), (7, _), (8, _), (9, _), (10, _), (11, _), (13, _), (16, _), (17, _), (20, _), (126, _), (127, _), (128, _)] ⟨rfl, rfl, rfl, rfl, rfl, rfl, rfl, rfl, rfl, rfl, rfl, rfl, rfl, trivial⟩ ?_
      refine WC.reg (z := 8) rfl ?_
      refine WO.U (oMv rfl) rfl ?_
      refine WO.U (oMv rfl) rfl ?_
      refine WO.U (oMv rfl) rfl ?_
      refine WO.U (OP.castI (b := ((k - 1 + i : Nat) : Int)) (oAdd64 rfl rfl (by omega)) (by omega)) rfl ?_
      refine WO.U (oMv rfl) rfl ?_
      refine WO.U (OP.castI (b := (d : Int)) (oCnv rfl rfl rfl) (by rw [IntKind.wrap_u32]; omega)) rfl ?_
      refine WO.U (oIxR (j := k - 1 + i) rfl rfl rfl rfl (by omega) (by omega) rfl) rfl ?_
      refine WO.S0 (oStO (f := d32) (us := us1) d rfl rfl rfl g0 (fun _ => rfl) rfl rfl (by omega) rfl) ?_
      refine WO.nil ?_
      refine WC.weak [(6, _), (7, _), (8, _), (9, _), (10, _), (11, _), (13, _), (16, _), (20, _), (126, _), (127, _), (128, _)] ⟨rfl, rfl, rfl, rfl, rfl, rfl, rfl, rfl, rfl, rfl, rfl, rfl, trivial⟩ ?_
      refine WC.reg1z (z := 3) rfl ?_
      refine WO.U (oMv rfl) rfl ?_
      refine WO.U (OP.castI (b := ((if u < p % 4294967296 + b then 1 else 0 : Nat) : Int)) (oShrU (s := 63) rfl rfl (by omega)) (by split <;> omega)) rfl ?_
      refine WO.U (oAs rfl) rfl ?_
      refine WO.nil ?_
      refine after_normal ?_
      refine WC.weak [(6, _), (7, _), (8, _), (9, _), (10, _), (11, _), (13, _), (15, _), (16, _), (126, _), (127, _), (128, _)] ⟨rfl, rfl, rfl, rfl, rfl, rfl, rfl, rfl, rfl, rfl, rfl, rfl, trivial⟩ ?_
      refine WC.reg1z (z := 2) rfl ?_
      refine WO.U (OP.castI (b := ((i + 1 : Nat) : Int)) (oAdd64 rfl rfl (by omega)) (by omega)) rfl ?_
      refine WO.U (oMv rfl) rfl ?_
      refine WO.nil ?_
      refine loopR_normal ?_
      refine ⟨⟨i + 1, p / 4294967296, if u < p % 4294967296 + b then 1 else 0, us1.set (k - 1 + i) d⟩, ⟨rfl, congrArg some (by rw [List.length_set]), rfl, rfl, rfl, rfl, rfl, rfl, rfl, rfl, rfl, rfl, trivial⟩, ⟨g0, g1 (by decide) (g1 (by decide) g0), trivial⟩, ⟨by omega, by rw [List.length_set]; exact hl1, hd1.set _ (by omega), by omega, by split <;> omega, ?_, by rw [take_set_le (by omega)]; exact ht1, by rw [drop_set_lt (by omega)]; exact drop_more hp1 (by omega), by omega⟩, by show vs.length - (i + 1) < vs.length - i; omega⟩
      rw [hpe]
      exact submul_step he1 (by omega) (by rw [← hpe, ← hue, hde]; split <;> omega)
    refine WO.nil ?_
    refine WC.weak [(6, _), (7, _), (8, _), (9, _), (10, _), (11, _), (13, _), (15, _), (16, _), (126, _), (127, _), (128, _), (129, _)] ⟨rfl, rfl, rfl, rfl, rfl, rfl, rfl, rfl, rfl, rfl, rfl, rfl, rfl, trivial⟩ ?_
    refine WC.cF rfl ?_
    refine WC.exits ?_
    refine loopR_exit ?_
    refine after_exit rfl ?_
    refine WC.weak [(6, _), (7, _), (8, _), (9, _), (10, _), (11, _), (13, _), (15, _), (16, _)] ⟨rfl, rfl, rfl, rfl, rfl, rfl, rfl, rfl, rfl, trivial⟩ ?_
    have hi' : i = vs.length := by omega
    subst hi'
    rw [List.take_of_length_le (Nat.le_refl _)] at he1
    obtain ⟨u, hue⟩ : ∃ u, u = us1.getD (k - 1 + vs.length) default := ⟨_, rfl⟩
    have hul1 : u < 4294967296 := by rw [hue]; exact getD_lt hd1 (by omega)
    obtain ⟨d, hde⟩ : ∃ d, d = (u + 4294967296 - c - b) % 4294967296 := ⟨_, rfl⟩
    have hd4 : d < 4294967296 := by omega
    refine WC.reg (z := 12) rfl ?_
    refine WO.U (oMv rfl) rfl ?_
    refine WO.U (oMv rfl) rfl ?_
    refine WO.U (oMv rfl) rfl ?_
    refine WO.U (OP.castI (b := ((k - 1 + vs.length : Nat) : Int)) (oAdd64 rfl rfl (by omega)) (by omega)) rfl ?_
    refine WO.U (oIxR (j := k - 1 + vs.length) rfl rfl rfl rfl (by omega) (by omega) rfl) rfl ?_
    refine WO.U (oLdO (f := d32) (us := us1) (j := k - 1 + vs.length) rfl rfl g0 (fun _ => rfl) rfl (by decide) (by omega) rfl) rfl ?_
    refine WO.U (OP.castI (b := (u : Int)) (oCnv rfl rfl rfl) (by rw [IntKind.wrap_u64]; omega)) rfl ?_
    refine WO.U (oMv rfl) rfl ?_
    refine WO.U (oSubU rfl rfl) rfl ?_
    refine WO.U (oMv rfl) rfl ?_
    refine WO.U (OP.castI (b := ((((u + 18446744073709551616 - c - b) % 18446744073709551616) : Nat) : Int)) (oSubU rfl rfl) (by omega)) rfl ?_
    refine WO.U (oAs rfl) rfl ?_
    refine WO.nil ?_
    refine WC.weak [(6, _), (7, _), (8, _), (9, _), (10, _), (11, _), (13, _), (21, _)] ⟨rfl, rfl, rfl, rfl, rfl, rfl, rfl, rfl, trivial⟩ ?_
    refine WC.reg (z := 8) rfl ?_
    refine WO.U (oMv rfl) rfl ?_
    refine WO.U (oMv rfl) rfl ?_
    refine WO.U (oMv rfl) rfl ?_
    refine WO.U (OP.castI (b := ((k - 1 + vs.length : Nat) : Int)) (oAdd64 rfl rfl (by omega)) (by omega)) rfl ?_
    refine WO.U (oMv rfl) rfl ?_
    refine WO.U (OP.castI (b := (d : Int)) (oCnv rfl rfl rfl) (by rw [IntKind.wrap_u32]; omega)) rfl ?_
    refine WO.U (oIxR (j := k - 1 + vs.length) rfl rfl rfl rfl (by omega) (by omega) rfl) rfl ?_
    refine WO.S0 (oStO (f := d32) (us := us1) d rfl rfl rfl g0 (fun _ => rfl) rfl rfl (by omega) rfl) ?_
    refine WO.nil ?_
    refine WC.weak [(6, _), (7, _), (8, _), (9, _), (10, _), (11, _), (13, _), (21, _)] ⟨rfl, rfl, rfl, rfl, rfl, rfl, rfl, rfl, trivial⟩ ?_
    refine WC.assoc ?_
    refine WC.reg (z := 3) rfl ?_
    refine WO.U (oMv rfl) rfl ?_
    refine WO.U (OP.castI (b := ((if u < c + b then 1 else 0 : Nat) : Int)) (oShrU (s := 63) rfl rfl (by omega)) (by split <;> omega)) rfl ?_
    refine WO.U (oEql rfl rfl) rfl ?_
    refine WO.D (fun h184 => ?_) (fun h184 => ?_)
    rotate_left
    · have hneg : c + b ≤ u := by
        rcases Nat.lt_or_ge u (c + b) with h | h
        · rw [if_pos h] at h184; simp at h184
        · exact h
      have hs2 := sub_last (o := 0) (d := d) he1 (by omega) (by rw [← hue]; omega)
      rw [Nat.mul_zero, Nat.add_zero] at hs2
      refine WO.nil ?_
      refine WC.weak [(6, _), (7, _), (8, _), (9, _), (10, _), (11, _), (13, _), (184, _)] ⟨rfl, rfl, rfl, rfl, rfl, rfl, rfl, rfl, trivial⟩ ?_
      refine WC.cF rfl ?_
      refine WC.skips ?_
      have hlF : (us1.set (k - 1 + vs.length) d).length = us.length := by rw [List.length_set]; exact hl1
      have hdF : Dg 4294967296 (us1.set (k - 1 + vs.length) d) := hd1.set _ hd4
      have hltF := long_end0 (by decide) hV0 (by omega) (by omega) (by rw [take_set_le (by omega)]; exact ht1) hs2 hG2
      have hUF := long_next (qs := qs) (j := k - 1) (by omega) (by rw [show k - 1 + 1 = k by omega]; exact hU) hs2
      refine WC.reg1z (z := 6) rfl ?_
      refine WO.U (oMv rfl) rfl ?_
      refine WO.U (oMv rfl) rfl ?_
      refine WO.U (oMv rfl) rfl ?_
      refine WO.U (OP.castI (b := (q1 : Int)) (oCnv rfl rfl rfl) (by rw [IntKind.wrap_u32]; omega)) rfl ?_
      refine WO.U (oIxR (j := k - 1) rfl rfl rfl rfl (by omega) (by omega) rfl) rfl ?_
      refine WO.S0 (oStO (f := d32) (us := qs) q1 rfl rfl rfl (g1 (by decide) (g1 (by decide) g0)) (fun _ => rfl) rfl rfl (by omega) rfl) ?_
      refine WO.nil ?_
      refine after_normal ?_
      refine WC.weak [(6, _), (7, _), (8, _), (9, _), (10, _), (11, _)] ⟨rfl, rfl, rfl, rfl, rfl, rfl, trivial⟩ ?_
      refine WC.reg1z (z := 3) rfl ?_
      refine WO.U (oMv rfl) rfl ?_
      refine WO.U (OP.castI (b := ((k - 1 : Nat) : Int) - 1) (oSub64 rfl rfl (by omega)) (by omega)) rfl ?_
      refine WO.U (oAs rfl) rfl ?_
      refine WO.nil ?_
      refine loopR_normal ?_
      refine ⟨⟨k - 1, (us1.set (k - 1 + vs.length) d), qs.set (k - 1) q1⟩, ⟨rfl, congrArg some (by rw [List.length_set]), rfl, rfl, congrArg some (by rw [List.length_set]), rfl, trivial⟩, ⟨g1 (by decide) g0, g0, trivial⟩, ⟨by rw [hlF]; omega, by rw [hlF]; exact hul, by rw [List.length_set]; exact hql0, hdF, hqd.set _ (by omega), hUF, hltF, by omega⟩, by show k - 1 < k; omega⟩
    have hneg : u < c + b := by
      rcases Nat.lt_or_ge u (c + b) with h | h
      · exact h
      · rw [if_neg (by omega)] at h184; simp at h184
    have hs2 := sub_last (o := 1) (d := d) he1 (by omega) (by rw [← hue]; omega)
    have hlT : (us1.set (k - 1 + vs.length) d).length = us.length := by rw [List.length_set]; exact hl1
    have hdT : Dg 4294967296 (us1.set (k - 1 + vs.length) d) := hd1.set _ hd4
    have htT : (us1.set (k - 1 + vs.length) d).take (k - 1) = us.take (k - 1) := by rw [take_set_le (by omega)]; exact ht1
    have hpT : (us1.set (k - 1 + vs.length) d).drop (k - 1 + vs.length + 1) = us.drop (k - 1 + vs.length + 1) := by rw [drop_set_lt (by omega)]; exact drop_more hp1 (by omega)
    obtain ⟨hgt, hq1p⟩ := neg_gt (by decide) hdT (by omega) hlT hRB hpT htT hs2
    refine WO.nil ?_
    refine WC.weak [(6, _), (7, _), (8, _), (9, _), (10, _), (11, _), (13, _), (184, _)] ⟨rfl, rfl, rfl, rfl, rfl, rfl, rfl, rfl, trivial⟩ ?_
    refine WC.cT rfl ?_
    refine WC.assoc ?_
    refine WC.reg (z := 3) rfl ?_
    refine WO.U (oMv rfl) rfl ?_
    refine WO.U (OP.castI (b := ((q1 - 1 : Nat) : Int)) (oSubU rfl rfl) (by omega)) rfl ?_
    refine WO.U (oAs rfl) rfl ?_
    refine WO.nil ?_
    refine WC.weak [(6, _), (7, _), (8, _), (9, _), (10, _), (11, _), (13, _)] ⟨rfl, rfl, rfl, rfl, rfl, rfl, rfl, trivial⟩ ?_
    refine WC.assoc ?_
    refine WC.reg (z := 1) rfl ?_
    refine WO.U (oAs rfl) rfl ?_
    refine WO.nil ?_
    refine WC.weak [(6, _), (7, _), (8, _), (9, _), (10, _), (11, _), (13, _), (22, _)] ⟨rfl, rfl, rfl, rfl, rfl, rfl, rfl, rfl, trivial⟩ ?_
    refine WC.assoc ?_
    refine WC.assoc ?_
    refine WC.reg (z := 3) rfl ?_
    refine WO.U (oMv rfl) rfl ?_
    refine WO.U (oLenM rfl rfl) rfl ?_
    refine WO.U (oMv rfl) rfl ?_
    refine WO.nil ?_
    refine WC.weak [(6, _), (7, _), (8, _), (9, _), (10, _), (11, _), (13, _), (22, _), (187, _), (188, _), (189, _)] ⟨rfl, rfl, rfl, rfl, rfl, rfl, rfl, rfl, rfl, rfl, rfl, trivial⟩ ?_
    refine WC.block ?_
    refine WC.loopV (α := Nat × Nat × (List Nat)) (fun ⟨i2, c2, us3⟩ => [(6, .v (.int .i64 (sh : Int))), (7, .ref (0 + 2 + 8 + 2) 1 0 us3.length), (8, .sl 1 (vs.map d32)), (9, .v (.int .i64 (vs.length : Int))), (10, .ref (0 + 2 + 8 + 9 + 3 + 4) 1 0 qs.length), (11, .v (.int .i64 ((k : Int) - 1))), (13, .v (.int .u64 ((q1 - 1 : Nat) : Int))), (22, .v (.int .u32 (c2 : Int))), (187, .sl 1 (vs.map d32)), (188, .v (.int .i64 (vs.length : Int))), (189, .v (.int .i64 (i2 : Int)))]) (fun ⟨i2, c2, us3⟩ => [((0 + 2 + 8 + 2), { cells := (us3.map d32).flatten, sz := 1, elem := 125, st := 0 }), ((0 + 2 + 8 + 9 + 3 + 4), { cells := (qs.map d32).flatten, sz := 1, elem := 125, st := 0 })]) (fun ⟨i2, c2, us3⟩ n => i2 ≤ vs.length ∧ us3.length = us.length ∧ Dg 4294967296 us3 ∧ c2 ≤ 1 ∧ val 4294967296 us3 + 4294967296 ^ (k - 1 + i2) * c2 = val 4294967296 (us1.set (k - 1 + vs.length) d) + 4294967296 ^ (k - 1) * val 4294967296 (vs.take i2) ∧ us3.take (k - 1) = us.take (k - 1) ∧ us3.drop (k - 1 + vs.length) = (us1.set (k - 1 + vs.length) d).drop (k - 1 + vs.length) ∧ 30 ≤ n) (fun ⟨i2, c2, us3⟩ => vs.length - i2) (0, 0, (us1.set (k - 1 + vs.length) d)) ⟨rfl, congrArg some (by rw [List.length_set]), rfl, rfl, rfl, rfl, rfl, rfl, rfl, rfl, rfl, trivial⟩ ⟨g0, g1 (by decide) (g1 (by decide) g0), trivial⟩ ⟨Nat.zero_le _, hlT, hdT, by decide, by simp [val], htT, rfl, by omega⟩ ?_
    rintro ⟨i2, c2, us3⟩ n hM
    change WC _ _ _ _ _ [(6, .v (.int .i64 (sh : Int))), (7, .ref (0 + 2 + 8 + 2) 1 0 us3.length), (8, .sl 1 (vs.map d32)), (9, .v (.int .i64 (vs.length : Int))), (10, .ref (0 + 2 + 8 + 9 + 3 + 4) 1 0 qs.length), (11, .v (.int .i64 ((k : Int) - 1))), (13, .v (.int .u64 ((q1 - 1 : Nat) : Int))), (22, .v (.int .u32 (c2 : Int))), (187, .sl 1 (vs.map d32)), (188, .v (.int .i64 (vs.length : Int))), (189, .v (.int .i64 (i2 : Int)))] ([((0 + 2 + 8 + 2), { cells := (us3.map d32).flatten, sz := 1, elem := 125, st := 0 }), ((0 + 2 + 8 + 9 + 3 + 4), { cells := (qs.map d32).flatten, sz := 1, elem := 125, st := 0 })]) n _
    obtain ⟨hi2, hl3, hd3, hc3, he3, ht3, hp3, hn33⟩ := hM
    refine WC.reg (z := 1) rfl ?_
    refine WO.U (oLss rfl rfl) rfl ?_
    refine WO.D (fun h190 => ?_) (fun h190 => ?_)
    · refine WO.nil ?_
      refine WC.weak [(6, _), (7, _), (8, _), (9, _), (10, _), (11, _), (13, _), (22, _), (187, _), (188, _), (189, _), (190, _)] ⟨rfl, rfl, rfl, rfl, rfl, rfl, rfl, rfl, rfl, rfl, rfl, rfl, trivial⟩ ?_
      refine WC.cT rfl ?_
      refine WC.skips ?_
      refine WC.block ?_
      refine WC.reg (z := 5) rfl ?_
      refine WO.U (oMv rfl) rfl ?_
      refine WO.U (oIxM rfl rfl rfl rfl rfl (by omega) rfl) rfl ?_
      refine WO.U (oLd rfl rfl rfl) rfl ?_
      refine WO.U (oAs rfl) rfl ?_
      refine WO.U (oAs rfl) rfl ?_
      refine WO.nil ?_
      refine WC.weak [(6, _), (7, _), (8, _), (9, _), (10, _), (11, _), (13, _), (22, _), (23, _), (24, _), (187, _), (188, _), (189, _)] ⟨rfl, rfl, rfl, rfl, rfl, rfl, rfl, rfl, rfl, rfl, rfl, rfl, rfl, trivial⟩ ?_
      have hu3 : us3.getD (k - 1 + i2) default < 4294967296 := getD_lt hd3 (by omega)
      have hv3 : vs.getD i2 default < 4294967296 := getD_lt hvd (by omega)
      refine WC.reg1z (z := 19) rfl ?_
      refine WO.U (oMv rfl) rfl ?_
      refine WO.U (oMv rfl) rfl ?_
      refine WO.U (oMv rfl) rfl ?_
      refine WO.U (OP.castI (b := ((k - 1 + i2 : Nat) : Int)) (oAdd64 rfl rfl (by omega)) (by omega)) rfl ?_
      refine WO.U (oMv rfl) rfl ?_
      refine WO.U (oMv rfl) rfl ?_
      refine WO.U (oMv rfl) rfl ?_
      refine WO.U (OP.castI (b := ((k - 1 + i2 : Nat) : Int)) (oAdd64 rfl rfl (by omega)) (by omega)) rfl ?_
      refine WO.U (oIxR (j := k - 1 + i2) rfl rfl rfl rfl (by omega) (by omega) rfl) rfl ?_
      refine WO.U (oLdO (f := d32) (us := us3) (j := k - 1 + i2) rfl rfl g0 (fun _ => rfl) rfl (by decide) (by omega) rfl) rfl ?_
      refine WO.U (oMv rfl) rfl ?_
      refine WO.U (oMv rfl) rfl ?_
      refine WO.U (oCall rfl (add32_run (us3.getD (k - 1 + i2) default) (vs.getD i2 default) c2 hu3 hv3 hc3) (by simp)) rfl ?_
      refine WO.U (oMv rfl) rfl ?_
      refine WO.U (oEx rfl rfl) rfl ?_
      refine WO.U (oEx rfl rfl) rfl ?_
      refine WO.U (oIxR (j := k - 1 + i2) rfl rfl rfl rfl (by omega) (by omega) rfl) rfl ?_
      refine WO.S0 (oStO (f := d32) (us := us3) ((us3.getD (k - 1 + i2) default + vs.getD i2 default + c2) % 4294967296) rfl rfl rfl g0 (fun _ => rfl) rfl rfl (by omega) rfl) ?_
      refine WO.U (oAs rfl) rfl ?_
      refine WO.nil ?_
      refine after_normal ?_
      refine WC.weak [(6, _), (7, _), (8, _), (9, _), (10, _), (11, _), (13, _), (22, _), (187, _), (188, _), (189, _)] ⟨rfl, rfl, rfl, rfl, rfl, rfl, rfl, rfl, rfl, rfl, rfl, trivial⟩ ?_
      refine WC.reg1z (z := 2) rfl ?_
      refine WO.U (OP.castI (b := ((i2 + 1 : Nat) : Int)) (oAdd64 rfl rfl (by omega)) (by omega)) rfl ?_
      refine WO.U (oMv rfl) rfl ?_
      refine WO.nil ?_
      refine loopR_normal ?_
      refine ⟨⟨i2 + 1, _, us3.set (k - 1 + i2) ((us3.getD (k - 1 + i2) default + vs.getD i2 default + c2) % 4294967296)⟩, ⟨rfl, congrArg some (by rw [List.length_set]), rfl, rfl, rfl, rfl, rfl, rfl, rfl, rfl, rfl, trivial⟩, ⟨g0, g1 (by decide) (g1 (by decide) g0), trivial⟩, ⟨by omega, by rw [List.length_set]; exact hl3, hd3.set _ (by omega), by omega, addback_step he3 (by omega), by rw [take_set_le (by omega)]; exact ht3, by rw [drop_set_lt (by omega)]; exact hp3, by omega⟩, by show vs.length - (i2 + 1) < vs.length - i2; omega⟩
    refine WO.nil ?_
    refine WC.weak [(6, _), (7, _), (8, _), (9, _), (10, _), (11, _), (13, _), (22, _), (187, _), (188, _), (189, _), (190, _)] ⟨rfl, rfl, rfl, rfl, rfl, rfl, rfl, rfl, rfl, rfl, rfl, rfl, trivial⟩ ?_
    refine WC.cF rfl ?_
    refine WC.exits ?_
    refine loopR_exit ?_
    refine after_exit rfl ?_
    refine WC.weak [(6, _), (7, _), (8, _), (9, _), (10, _), (11, _), (13, _), (22, _)] ⟨rfl, rfl, rfl, rfl, rfl, rfl, rfl, rfl, trivial⟩ ?_
    have hi' : i2 = vs.length := by omega
    subst hi'
    rw [List.take_of_length_le (Nat.le_refl _)] at he3
    have hu3 : us3.getD (k - 1 + vs.length) default < 4294967296 := getD_lt hd3 (by omega)
    refine WC.reg (z := 10) rfl ?_
    refine WO.U (oMv rfl) rfl ?_
    refine WO.U (oMv rfl) rfl ?_
    refine WO.U (oMv rfl) rfl ?_
    refine WO.U (OP.castI (b := ((k - 1 + vs.length : Nat) : Int)) (oAdd64 rfl rfl (by omega)) (by omega)) rfl ?_
    refine WO.U (oIxR (j := k - 1 + vs.length) rfl rfl rfl rfl (by omega) (by omega) rfl) rfl ?_
    refine WO.U (oLdO (f := d32) (us := us3) (j := k - 1 + vs.length) rfl rfl g0 (fun _ => rfl) rfl (by decide) (by omega) rfl) rfl ?_
    refine WO.U (oMv rfl) rfl ?_
    refine WO.U (OP.castI (b := (((us3.getD (k - 1 + vs.length) default + c2) % 4294967296 : Nat) : Int)) (oAdd32 rfl rfl) (by omega)) rfl ?_
    refine WO.U (oIxR (j := k - 1 + vs.length) rfl rfl rfl rfl (by omega) (by omega) rfl) rfl ?_
    refine WO.S0 (oStO (f := d32) (us := us3) ((us3.getD (k - 1 + vs.length) default + c2) % 4294967296) rfl rfl rfl g0 (fun _ => rfl) rfl rfl (by omega) rfl) ?_
    refine WO.nil ?_
    refine WC.weak [(6, _), (7, _), (8, _), (9, _), (10, _), (11, _), (13, _)] ⟨rfl, rfl, rfl, rfl, rfl, rfl, rfl, trivial⟩ ?_
    have hlF : (us3.set (k - 1 + vs.length) ((us3.getD (k - 1 + vs.length) default + c2) % 4294967296)).length = us.length := by rw [List.length_set]; exact hl3
    have hdF : Dg 4294967296 (us3.set (k - 1 + vs.length) ((us3.getD (k - 1 + vs.length) default + c2) % 4294967296)) := hd3.set _ (by omega)
    have h4 := addback_last he3 (by omega)
    obtain ⟨hs4, hltF⟩ := back_end (by decide) hV0 hdF (by omega) hlF hRB (by rw [drop_set_lt (by omega)]; exact (drop_more hp3 (by omega)).trans hpT) (by rw [take_set_le (by omega)]; exact ht3) hs2 h4 hG2 hq1p hqo hgt (by omega)
    have hUF := long_next (qs := qs) (j := k - 1) (by omega) (by rw [show k - 1 + 1 = k by omega]; exact hU) hs4
    refine WC.reg1z (z := 6) rfl ?_
    refine WO.U (oMv rfl) rfl ?_
    refine WO.U (oMv rfl) rfl ?_
    refine WO.U (oMv rfl) rfl ?_
    refine WO.U (OP.castI (b := ((q1 - 1 : Nat) : Int)) (oCnv rfl rfl rfl) (by rw [IntKind.wrap_u32]; omega)) rfl ?_
    refine WO.U (oIxR (j := k - 1) rfl rfl rfl rfl (by omega) (by omega) rfl) rfl ?_
    refine WO.S0 (oStO (f := d32) (us := qs) (q1 - 1) rfl rfl rfl (g1 (by decide) (g1 (by decide) g0)) (fun _ => rfl) rfl rfl (by omega) rfl) ?_
    refine WO.nil ?_
    refine after_normal ?_
    refine WC.weak [(6, _), (7, _), (8, _), (9, _), (10, _), (11, _)] ⟨rfl, rfl, rfl, rfl, rfl, rfl, trivial⟩ ?_
    refine WC.reg1z (z := 3) rfl ?_
    refine WO.U (oMv rfl) rfl ?_
    refine WO.U (OP.castI (b := ((k - 1 : Nat) : Int) - 1) (oSub64 rfl rfl (by omega)) (by omega)) rfl ?_
    refine WO.U (oAs rfl) rfl ?_
    refine WO.nil ?_
    refine loopR_normal ?_
    refine ⟨⟨k - 1, (us3.set (k - 1 + vs.length) ((us3.getD (k - 1 + vs.length) default + c2) % 4294967296)), qs.set (k - 1) (q1 - 1)⟩, ⟨rfl, congrArg some (by rw [List.length_set]), rfl, rfl, congrArg some (by rw [List.length_set]), rfl, trivial⟩, ⟨g1 (by decide) g0, g0, trivial⟩, ⟨by rw [hlF]; omega, by rw [hlF]; exact hul, by rw [List.length_set]; exact hql0, hdF, hqd.set _ (by omega), hUF, hltF, by omega⟩, by show k - 1 < k; omega⟩
  refine WD.U (oPkF rfl rfl) rfl ?_
  refine WD.nil (drawOk_of (by kernel_rfl)) rfl ?_
  refine WC.weak [(6, _), (7, _), (8, _), (9, _), (10, _), (11, _), (13, _), (14, _), (93, _), (94, _), (95, _), (96, _), (97, _), (98, _), (99, _), (100, _), (101, _), (102, _), (103, _), (104, _), (105, _), (106, _), (107, _), (108, _), (109, _), (110, _), (111, _), (112, _), (113, _)] ⟨rfl, rfl, rfl, rfl, rfl, rfl, rfl, rfl, rfl, rfl, rfl, rfl, rfl, rfl, rfl, rfl, rfl, rfl, rfl, rfl, rfl, rfl, rfl, rfl, rfl, rfl, rfl, rfl, rfl, trivial⟩ ?_
  refine WC.cT rfl ?_
  refine WC.skips ?_
  refine WC.block1 ?_
  obtain ⟨hdc1, hdc2⟩ := lq_dec LQh hG1 hG2 (by first | exact .inl (by omega) | exact .inr (by omega))
  refine WC.reg (z := 3) rfl ?_
  refine WO.U (oMv rfl) rfl ?_
  refine WO.U (OP.castI (b := ((qh - 1 : Nat) : Int)) (oSubU rfl rfl) (by omega)) rfl ?_
  refine WO.U (oAs rfl) rfl ?_
  refine WO.nil ?_
  refine WC.weak [(6, _), (7, _), (8, _), (9, _), (10, _), (11, _), (13, _), (14, _), (93, _), (94, _), (95, _), (96, _), (97, _), (98, _), (99, _), (100, _), (101, _), (102, _), (103, _), (104, _), (105, _), (106, _), (107, _), (108, _), (109, _), (110, _), (111, _), (112, _)] ⟨rfl, rfl, rfl, rfl, rfl, rfl, rfl, rfl, rfl, rfl, rfl, rfl, rfl, rfl, rfl, rfl, rfl, rfl, rfl, rfl, rfl, rfl, rfl, rfl, rfl, rfl, rfl, rfl, trivial⟩ ?_
  refine WC.reg (z := 9) rfl ?_
  refine WO.U (oMv rfl) rfl ?_
  refine WO.U (oMv rfl) rfl ?_
  refine WO.U (oMv rfl) rfl ?_
  refine WO.U (oSub64 rfl rfl (by omega)) rfl ?_
  refine WO.U (oIxM (j := vs.length - 1) rfl rfl rfl rfl (by omega) (by omega) rfl) rfl ?_
  refine WO.U (oLd rfl rfl rfl) rfl ?_
  refine WO.U (OP.castI (b := (v1 : Int)) (oCnv rfl rfl rfl) (by rw [IntKind.wrap_u64]; omega)) rfl ?_
  refine WO.U (OP.castI (b := ((rh + v1 : Nat) : Int)) (oAddU rfl rfl) (by omega)) rfl ?_
  refine WO.U (oAs rfl) rfl ?_
  refine WO.nil ?_
  refine WC.weak [(6, _), (7, _), (8, _), (9, _), (10, _), (11, _), (13, _), (14, _), (93, _), (94, _), (95, _), (96, _), (97, _), (98, _), (99, _), (100, _), (101, _), (102, _), (103, _), (104, _), (105, _), (106, _), (107, _), (108, _), (109, _), (110, _), (111, _), (112, _)] ⟨rfl, rfl, rfl, rfl, rfl, rfl, rfl, rfl, rfl, rfl, rfl, rfl, rfl, rfl, rfl, rfl, rfl, rfl, rfl, rfl, rfl, rfl, rfl, rfl, rfl, rfl, rfl, rfl, trivial⟩ ?_
  refine WC.reg (z := 2) rfl ?_
  refine WO.U (oMv rfl) rfl ?_
  refine WO.U (oGeq rfl rfl) rfl ?_
  refine WO.D (fun h125 => ?_) (fun h125 => ?_)
  rotate_left
  · refine WO.nil ?_
    refine WC.weak [(6, _), (7, _), (8, _), (9, _), (10, _), (11, _), (13, _), (14, _), (93, _), (94, _), (95, _), (96, _), (97, _), (98, _), (99, _), (100, _), (101, _), (102, _), (103, _), (104, _), (105, _), (106, _), (107, _), (108, _), (109, _), (110, _), (111, _), (112, _), (125, _)] ⟨rfl, rfl, rfl, rfl, rfl, rfl, rfl, rfl, rfl, rfl, rfl, rfl, rfl, rfl, rfl, rfl, rfl, rfl, rfl, rfl, rfl, rfl, rfl, rfl, rfl, rfl, rfl, rfl, rfl, trivial⟩ ?_
    refine WC.cF1 rfl ?_
    refine WC.skip ?_
    refine after0_normal ?_
    refine loopR_normal ?_
    refine ⟨⟨qh - 1, rh + v1⟩, ⟨rfl, rfl, rfl, rfl, rfl, rfl, rfl, rfl, trivial⟩, ⟨g0, g1 (by decide) g0, trivial⟩, ⟨dec_eq hG1 hdc1, hdc2, by omega, by omega, by omega⟩, by show qh - 1 < qh; omega⟩
  refine WO.nil ?_
  refine WC.weak [(6, _), (7, _), (8, _), (9, _), (10, _), (11, _), (13, _), (14, _), (93, _), (94, _), (95, _), (96, _), (97, _), (98, _), (99, _), (100, _), (101, _), (102, _), (103, _), (104, _), (105, _), (106, _), (107, _), (108, _), (109, _), (110, _), (111, _), (112, _), (125, _)] ⟨rfl, rfl, rfl, rfl, rfl, rfl, rfl, rfl, rfl, rfl, rfl, rfl, rfl, rfl, rfl, rfl, rfl, rfl, rfl, rfl, rfl, rfl, rfl, rfl, rfl, rfl, rfl, rfl, rfl, trivial⟩ ?_
  refine WC.cT1 rfl ?_
  refine WC.exit ?_
  refine after0_exitF rfl ?_
  refine loopR_exit ?_
  refine after_exit rfl ?_
  refine WC.weak [(6, _), (7, _), (8, _), (9, _), (10, _), (11, _), (13, _), (93, _), (94, _), (95, _), (96, _), (97, _), (98, _), (99, _), (100, _), (101, _), (102, _), (103, _), (104, _), (105, _), (106, _), (107, _), (108, _), (109, _), (110, _), (111, _), (112, _)] ⟨rfl, rfl, rfl, rfl, rfl, rfl, rfl, rfl, rfl, rfl, rfl, rfl, rfl, rfl, rfl, rfl, rfl, rfl, rfl, rfl, rfl, rfl, rfl, rfl, rfl, rfl, rfl, trivial⟩ ?_
  obtain ⟨hql, hqo⟩ := lq_break LQh hG1 hdc1 hG4 (by omega) hG3
  replace hG2 := hdc2
  obtain ⟨q1, hq1⟩ : ∃ q1, q1 = qh - 1 := ⟨_, rfl⟩
  rw [← hq1] at hqo hql hG2 ⊢
  refine WC.reg (z := 2) rfl ?_
  refine WO.U (oAs rfl) rfl ?_
  refine WO.U (oAs rfl) rfl ?_
  refine WO.nil ?_
  refine WC.weak [(6, _), (7, _), (8, _), (9, _), (10, _), (11, _), (13, _), (15, _), (16, _), (93, _), (94, _), (95, _), (96, _), (97, _), (98, _), (99, _), (100, _), (101, _), (102, _), (103, _), (104, _), (105, _), (106, _), (107, _), (108, _), (109, _), (110, _), (111, _), (112, _)] ⟨rfl, rfl, rfl, rfl, rfl, rfl, rfl, rfl, rfl, rfl, rfl, rfl, rfl, rfl, rfl, rfl, rfl, rfl, rfl, rfl, rfl, rfl, rfl, rfl, rfl, rfl, rfl, rfl, rfl, trivial⟩ ?_
  refine WC.assoc ?_
  refine WC.reg (z := 3) rfl ?_
  refine WO.U (oMv rfl) rfl ?_
  refine WO.U (oLenM rfl rfl) rfl ?_
  refine WO.U (oMv rfl) rfl ?_
  refine WO.nil ?_
  refine WC.weak [(6, _), (7, _), (8, _), (9, _), (10, _), (11, _), (13, _), (15, _), (16, _), (93, _), (94, _), (95, _), (96, _), (97, _), (98, _), (99, _), (100, _), (101, _), (102, _), (103, _), (104, _), (105, _), (106, _), (107, _), (108, _), (109, _), (110, _), (111, _), (112, _), (126, _), (127, _), (128, _)] ⟨rfl, rfl, rfl, rfl, rfl, rfl, rfl, rfl, rfl, rfl, rfl, rfl, rfl, rfl, rfl, rfl, rfl, rfl, rfl, rfl, rfl, rfl, rfl, rfl, rfl, rfl, rfl, rfl, rfl, rfl, rfl, rfl, trivial⟩ ?_
  refine WC.block ?_
  refine WC.loopV (α := Nat × Nat × Nat × (List Nat)) (fun ⟨i, c, b, us1⟩ => [(6, .v (.int .i64 (sh : Int))), (7, .ref (0 + 2 + 8 + 2) 1 0 us1.length), (8, .sl 1 (vs.map d32)), (9, .v (.int .i64 (vs.length : Int))), (10, .ref (0 + 2 + 8 + 9 + 3 + 4) 1 0 qs.length), (11, .v (.int .i64 ((k : Int) - 1))), (13, .v (.int .u64 (q1 : Int))), (15, .v (.int .u64 (b : Int))), (16, .v (.int .u64 (c : Int))), (126, .sl 1 (vs.map d32)), (127, .v (.int .i64 (vs.length : Int))), (128, .v (.int .i64 (i : Int)))]) (fun ⟨i, c, b, us1⟩ => [((0 + 2 + 8 + 2), { cells := (us1.map d32).flatten, sz := 1, elem := 125, st := 0 }), ((0 + 2 + 8 + 9 + 3 + 4), { cells := (qs.map d32).flatten, sz := 1, elem := 125, st := 0 })]) (fun ⟨i, c, b, us1⟩ n => i ≤ vs.length ∧ us1.length = us.length ∧ Dg 4294967296 us1 ∧ c < 4294967296 ∧ b ≤ 1 ∧ val 4294967296 us1 + 4294967296 ^ (k - 1) * (q1 * val 4294967296 (vs.take i)) = val 4294967296 us + 4294967296 ^ (k - 1 + i) * (c + b) ∧ us1.take (k - 1) = us.take (k - 1) ∧ us1.drop (k - 1 + i) = us.drop (k - 1 + i) ∧ 30 ≤ n) (fun ⟨i, c, b, us1⟩ => vs.length - i) (0, 0, 0, us) ⟨rfl, rfl, rfl, rfl, rfl, rfl, rfl, rfl, rfl, rfl, rfl, rfl, trivial⟩ ⟨g0, g1 (by decide) g0, trivial⟩ ⟨Nat.zero_le _, rfl, hud, by decide, by decide, by simp [val], rfl, rfl, by omega⟩ ?_
  rintro ⟨i, c, b, us1⟩ n hL
  change WC _ _ _ _ _ [(6, .v (.int .i64 (sh : Int))), (7, .ref (0 + 2 + 8 + 2) 1 0 us1.length), (8, .sl 1 (vs.map d32)), (9, .v (.int .i64 (vs.length : Int))), (10, .ref (0 + 2 + 8 + 9 + 3 + 4) 1 0 qs.length), (11, .v (.int .i64 ((k : Int) - 1))), (13, .v (.int .u64 (q1 : Int))), (15, .v (.int .u64 (b : Int))), (16, .v (.int .u64 (c : Int))), (126, .sl 1 (vs.map d32)), (127, .v (.int .i64 (vs.length : Int))), (128, .v (.int .i64 (i : Int)))] ([((0 + 2 + 8 + 2), { cells := (us1.map d32).flatten, sz := 1, elem := 125, st := 0 }), ((0 + 2 + 8 + 9 + 3 + 4), { cells := (qs.map d32).flatten, sz := 1, elem := 125, st := 0 })]) n _
  obtain ⟨hi, hl1, hd1, hc1, hb1, he1, ht1, hp1, hn32⟩ := hL
  refine WC.reg (z := 1) rfl ?_
  refine WO.U (oLss rfl rfl) rfl ?_
  refine WO.D (fun h129 => ?_) (fun h129 => ?_)
  · refine WO.nil ?_
    refine WC.weak [(6, _), (7, _), (8, _), (9, _), (10, _), (11, _), (13, _), (15, _), (16, _), (126, _), (127, _), (128, _), (129, _)] ⟨rfl, rfl, rfl, rfl, rfl, rfl, rfl, rfl, rfl, rfl, rfl, rfl, rfl, trivial⟩ ?_
    refine WC.cT rfl ?_
    refine WC.skips ?_
    refine WC.block ?_
    have hvi : vs.getD i default < 4294967296 := getD_lt hvd (by omega)
    have hui : us1.getD (k - 1 + i) default < 4294967296 := getD_lt hd1 (by omega)
    have hqv := mul_dig hql hvi
    obtain ⟨p, hpe⟩ : ∃ p, p = q1 * vs.getD i default + c := ⟨_, rfl⟩
    obtain ⟨u, hue⟩ : ∃ u, u = us1.getD (k - 1 + i) default := ⟨_, rfl⟩
    have hpb : p < 18446744073709551616 := by omega
    obtain ⟨d, hde⟩ : ∃ d, d = (u + 4294967296 - p % 4294967296 - b) % 4294967296 := ⟨_, rfl⟩
    refine WC.reg (z := 5) rfl ?_
    refine WO.U (oMv rfl) rfl ?_
    refine WO.U (oIxM rfl rfl rfl rfl rfl (by omega) rfl) rfl ?_
    refine WO.U (oLd rfl rfl rfl) rfl ?_
    refine WO.U (oAs rfl) rfl ?_
    refine WO.U (oAs rfl) rfl ?_
    refine WO.nil ?_
    refine WC.weak [(6, _), (7, _), (8, _), (9, _), (10, _), (11, _), (13, _), (15, _), (16, _), (17, _), (18, _), (126, _), (127, _), (128, _)] ⟨rfl, rfl, rfl, rfl, rfl, rfl, rfl, rfl, rfl, rfl, rfl, rfl, rfl, rfl, trivial⟩ ?_
    refine WC.reg (z := 7) rfl ?_
    refine WO.U (oMv rfl) rfl ?_
    refine WO.U (oMv rfl) rfl ?_
    refine WO.U (OP.castI (b := (vs.getD i default : Int)) (oCnv rfl rfl rfl) (by rw [IntKind.wrap_u64]; omega)) rfl ?_
    refine WO.U (OP.castI (b := ((q1 * vs.getD i default : Nat) : Int)) (oMulU rfl rfl) (by rw [← Int.natCast_mul]; omega)) rfl ?_
    refine WO.U (oMv rfl) rfl ?_
    refine WO.U (OP.castI (b := (p : Int)) (oAddU rfl rfl) (by omega)) rfl ?_
    refine WO.U (oAs rfl) rfl ?_
    refine WO.nil ?_
    refine WC.weak [(6, _), (7, _), (8, _), (9, _), (10, _), (11, _), (13, _), (15, _), (17, _), (19, _), (126, _), (127, _), (128, _)] ⟨rfl, rfl, rfl, rfl, rfl, rfl, rfl, rfl, rfl, rfl, rfl, rfl, rfl, trivial⟩ ?_
    refine WC.reg (z := 3) rfl ?_
    refine WO.U (oMv rfl) rfl ?_
    refine WO.U (OP.castI (b := ((p / 4294967296 : Nat) : Int)) (oShrU (s := 32) rfl rfl (by omega)) (by omega)) rfl ?_
    refine WO.U (oAs rfl) rfl ?_
    refine WO.nil ?_
    refine WC.weak [(6, _), (7, _), (8, _), (9, _), (10, _), (11, _), (13, _), (15, _), (16, _), (17, _), (19, _), (126, _), (127, _), (128, _)] ⟨rfl, rfl, rfl, rfl, rfl, rfl, rfl, rfl, rfl, rfl, rfl, rfl, rfl, rfl, trivial⟩ ?_
    refine WC.reg (z := 14) rfl ?_
    refine WO.U (oMv rfl) rfl ?_
    refine WO.U (oMv rfl) rfl ?_
    refine WO.U (oMv rfl) rfl ?_
    refine WO.U (OP.castI (b := ((k - 1 + i : Nat) : Int)) (oAdd64 rfl rfl (by omega)) (by omega)) rfl ?_
    refine WO.U (oIxR (j := k - 1 + i) rfl rfl rfl rfl (by omega) (by omega) rfl) rfl ?_
    refine WO.U (oLdO (f := d32) (us := us1) (j := k - 1 + i) rfl rfl g0 (fun _ => rfl) rfl (by decide) (by omega) rfl) rfl ?_
    refine WO.U (OP.castI (b := (u : Int)) (oCnv rfl rfl rfl) (by rw [IntKind.wrap_u64]; omega)) rfl ?_
    refine WO.U (oMv rfl) rfl ?_
    refine WO.U (OP.castI (b := ((p % 4294967296 : Nat) : Int)) (oCnv rfl rfl rfl) (by rw [IntKind.wrap_u32]; omega)) rfl ?_
    refine WO.U (OP.castI (b := ((p % 4294967296 : Nat) : Int)) (oCnv rfl rfl rfl) (by rw [IntKind.wrap_u64]; omega)) rfl ?_
    refine WO.U (oSubU rfl rfl) rfl ?_
    refine WO.U (oMv rfl) rfl ?_
    refine WO.U (OP.castI (b := ((((u + 18446744073709551616 - p % 4294967296 - b) % 18446744073709551616) : Nat) : Int)) (oSubU rfl rfl) (by omega)) rfl ?_
    refine WO.U (oAs rfl) rfl ?_
    refine WO.nil ?_
    refine WC.weak [(6, _), (7, _), (8, _), (9, _), (10, _), (11, _), (13, _), (16, _), (17, _), (20, _), (126, _), (127, _), (128, _)] ⟨rfl, rfl, rfl, rfl, rfl, rfl, rfl, rfl, rfl, rfl, rfl, rfl, rfl, trivial⟩ ?_
    refine WC.reg (z := 8) rfl ?_
    refine WO.U (oMv rfl) rfl ?_
    refine WO.U (oMv rfl) rfl ?_
    refine WO.U (oMv rfl) rfl ?_
    refine WO.U (OP.castI (b := ((k - 1 + i : Nat) : Int)) (oAdd64 rfl rfl (by omega)) (by omega)) rfl ?_
    refine WO.U (oMv rfl) rfl ?_
    refine WO.U (OP.castI (b := (d : Int)) (oCnv rfl rfl rfl) (by rw [IntKind.wrap_u32]; omega)) rfl ?_
    refine WO.U (oIxR (j := k - 1 + i) rfl rfl rfl rfl (by omega) (by omega) rfl) rfl ?_
    refine WO.S0 (oStO (f := d32) (us := us1) d rfl rfl rfl g0 (fun _ => rfl) rfl rfl (by omega) rfl) ?_
    refine WO.nil ?_
    refine WC.weak [(6, _), (7, _), (8, _), (9, _), (10, _), (11, _), (13, _), (16, _), (20, _), (126, _), (127, _), (128, _)] ⟨rfl, rfl, rfl, rfl, rfl, rfl, rfl, rfl, rfl, rfl, rfl, rfl, trivial⟩ ?_
    refine WC.reg1z (z := 3) rfl ?_
    refine WO.U (oMv rfl) rfl ?_
    refine WO.U (OP.castI (b := ((if u < p % 4294967296 + b then 1 else 0 : Nat) : Int)) (oShrU (s := 63) rfl rfl (by omega)) (by split <;> omega)) rfl ?_
    refine WO.U (oAs rfl) rfl ?_
    refine WO.nil ?_
    refine after_normal ?_
    refine WC.weak [(6, _), (7, _), (8, _), (9, _), (10, _), (11, _), (13, _), (15, _), (16, _), (126, _), (127, _), (128, _)] ⟨rfl, rfl, rfl, rfl, rfl, rfl, rfl, rfl, rfl, rfl, rfl, rfl, trivial⟩ ?_
    refine WC.reg1z (z := 2) rfl ?_
    refine WO.U (OP.castI (b := ((i + 1 : Nat) : Int)) (oAdd64 rfl rfl (by omega)) (by omega)) rfl ?_
    refine WO.U (oMv rfl) rfl ?_
    refine WO.nil ?_
    refine loopR_normal ?_
    refine ⟨⟨i + 1, p / 4294967296, if u < p % 4294967296 + b then 1 else 0, us1.set (k - 1 + i) d⟩, ⟨rfl, congrArg some (by rw [List.length_set]), rfl, rfl, rfl, rfl, rfl, rfl, rfl, rfl, rfl, rfl, trivial⟩, ⟨g0, g1 (by decide) (g1 (by decide) g0), trivial⟩, ⟨by omega, by rw [List.length_set]; exact hl1, hd1.set _ (by omega), by omega, by split <;> omega, ?_, by rw [take_set_le (by omega)]; exact ht1, by rw [drop_set_lt (by omega)]; exact drop_more hp1 (by omega), by omega⟩, by show vs.length - (i + 1) < vs.length - i; omega⟩
    rw [hpe]
    exact submul_step he1 (by omega) (by rw [← hpe, ← hue, hde]; split <;> omega)
  refine WO.nil ?_
  refine WC.weak [(6, _), (7, _), (8, _), (9, _), (10, _), (11, _), (13, _), (15, _), (16, _), (126, _), (127, _), (128, _), (129, _)] ⟨rfl, rfl, rfl, rfl, rfl, rfl, rfl, rfl, rfl, rfl, rfl, rfl, rfl, trivial⟩ ?_
  refine WC.cF rfl ?_
  refine WC.exits ?_
  refine loopR_exit ?_
  refine after_exit rfl ?_
  refine WC.weak [(6, _), (7, _), (8, _), (9, _), (10, _), (11, _), (13, _), (15, _), (16, _)] ⟨rfl, rfl, rfl, rfl, rfl, rfl, rfl, rfl, rfl, trivial⟩ ?_
  have hi' : i = vs.length := by omega
  subst hi'
  rw [List.take_of_length_le (Nat.le_refl _)] at he1
  obtain ⟨u, hue⟩ : ∃ u, u = us1.getD (k - 1 + vs.length) default := ⟨_, rfl⟩
  have hul1 : u < 4294967296 := by rw [hue]; exact getD_lt hd1 (by omega)
  obtain ⟨d, hde⟩ : ∃ d, d = (u + 4294967296 - c - b) % 4294967296 := ⟨_, rfl⟩
  have hd4 : d < 4294967296 := by omega
  refine WC.reg (z := 12) rfl ?_
  refine WO.U (oMv rfl) rfl ?_
  refine WO.U (oMv rfl) rfl ?_
  refine WO.U (oMv rfl) rfl ?_
  refine WO.U (OP.castI (b := ((k - 1 + vs.length : Nat) : Int)) (oAdd64 rfl rfl (by omega)) (by omega)) rfl ?_
  refine WO.U (oIxR (j := k - 1 + vs.length) rfl rfl rfl rfl (by omega) (by omega) rfl) rfl ?_
  refine WO.U (oLdO (f := d32) (us := us1) (j := k - 1 + vs.length) rfl rfl g0 (fun _ => rfl) rfl (by decide) (by omega) rfl) rfl ?_
  refine WO.U (OP.castI (b := (u : Int)) (oCnv rfl rfl rfl) (by rw [IntKind.wrap_u64]; omega)) rfl ?_
  refine WO.U (oMv rfl) rfl ?_
  refine WO.U (oSubU rfl rfl) rfl ?_
  refine WO.U (oMv rfl) rfl ?_
  refine WO.U (OP.castI (b := ((((u + 18446744073709551616 - c - b) % 18446744073709551616) : Nat) : Int)) (oSubU rfl rfl) (by omega)) rfl ?_
  refine WO.U (oAs rfl) rfl ?_
  refine WO.nil ?_
  refine WC.weak [(6, _), (7, _), (8, _), (9, _), (10, _), (11, _), (13, _), (21, _)] ⟨rfl, rfl, rfl, rfl, rfl, rfl, rfl, rfl, trivial⟩ ?_
  refine WC.reg (z := 8) rfl ?_
  refine WO.U (oMv rfl) rfl ?_
  refine WO.U (oMv rfl) rfl ?_
  refine WO.U (oMv rfl) rfl ?_
  refine WO.U (OP.castI (b := ((k - 1 + vs.length : Nat) : Int)) (oAdd64 rfl rfl (by omega)) (by omega)) rfl ?_
  refine WO.U (oMv rfl) rfl ?_
  refine WO.U (OP.castI (b := (d : Int)) (oCnv rfl rfl rfl) (by rw [IntKind.wrap_u32]; omega)) rfl ?_
  refine WO.U (oIxR (j := k - 1 + vs.length) rfl rfl rfl rfl (by omega) (by omega) rfl) rfl ?_
  refine WO.S0 (oStO (f := d32) (us := us1) d rfl rfl rfl g0 (fun _ => rfl) rfl rfl (by omega) rfl) ?_
  refine WO.nil ?_
  refine WC.weak [(6, _), (7, _), (8, _), (9, _), (10, _), (11, _), (13, _), (21, _)] ⟨rfl, rfl, rfl, rfl, rfl, rfl, rfl, rfl, trivial⟩ ?_
  refine WC.assoc ?_
  refine WC.reg (z := 3) rfl ?_
  refine WO.U (oMv rfl) rfl ?_
  refine WO.U (OP.castI (b := ((if u < c + b then 1 else 0 : Nat) : Int)) (oShrU (s := 63) rfl rfl (by omega)) (by split <;> omega)) rfl ?_
  refine WO.U (oEql rfl rfl) rfl ?_
  refine WO.D (fun h184 => ?_) (fun h184 => ?_)
  rotate_left
  · have hneg : c + b ≤ u := by
      rcases Nat.lt_or_ge u (c + b) with h | h
      · rw [if_pos h] at h184; simp at h184
      · exact h
    have hs2 := sub_last (o := 0) (d := d) he1 (by omega) (by rw [← hue]; omega)
    rw [Nat.mul_zero, Nat.add_zero] at hs2
    refine WO.nil ?_
    refine WC.weak [(6, _), (7, _), (8, _), (9, _), (10, _), (11, _), (13, _), (184, _)] ⟨rfl, rfl, rfl, rfl, rfl, rfl, rfl, rfl, trivial⟩ ?_
    refine WC.cF rfl ?_
    refine WC.skips ?_
    have hlF : (us1.set (k - 1 + vs.length) d).length = us.length := by rw [List.length_set]; exact hl1
    have hdF : Dg 4294967296 (us1.set (k - 1 + vs.length) d) := hd1.set _ hd4
    have hltF := long_end0 (by decide) hV0 (by omega) (by omega) (by rw [take_set_le (by omega)]; exact ht1) hs2 hG2
    have hUF := long_next (qs := qs) (j := k - 1) (by omega) (by rw [show k - 1 + 1 = k by omega]; exact hU) hs2
    refine WC.reg1z (z := 6) rfl ?_
    refine WO.U (oMv rfl) rfl ?_
    refine WO.U (oMv rfl) rfl ?_
    refine WO.U (oMv rfl) rfl ?_
    refine WO.U (OP.castI (b := (q1 : Int)) (oCnv rfl rfl rfl) (by rw [IntKind.wrap_u32]; omega)) rfl ?_
    refine WO.U (oIxR (j := k - 1) rfl rfl rfl rfl (by omega) (by omega) rfl) rfl ?_
    refine WO.S0 (oStO (f := d32) (us := qs) q1 rfl rfl rfl (g1 (by decide) (g1 (by decide) g0)) (fun _ => rfl) rfl rfl (by omega) rfl) ?_
    refine WO.nil ?_
    refine after_normal ?_
    refine WC.weak [(6, _), (7, _), (8, _), (9, _), (10, _), (11, _)] ⟨rfl, rfl, rfl, rfl, rfl, rfl, trivial⟩ ?_
    refine WC.reg1z (z := 3) rfl ?_
    refine WO.U (oMv rfl) rfl ?_
    refine WO.U (OP.castI (b := ((k - 1 : Nat) : Int) - 1) (oSub64 rfl rfl (by omega)) (by omega)) rfl ?_
    refine WO.U (oAs rfl) rfl ?_
    refine WO.nil ?_
    refine loopR_normal ?_
    refine ⟨⟨k - 1, (us1.set (k - 1 + vs.length) d), qs.set (k - 1) q1⟩, ⟨rfl, congrArg some (by rw [List.length_set]), rfl, rfl, congrArg some (by rw [List.length_set]), rfl, trivial⟩, ⟨g1 (by decide) g0, g0, trivial⟩, ⟨by rw [hlF]; omega, by rw [hlF]; exact hul, by rw [List.length_set]; exact hql0, hdF, hqd.set _ (by omega), hUF, hltF, by omega⟩, by show k - 1 < k; omega⟩
  have hneg : u < c + b := by
    rcases Nat.lt_or_ge u (c + b) with h | h
    · exact h
    · rw [if_neg (by omega)] at h184; simp at h184
  have hs2 := sub_last (o := 1) (d := d) he1 (by omega) (by rw [← hue]; omega)
  have hlT : (us1.set (k - 1 + vs.length) d).length = us.length := by rw [List.length_set]; exact hl1
  have hdT : Dg 4294967296 (us1.set (k - 1 + vs.length) d) := hd1.set _ hd4
  have htT : (us1.set (k - 1 + vs.length) d).take (k - 1) = us.take (k - 1) := by rw [take_set_le (by omega)]; exact ht1
  have hpT : (us1.set (k - 1 + vs.length) d).drop (k - 1 + vs.length + 1) = us.drop (k - 1 + vs.length + 1) := by rw [drop_set_lt (by omega)]; exact drop_more hp1 (by omega)
  obtain ⟨hgt, hq1p⟩ := neg_gt (by decide) hdT (by omega) hlT hRB hpT htT hs2
  refine WO.nil ?_
  refine WC.weak [(6, _), (7, _), (8, _), (9, _), (10, _), (11, _), (13, _), (184, _)] ⟨rfl, rfl, rfl, rfl, rfl, rfl, rfl, rfl, trivial⟩ ?_
  refine WC.cT rfl ?_
  refine WC.assoc ?_
  refine WC.reg (z := 3) rfl ?_
  refine WO.U (oMv rfl) rfl ?_
  refine WO.U (OP.castI (b := ((q1 - 1 : Nat) : Int)) (oSubU rfl rfl) (by omega)) rfl ?_
  refine WO.U (oAs rfl) rfl ?_
  refine WO.nil ?_
  refine WC.weak [(6, _), (7, _), (8, _), (9, _), (10, _), (11, _), (13, _)] ⟨rfl, rfl, rfl, rfl, rfl, rfl, rfl, trivial⟩ ?_
  refine WC.assoc ?_
  refine WC.reg (z := 1) rfl ?_
  refine WO.U (oAs rfl) rfl ?_
  refine WO.nil ?_
  refine WC.weak [(6, _), (7, _), (8, _), (9, _), (10, _), (11, _), (13, _), (22, _)] ⟨rfl, rfl, rfl, rfl, rfl, rfl, rfl, rfl, trivial⟩ ?_
  refine WC.assoc ?_
  refine WC.assoc ?_
  refine WC.reg (z := 3) rfl ?_
  refine WO.U (oMv rfl) rfl ?_
  refine WO.U (oLenM rfl rfl) rfl ?_
  refine WO.U (oMv rfl) rfl ?_
  refine WO.nil ?_
  refine WC.weak [(6, _), (7, _), (8, _), (9, _), (10, _), (11, _), (13, _), (22, _), (187, _), (188, _), (189, _)] ⟨rfl, rfl, rfl, rfl, rfl, rfl, rfl, rfl, rfl, rfl, rfl, trivial⟩ ?_
  refine WC.block ?_
  refine WC.loopV (α := Nat × Nat × (List Nat)) (fun ⟨i2, c2, us3⟩ => [(6, .v (.int .i64 (sh : Int))), (7, .ref (0 + 2 + 8 + 2) 1 0 us3.length), (8, .sl 1 (vs.map d32)), (9, .v (.int .i64 (vs.length : Int))), (10, .ref (0 + 2 + 8 + 9 + 3 + 4) 1 0 qs.length), (11, .v (.int .i64 ((k : Int) - 1))), (13, .v (.int .u64 ((q1 - 1 : Nat) : Int))), (22, .v (.int .u32 (c2 : Int))), (187, .sl 1 (vs.map d32)), (188, .v (.int .i64 (vs.length : Int))), (189, .v (.int .i64 (i2 : Int)))]) (fun ⟨i2, c2, us3⟩ => [((0 + 2 + 8 + 2), { cells := (us3.map d32).flatten, sz := 1, elem := 125, st := 0 }), ((0 + 2 + 8 + 9 + 3 + 4), { cells := (qs.map d32).flatten, sz := 1, elem := 125, st := 0 })]) (fun ⟨i2, c2, us3⟩ n => i2 ≤ vs.length ∧ us3.length = us.length ∧ Dg 4294967296 us3 ∧ c2 ≤ 1 ∧ val 4294967296 us3 + 4294967296 ^ (k - 1 + i2) * c2 = val 4294967296 (us1.set (k - 1 + vs.length) d) + 4294967296 ^ (k - 1) * val 4294967296 (vs.take i2) ∧ us3.take (k - 1) = us.take (k - 1) ∧ us3.drop (k - 1 + vs.length) = (us1.set (k - 1 + vs.length) d).drop (k - 1 + vs.length) ∧ 30 ≤ n) (fun ⟨i2, c2, us3⟩ => vs.length - i2) (0, 0, (us1.set (k - 1 + vs.length) d)) ⟨rfl, congrArg some (by rw [List.length_set]), rfl, rfl, rfl, rfl, rfl, rfl, rfl, rfl, rfl, trivial⟩ ⟨g0, g1 (by decide) (g1 (by decide) g0), trivial⟩ ⟨Nat.zero_le _, hlT, hdT, by decide, by simp [val], htT, rfl, by omega⟩ ?_
  rintro ⟨i2, c2, us3⟩ n hM
  change WC _ _ _ _ _ [(6, .v (.int .i64 (sh : Int))), (7, .ref (0 + 2 + 8 + 2) 1 0 us3.length), (8, .sl 1 (vs.map d32)), (9, .v (.int .i64 (vs.length : Int))), (10, .ref (0 + 2 + 8 + 9 + 3 + 4) 1 0 qs.length), (11, .v (.int .i64 ((k : Int) - 1))), (13, .v (.int .u64 ((q1 - 1 : Nat) : Int))), (22, .v (.int .u32 (c2 : Int))), (187, .sl 1 (vs.map d32)), (188, .v (.int .i64 (vs.length : Int))), (189, .v (.int .i64 (i2 : Int)))] ([((0 + 2 + 8 + 2), { cells := (us3.map d32).flatten, sz := 1, elem := 125, st := 0 }), ((0 + 2 + 8 + 9 + 3 + 4), { cells := (qs.map d32).flatten, sz := 1, elem := 125, st := 0 })]) n _
  obtain ⟨hi2, hl3, hd3, hc3, he3, ht3, hp3, hn33⟩ := hM
  refine WC.reg (z := 1) rfl ?_
  refine WO.U (oLss rfl rfl) rfl ?_
  refine WO.D (fun h190 => ?_) (fun h190 => ?_)
  · refine WO.nil ?_
    refine WC.weak [(6, _), (7, _), (8, _), (9, _), (10, _), (11, _), (13, _), (22, _), (187, _), (188, _), (189, _), (190, _)] ⟨rfl, rfl, rfl, rfl, rfl, rfl, rfl, rfl, rfl, rfl, rfl, rfl, trivial⟩ ?_
    refine WC.cT rfl ?_
    refine WC.skips ?_
    refine WC.block ?_
    refine WC.reg (z := 5) rfl ?_
    refine WO.U (oMv rfl) rfl ?_
    refine WO.U (oIxM rfl rfl rfl rfl rfl (by omega) rfl) rfl ?_
    refine WO.U (oLd rfl rfl rfl) rfl ?_
    refine WO.U (oAs rfl) rfl ?_
    refine WO.U (oAs rfl) rfl ?_
    refine WO.nil ?_
    refine WC.weak [(6, _), (7, _), (8, _), (9, _), (10, _), (11, _), (13, _), (22, _), (23, _), (24, _), (187, _), (188, _), (189, _)] ⟨rfl, rfl, rfl, rfl, rfl, rfl, rfl, rfl, rfl, rfl, rfl, rfl, rfl, trivial⟩ ?_
    have hu3 : us3.getD (k - 1 + i2) default < 4294967296 := getD_lt hd3 (by omega)
    have hv3 : vs.getD i2 default < 4294967296 := getD_lt hvd (by omega)
    refine WC.reg1z (z := 19) rfl ?_
    refine WO.U (oMv rfl) rfl ?_
    refine WO.U (oMv rfl) rfl ?_
    refine WO.U (oMv rfl) rfl ?_
    refine WO.U (OP.castI (b := ((k - 1 + i2 : Nat) : Int)) (oAdd64 rfl rfl (by omega)) (by omega)) rfl ?_
    refine WO.U (oMv rfl) rfl ?_
    refine WO.U (oMv rfl) rfl ?_
    refine WO.U (oMv rfl) rfl ?_
    refine WO.U (OP.castI (b := ((k - 1 + i2 : Nat) : Int)) (oAdd64 rfl rfl (by omega)) (by omega)) rfl ?_
    refine WO.U (oIxR (j := k - 1 + i2) rfl rfl rfl rfl (by omega) (by omega) rfl) rfl ?_
    refine WO.U (oLdO (f := d32) (us := us3) (j := k - 1 + i2) rfl rfl g0 (fun _ => rfl) rfl (by decide) (by omega) rfl) rfl ?_
    refine WO.U (oMv rfl) rfl ?_
    refine WO.U (oMv rfl) rfl ?_
    refine WO.U (oCall rfl (add32_run (us3.getD (k - 1 + i2) default) (vs.getD i2 default) c2 hu3 hv3 hc3) (by simp)) rfl ?_
    refine WO.U (oMv rfl) rfl ?_
    refine WO.U (oEx rfl rfl) rfl ?_
    refine WO.U (oEx rfl rfl) rfl ?_
    refine WO.U (oIxR (j := k - 1 + i2) rfl rfl rfl rfl (by omega) (by omega) rfl) rfl ?_
    refine WO.S0 (oStO (f := d32) (us := us3) ((us3.getD (k - 1 + i2) default + vs.getD i2 default + c2) % 4294967296) rfl rfl rfl g0 (fun _ => rfl) rfl rfl (by omega) rfl) ?_
    refine WO.U (oAs rfl) rfl ?_
    refine WO.nil ?_
    refine after_normal ?_
    refine WC.weak [(6, _), (7, _), (8, _), (9, _), (10, _), (11, _), (13, _), (22, _), (187, _), (188, _), (189, _)] ⟨rfl, rfl, rfl, rfl, rfl, rfl, rfl, rfl, rfl, rfl, rfl, trivial⟩ ?_
    refine WC.reg1z (z := 2) rfl ?_
    refine WO.U (OP.castI (b := ((i2 + 1 : Nat) : Int)) (oAdd64 rfl rfl (by omega)) (by omega)) rfl ?_
    refine WO.U (oMv rfl) rfl ?_
    refine WO.nil ?_
    refine loopR_normal ?_
    refine ⟨⟨i2 + 1, _, us3.set (k - 1 + i2) ((us3.getD (k - 1 + i2) default + vs.getD i2 default + c2) % 4294967296)⟩, ⟨rfl, congrArg some (by rw [List.length_set]), rfl, rfl, rfl, rfl, rfl, rfl, rfl, rfl, rfl, trivial⟩, ⟨g0, g1 (by decide) (g1 (by decide) g0), trivial⟩, ⟨by omega, by rw [List.length_set]; exact hl3, hd3.set _ (by omega), by omega, addback_step he3 (by omega), by rw [take_set_le (by omega)]; exact ht3, by rw [drop_set_lt (by omega)]; exact hp3, by omega⟩, by show vs.length - (i2 + 1) < vs.length - i2; omega⟩
  refine WO.nil ?_
  refine WC.weak [(6, _), (7, _), (8, _), (9, _), (10, _), (11, _), (13, _), (22, _), (187, _), (188, _), (189, _), (190, _)] ⟨rfl, rfl, rfl, rfl, rfl, rfl, rfl, rfl, rfl, rfl, rfl, rfl, trivial⟩ ?_
  refine WC.cF rfl ?_
  refine WC.exits ?_
  refine loopR_exit ?_
  refine after_exit rfl ?_
  refine WC.weak [(6, _), (7, _), (8, _), (9, _), (10, _), (11, _), (13, _), (22, _)] ⟨rfl, rfl, rfl, rfl, rfl, rfl, rfl, rfl, trivial⟩ ?_
  have hi' : i2 = vs.length := by omega
  subst hi'
  rw [List.take_of_length_le (Nat.le_refl _)] at he3
  have hu3 : us3.getD (k - 1 + vs.length) default < 4294967296 := getD_lt hd3 (by omega)
  refine WC.reg (z := 10) rfl ?_
  refine WO.U (oMv rfl) rfl ?_
  refine WO.U (oMv rfl) rfl ?_
  refine WO.U (oMv rfl) rfl ?_
  refine WO.U (OP.castI (b := ((k - 1 + vs.length : Nat) : Int)) (oAdd64 rfl rfl (by omega)) (by omega)) rfl ?_
  refine WO.U (oIxR (j := k - 1 + vs.length) rfl rfl rfl rfl (by omega) (by omega) rfl) rfl ?_
  refine WO.U (oLdO (f := d32) (us := us3) (j := k - 1 + vs.length) rfl rfl g0 (fun _ => rfl) rfl (by decide) (by omega) rfl) rfl ?_
  refine WO.U (oMv rfl) rfl ?_
  refine WO.U (OP.castI (b := (((us3.getD (k - 1 + vs.length) default + c2) % 4294967296 : Nat) : Int)) (oAdd32 rfl rfl) (by omega)) rfl ?_
  refine WO.U (oIxR (j := k - 1 + vs.length) rfl rfl rfl rfl (by omega) (by omega) rfl) rfl ?_
  refine WO.S0 (oStO (f := d32) (us := us3) ((us3.getD (k - 1 + vs.length) default + c2) % 4294967296) rfl rfl rfl g0 (fun _ => rfl) rfl rfl (by omega) rfl) ?_
  refine WO.nil ?_
  refine WC.weak [(6, _), (7, _), (8, _), (9, _), (10, _), (11, _), (13, _)] ⟨rfl, rfl, rfl, rfl, rfl, rfl, rfl, trivial⟩ ?_
  have hlF : (us3.set (k - 1 + vs.length) ((us3.getD (k - 1 + vs.length) default + c2) % 4294967296)).length = us.length := by rw [List.length_set]; exact hl3
  have hdF : Dg 4294967296 (us3.set (k - 1 + vs.length) ((us3.getD (k - 1 + vs.length) default + c2) % 4294967296)) := hd3.set _ (by omega)
  have h4 := addback_last he3 (by omega)
  obtain ⟨hs4, hltF⟩ := back_end (by decide) hV0 hdF (by omega) hlF hRB (by rw [drop_set_lt (by omega)]; exact (drop_more hp3 (by omega)).trans hpT) (by rw [take_set_le (by omega)]; exact ht3) hs2 h4 hG2 hq1p hqo hgt (by omega)
  have hUF := long_next (qs := qs) (j := k - 1) (by omega) (by rw [show k - 1 + 1 = k by omega]; exact hU) hs4
  refine WC.reg1z (z := 6) rfl ?_
  refine WO.U (oMv rfl) rfl ?_
  refine WO.U (oMv rfl) rfl ?_
  refine WO.U (oMv rfl) rfl ?_
  refine WO.U (OP.castI (b := ((q1 - 1 : Nat) : Int)) (oCnv rfl rfl rfl) (by rw [IntKind.wrap_u32]; omega)) rfl ?_
  refine WO.U (oIxR (j := k - 1) rfl rfl rfl rfl (by omega) (by omega) rfl) rfl ?_
  refine WO.S0 (oStO (f := d32) (us := qs) (q1 - 1) rfl rfl rfl (g1 (by decide) (g1 (by decide) g0)) (fun _ => rfl) rfl rfl (by omega) rfl) ?_
  refine WO.nil ?_
  refine after_normal ?_
  refine WC.weak [(6, _), (7, _), (8, _), (9, _), (10, _), (11, _)] ⟨rfl, rfl, rfl, rfl, rfl, rfl, trivial⟩ ?_
  refine WC.reg1z (z := 3) rfl ?_
  refine WO.U (oMv rfl) rfl ?_
  refine WO.U (OP.castI (b := ((k - 1 : Nat) : Int) - 1) (oSub64 rfl rfl (by omega)) (by omega)) rfl ?_
  refine WO.U (oAs rfl) rfl ?_
  refine WO.nil ?_
  refine loopR_normal ?_
  refine ⟨⟨k - 1, (us3.set (k - 1 + vs.length) ((us3.getD (k - 1 + vs.length) default + c2) % 4294967296)), qs.set (k - 1) (q1 - 1)⟩, ⟨rfl, congrArg some (by rw [List.length_set]), rfl, rfl, congrArg some (by rw [List.length_set]), rfl, trivial⟩, ⟨g1 (by decide) g0, g0, trivial⟩, ⟨by rw [hlF]; omega, by rw [hlF]; exact hul, by rw [List.length_set]; exact hql0, hdF, hqd.set _ (by omega), hUF, hltF, by omega⟩, by show k - 1 < k; omega⟩
end Go.Proofs.YtcmieifjephdcaaGreat
set_option linter.unusedVariables false
set_option linter.unusedSimpArgs false
set_option maxRecDepth 100000
set_option maxHeartbeats 1000000
namespace Go.Proofs.YtcmieifjephdcaaGreat
open Go.Ab Go.RowKit
theorem quo_run (v w : Int) (hw0 : w ≠ 0) (hv : len32 v < 549755813888) (hw : len32 w < 549755813888) : Run Tryz.prog T E0 (.call 128 [lvI v, lvI w] (.tup [lvI (v.tdiv w), lvI (v.tmod w)])) := by
  obtain ⟨xs, hxs, dv, qv, tv, lxv⟩ := xs_of v
  obtain ⟨ys, hys, dw, qw, tw, lyw⟩ := xs_of w
  have bv := ia_bd v
  have bw := ia_bd w
  have hwa : 0 < w.natAbs := by omega
  have hyl : 0 < ys.length := by
    rcases Nat.eq_zero_or_pos ys.length with h | h
    · rw [List.length_eq_zero_iff.1 h] at dw; simp [val] at dw; omega
    · exact h
  refine mkcall Tryz.func128 rfl rfl (Nat.le_of_ble_eq_true rfl) ?_
  have J3 : ∀  (n : Nat) , WC Tryz.prog T E0 Tryz.f128.ntmps (codeR (codeR (codeOf Tryz.f128))) [(2, .ptr 0 0), (3, .ptr 1 0), (4, .ptr 2 0), (5, .ptr 3 0)] [(3, { cells := [.v (.int .i64 0), .sl 0 []], sz := 2, elem := 75, st := 0 }), (2, { cells := [.v (.int .i64 0), .sl 0 []], sz := 2, elem := 75, st := 0 }), (1, { cells := (lvI w).cells, sz := 2, elem := 75, st := 0 }), (0, { cells := (lvI v).cells, sz := 2, elem := 75, st := 0 })] n (Post T Tryz.f128.results.toList (.tup [lvI (v.tdiv w), lvI (v.tmod w)])) := by
    intro  n
    refine WC.reg (z := 7) rfl ?_
    refine WO.U (oLdP (l := .agg [_, _]) rfl rfl rfl rfl rfl) rfl ?_
    refine WO.U (oCall rfl ((hxs ▸ digits_run v)) (by simp)) rfl ?_
    refine WO.U (oMv rfl) rfl ?_
    refine WO.U (oEx rfl rfl) rfl ?_
    refine WO.U (oEx rfl rfl) rfl ?_
    refine WO.U (oAs rfl) rfl ?_
    refine WO.U (oAs rfl) rfl ?_
    refine WO.nil ?_
    refine WC.weak [(2, _), (3, _), (4, _), (5, _), (6, _), (7, _)] ⟨rfl, rfl, rfl, rfl, rfl, rfl, trivial⟩ ?_
    refine WC.reg (z := 7) rfl ?_
    refine WO.U (oLdP (l := .agg [_, _]) rfl rfl rfl rfl rfl) rfl ?_
    refine WO.U (oCall rfl ((hys ▸ digits_run w)) (by simp)) rfl ?_
    refine WO.U (oMv rfl) rfl ?_
    refine WO.U (oEx rfl rfl) rfl ?_
    refine WO.U (oEx rfl rfl) rfl ?_
    refine WO.U (oAs rfl) rfl ?_
    refine WO.U (oAs rfl) rfl ?_
    refine WO.nil ?_
    refine WC.weak [(2, _), (4, _), (5, _), (6, _), (7, _), (8, _), (9, _)] ⟨rfl, rfl, rfl, rfl, rfl, rfl, rfl, trivial⟩ ?_
    refine WC.assoc ?_
    refine WC.reg (z := 4) rfl ?_
    refine WO.U (oMv rfl) rfl ?_
    refine WO.U (oMv rfl) rfl ?_
    refine WO.U (oCall rfl (compare_run 1 1 xs ys qv qw tv tw (by omega) (by omega)) (by simp)) rfl ?_
    refine WO.U (oLss rfl rfl) rfl ?_
    refine WO.D (fun h47 => ?_) (fun h47 => ?_)
    · refine WO.nil ?_
      refine WC.weak [(2, _), (4, _), (5, _), (6, _), (7, _), (8, _), (9, _), (47, _)] ⟨rfl, rfl, rfl, rfl, rfl, rfl, rfl, rfl, trivial⟩ ?_
      refine WC.cT rfl ?_
      refine WC.assoc ?_
      refine WC.draw (z := 4) rfl (by kernel_rfl) ?_
      refine WD.U (oBd (cs := [_, _]) rfl rfl rfl rfl rfl) rfl ?_
      refine WD.U (oLdP (l := .agg [_, _]) rfl rfl rfl rfl rfl) rfl ?_
      refine WD.S0 (oSt (cs' := [_, _]) rfl rfl rfl rfl rfl rfl rfl rfl) ?_
      refine WD.S0 (oSt (cs' := [_, _]) rfl rfl rfl rfl rfl rfl rfl rfl) ?_
      refine WD.nil (drawOk_of (by kernel_rfl)) rfl ?_
      refine WC.weak [(4, _), (5, _)] ⟨rfl, rfl, trivial⟩ ?_
      refine WC.rets ?_
      refine post (n := 0) (.inr rfl) rfl ?_ (by simp)
      obtain ⟨e1, e2⟩ := quo_small (v := v) (w := w) (by have := Int.sign_neg_iff.1 (show ((val 4294967296 xs : Int) - val 4294967296 ys).sign < 0 from h47); omega)
      rw [e1, e2]; rfl
    refine WO.nil ?_
    refine WC.weak [(2, _), (4, _), (5, _), (6, _), (7, _), (8, _), (9, _), (47, _)] ⟨rfl, rfl, rfl, rfl, rfl, rfl, rfl, rfl, trivial⟩ ?_
    refine WC.cF rfl ?_
    refine WC.skips ?_
    refine WC.assoc ?_
    have hge : val 4294967296 ys ≤ val 4294967296 xs := by
      rcases Nat.lt_or_ge (val 4294967296 xs) (val 4294967296 ys) with h | h
      · exact absurd (Int.sign_neg_iff.2 (show (val 4294967296 xs : Int) - val 4294967296 ys < 0 by omega)) h47
      · exact h
    have hv0 : v ≠ 0 := by omega
    have hpm := sign_pm hv0 hw0
    have hp1 := sign_1 hv0
    have hll : ys.length ≤ xs.length := by
      rcases Nat.lt_or_ge xs.length ys.length with h | h
      · have := val_lt_len (by decide) qv tw h; omega
      · exact h
    obtain ⟨σ, hσ⟩ : ∃ σ, σ = v.sign * w.sign := ⟨_, rfl⟩
    rw [← hσ] at hpm
    refine WC.reg (z := 3) rfl ?_
    refine WO.U (oMv rfl) rfl ?_
    refine WO.U (oLenM rfl rfl) rfl ?_
    refine WO.U (oEql rfl rfl) rfl ?_
    refine WO.D (fun h52 => ?_) (fun h52 => ?_)
    rotate_left
    · refine WO.nil ?_
      refine WC.weak [(4, _), (5, _), (6, _), (7, _), (8, _), (9, _), (52, _)] ⟨rfl, rfl, rfl, rfl, rfl, rfl, rfl, trivial⟩ ?_
      refine WC.cF rfl ?_
      refine WC.skips ?_
      have hy2 : 2 ≤ ys.length := by omega
      obtain ⟨r, hr, qs, rs, rfl, hqd, hrd, hval, hrest, hql, hrl⟩ := long_run 1 1 xs ys qv qw tw hy2 hll (by omega)
      obtain ⟨hq1, hq2⟩ := quo_law (v := v) (w := w) (q := val 4294967296 qs) (r := val 4294967296 rs) (by rw [← dw, ← dv]; exact hval) (by rw [← dw]; exact hrest)
      refine WC.reg (z := 8) rfl ?_
      refine WO.U (oMv rfl) rfl ?_
      refine WO.U (oMv rfl) rfl ?_
      refine WO.U (oCall rfl (hr) (by simp)) rfl ?_
      refine WO.U (oMv rfl) rfl ?_
      refine WO.U (oEx rfl rfl) rfl ?_
      refine WO.U (oEx rfl rfl) rfl ?_
      refine WO.U (oAs rfl) rfl ?_
      refine WO.U (oAs rfl) rfl ?_
      refine WO.nil ?_
      refine WC.weak [(4, _), (5, _), (6, _), (8, _), (12, _), (13, _)] ⟨rfl, rfl, rfl, rfl, rfl, rfl, trivial⟩ ?_
      refine WC.reg (z := 10) rfl ?_
      refine WO.U (oMv rfl) rfl ?_
      refine WO.U (oMv rfl) rfl ?_
      refine WO.U (OP.castI (b := σ) (oMul64 rfl rfl (by rw [← hσ]; omega)) hσ.symm) rfl ?_
      refine WO.U (oMv rfl) rfl ?_
      refine WO.U (oCall rfl (made_run σ 1 qs (by omega) (.inl rfl) hqd (by omega)) (by simp)) rfl ?_
      refine WO.U (oMv rfl) rfl ?_
      refine WO.U (oMv rfl) rfl ?_
      refine WO.U (oCall rfl (made_run v.sign 1 rs (by omega) (.inl rfl) hrd (by omega)) (by simp)) rfl ?_
      refine WO.S0 (oSt (cs' := [_, _]) rfl rfl rfl rfl rfl rfl rfl rfl) ?_
      refine WO.S0 (oSt (cs' := [_, _]) rfl rfl rfl rfl rfl rfl rfl rfl) ?_
      refine WO.nil ?_
      refine WC.weak [(4, _), (5, _)] ⟨rfl, rfl, trivial⟩ ?_
      refine WC.ret ?_
      refine post (n := 0) (.inr rfl) rfl ?_ (by simp)
      rw [hq1, hq2, ← hσ]; rfl
    refine WO.nil ?_
    refine WC.weak [(4, _), (5, _), (6, _), (7, _), (8, _), (9, _), (52, _)] ⟨rfl, rfl, rfl, rfl, rfl, rfl, rfl, trivial⟩ ?_
    refine WC.cT rfl ?_
    refine WC.assoc ?_
    have hy1 : ys.length = 1 := by omega
    have hyv : val 4294967296 ys = ys.getD 0 default := by
      obtain ⟨y, rfl⟩ := List.length_eq_one_iff.1 hy1
      simp [val]
    have hyb : ys.getD 0 default < 4294967296 := getD_lt qw (by omega)
    obtain ⟨r, hr, ds, rest, rfl, hdd, hrest, hval, hlen⟩ := short_run 1 xs (ys.getD 0 default) qv (by omega) hyb (by omega)
    obtain ⟨hq1, hq2⟩ := quo_law (v := v) (w := w) (q := val 4294967296 ds) (r := rest) (by rw [← dw, ← dv, hyv]; exact hval) (by rw [← dw, hyv]; exact hrest)
    have hrd : Dg 4294967296 [rest] := by intro d hd; simp at hd; omega
    refine WC.reg (z := 10) rfl ?_
    refine WO.U (oMv rfl) rfl ?_
    refine WO.U (oMv rfl) rfl ?_
    refine WO.U (oIxM (j := 0) rfl rfl rfl rfl (by omega) (by omega) rfl) rfl ?_
    refine WO.U (oLd rfl rfl rfl) rfl ?_
    refine WO.U (oCall rfl (hr) (by simp)) rfl ?_
    refine WO.U (oMv rfl) rfl ?_
    refine WO.U (oEx rfl rfl) rfl ?_
    refine WO.U (oEx rfl rfl) rfl ?_
    refine WO.U (oAs rfl) rfl ?_
    refine WO.U (oAs rfl) rfl ?_
    refine WO.nil ?_
    refine WC.weak [(4, _), (5, _), (6, _), (8, _), (10, _), (11, _)] ⟨rfl, rfl, rfl, rfl, rfl, rfl, trivial⟩ ?_
    refine WC.assoc ?_
    refine WC.reg (z := 11) rfl ?_
    refine WO.U (oMv rfl) rfl ?_
    refine WO.U (oMv rfl) rfl ?_
    refine WO.U (OP.castI (b := σ) (oMul64 rfl rfl (by rw [← hσ]; omega)) hσ.symm) rfl ?_
    refine WO.U (oMv rfl) rfl ?_
    refine WO.U (oCall rfl (made_run σ 1 ds (by omega) (.inl rfl) hdd (by omega)) (by simp)) rfl ?_
    refine WO.U (oMv rfl) rfl ?_
    refine WO.U (oMv rfl) rfl ?_
    refine WO.U (oBs' (cs := [_]) (rows := [[_]]) rfl rfl (by decide) rfl rfl rfl) rfl ?_
    refine WO.U (oCall rfl (made_run v.sign 2 [rest] (by omega) (.inr rfl) hrd (by simp)) (by simp)) rfl ?_
    refine WO.S0 (oSt (cs' := [_, _]) rfl rfl rfl rfl rfl rfl rfl rfl) ?_
    refine WO.S0 (oSt (cs' := [_, _]) rfl rfl rfl rfl rfl rfl rfl rfl) ?_
    refine WO.nil ?_
    refine WC.weak [(4, _), (5, _)] ⟨rfl, rfl, trivial⟩ ?_
    refine WC.rets ?_
    refine post (n := 0) (.inr rfl) rfl ?_ (by simp)
    rw [hq1, hq2, ← hσ]; exact congrArg (fun z => LV.tup [lvI (σ * (val 4294967296 ds : Int)), lvI (v.sign * z)]) (by simp [val])
  refine WC.weak [(0, _), (1, _)] ⟨rfl, rfl, trivial⟩ ?_
  refine WC.reg (z := 4) rfl ?_
  refine WO.S (oBx rfl rfl) rfl ?_
  refine WO.S (oBx rfl rfl) rfl ?_
  refine WO.S (oAl rfl) rfl ?_
  refine WO.S (oAl rfl) rfl ?_
  refine WO.nil ?_
  refine WC.weak [(2, _), (3, _), (4, _), (5, _)] ⟨rfl, rfl, rfl, rfl, trivial⟩ ?_
  refine WC.assoc ?_
  refine WC.reg (z := 8) rfl ?_
  refine WO.U (oFaP rfl rfl rfl rfl rfl) rfl ?_
  refine WO.U (oLdP rfl rfl rfl rfl rfl) rfl ?_
  refine WO.U (oNilE rfl rfl) rfl ?_
  refine WO.B (fun h16 => ?_) (fun h16 => ?_)
  rotate_left
  · refine WO.U (oMv rfl) rfl ?_
    refine WO.K rfl rfl ?_
    refine WO.K rfl rfl ?_
    refine WO.K rfl rfl ?_
    refine WO.U (oPkF rfl rfl) rfl ?_
    refine WO.nil ?_
    refine WC.weak [(2, _), (3, _), (4, _), (5, _), (21, _)] ⟨rfl, rfl, rfl, rfl, rfl, trivial⟩ ?_
    refine WC.cF rfl ?_
    refine WC.skips ?_
    refine WC.weak [(2, _), (3, _), (4, _), (5, _)] ⟨rfl, rfl, rfl, rfl, trivial⟩ ?_
    exact J3 _
  refine WO.U (oMv rfl) rfl ?_
  refine WO.Ug rfl (oFaP rfl rfl rfl rfl rfl) rfl ?_
  refine WO.Ug rfl (oLdP rfl rfl rfl rfl rfl) rfl ?_
  refine WO.Ug rfl (oNilE rfl rfl) rfl ?_
  refine WO.B (fun h20 => ?_) (fun h20 => ?_)
  rotate_left
  · refine WO.U (oPkT rfl rfl) rfl ?_
    refine WO.nil ?_
    refine WC.weak [(2, _), (3, _), (4, _), (5, _), (21, _)] ⟨rfl, rfl, rfl, rfl, rfl, trivial⟩ ?_
    refine WC.cF rfl ?_
    refine WC.skips ?_
    refine WC.weak [(2, _), (3, _), (4, _), (5, _)] ⟨rfl, rfl, rfl, rfl, trivial⟩ ?_
    exact J3 _
  refine WO.U (oPkT rfl rfl) rfl ?_
  refine WO.nil ?_
  refine WC.weak [(2, _), (3, _), (4, _), (5, _), (21, _)] ⟨rfl, rfl, rfl, rfl, rfl, trivial⟩ ?_
  refine WC.cT rfl ?_
  refine WC.assoc ?_
  have hia := ia_small (ik_eq.1 h16)
  have hiw := ia_small (ik_eq.1 h20)
  have sv := ik_eq.1 h16
  have b1 : (v.tdiv w).natAbs ≤ v.natAbs := by rw [Int.natAbs_tdiv]; exact Nat.div_le_self _ _
  have b2 : (v.tmod w).natAbs ≤ v.natAbs := by rw [Int.natAbs_tmod]; exact Nat.mod_le _ _
  unfold small at sv
  refine WC.draw (z := 14) rfl (by kernel_rfl) ?_
  refine WD.U (oFaP rfl rfl rfl rfl rfl) rfl ?_
  refine WD.U (OP.castI (b := v) (oLdP rfl rfl rfl rfl rfl) hia) rfl ?_
  refine WD.U (oFaP rfl rfl rfl rfl rfl) rfl ?_
  refine WD.U (OP.castI (b := w) (oLdP rfl rfl rfl rfl rfl) hiw) rfl ?_
  refine WD.U (oQuo64 rfl rfl hw0 (by omega)) rfl ?_
  refine WD.U (oBd (cs := [_, _]) rfl rfl rfl rfl rfl) rfl ?_
  refine WD.U (oFaP rfl rfl rfl rfl rfl) rfl ?_
  refine WD.U (OP.castI (b := v) (oLdP rfl rfl rfl rfl rfl) hia) rfl ?_
  refine WD.U (oFaP rfl rfl rfl rfl rfl) rfl ?_
  refine WD.U (OP.castI (b := w) (oLdP rfl rfl rfl rfl rfl) hiw) rfl ?_
  refine WD.U (oRem rfl rfl hw0) rfl ?_
  refine WD.U (oBd (cs := [_, _]) rfl rfl rfl rfl rfl) rfl ?_
  refine WD.S0 (oSt (cs' := [_, _]) rfl rfl rfl rfl rfl rfl rfl rfl) ?_
  refine WD.S0 (oSt (cs' := [_, _]) rfl rfl rfl rfl rfl rfl rfl rfl) ?_
  refine WD.nil (drawOk_of (by kernel_rfl)) rfl ?_
  refine WC.weak [(4, _), (5, _)] ⟨rfl, rfl, trivial⟩ ?_
  refine WC.rets ?_
  refine post (n := 0) (.inr rfl) rfl ?_ (by simp)
  rw [lvI_small (v := v.tdiv w) (by unfold small; omega), lvI_small (v := v.tmod w) (by unfold small; omega)]; rfl
theorem gcd_run (v w : Int) (hv : len32 v < 549755813888) (hw : len32 w < 549755813888) : Run Tryz.prog T E0 (.call 109 [lvI v, lvI w] (lvI (v.gcd w : Nat))) := by
  refine mkcall Tryz.func109 rfl rfl (Nat.le_of_ble_eq_true rfl) ?_
  refine WC.weak [(0, _), (1, _)] ⟨rfl, rfl, trivial⟩ ?_
  refine WC.reg (z := 3) rfl ?_
  refine WO.S (oBx rfl rfl) rfl ?_
  refine WO.S (oBx rfl rfl) rfl ?_
  refine WO.S (oAl rfl) rfl ?_
  refine WO.nil ?_
  refine WC.weak [(2, _), (3, _), (4, _)] ⟨rfl, rfl, rfl, trivial⟩ ?_
  refine WC.draw (z := 6) rfl (by kernel_rfl) ?_
  refine WD.U (oLdP (l := .agg [_, _]) rfl rfl rfl rfl rfl) rfl ?_
  refine WD.U (oCall rfl (abs_run _) (by simp)) rfl ?_
  refine WD.U (oLdP (l := .agg [_, _]) rfl rfl rfl rfl rfl) rfl ?_
  refine WD.U (oCall rfl (abs_run _) (by simp)) rfl ?_
  refine WD.S0 (oSt (cs' := [_, _]) rfl rfl rfl rfl rfl rfl rfl rfl) ?_
  refine WD.S0 (oSt (cs' := [_, _]) rfl rfl rfl rfl rfl rfl rfl rfl) ?_
  refine WD.nil (drawOk_of (by kernel_rfl)) rfl ?_
  refine WC.weak [(2, _), (3, _), (4, _)] ⟨rfl, rfl, rfl, trivial⟩ ?_
  refine WC.block ?_
  refine WC.loopV (α := Nat × Nat) (fun ⟨a, b⟩ => [(2, .ptr 0 0), (3, .ptr 1 0), (4, .ptr 2 0)]) (fun ⟨a, b⟩ => [(0, { cells := (lvI (a : Int)).cells, sz := 2, elem := 75, st := 0 }), (1, { cells := (lvI (b : Int)).cells, sz := 2, elem := 75, st := 0 }), (2, { cells := [.v (.int .i64 0), .sl 0 []], sz := 2, elem := 75, st := 0 })]) (fun ⟨a, b⟩ n => Nat.gcd a b = v.gcd w ∧ len32 (a : Int) < 549755813888 ∧ len32 (b : Int) < 549755813888 ∧ 3 ≤ n) (fun ⟨a, b⟩ => b) (v.natAbs, w.natAbs) ⟨rfl, rfl, rfl, trivial⟩ ⟨rfl, rfl, rfl, trivial⟩ ⟨rfl, by rw [len32_nat]; exact hv, by rw [len32_nat]; exact hw, by omega⟩ ?_
  rintro ⟨a, b⟩ n hF
  change WC _ _ _ _ _ [(2, .ptr 0 0), (3, .ptr 1 0), (4, .ptr 2 0)] ([(0, { cells := (lvI (a : Int)).cells, sz := 2, elem := 75, st := 0 }), (1, { cells := (lvI (b : Int)).cells, sz := 2, elem := 75, st := 0 }), (2, { cells := [.v (.int .i64 0), .sl 0 []], sz := 2, elem := 75, st := 0 })]) n _
  obtain ⟨hg, hla, hlb, hn3⟩ := hF
  refine WC.assoc ?_
  refine WC.reg (z := 3) rfl ?_
  refine WO.U (oLdP (l := .agg [_, _]) rfl rfl rfl rfl rfl) rfl ?_
  refine WO.U (oCall rfl (sign_run _) (by simp)) rfl ?_
  refine WO.U (oNeq rfl rfl) rfl ?_
  refine WO.D (fun h13 => ?_) (fun h13 => ?_)
  rotate_left
  · refine WO.nil ?_
    refine WC.weak [(2, _), (3, _), (4, _), (13, _)] ⟨rfl, rfl, rfl, rfl, trivial⟩ ?_
    refine WC.cF rfl ?_
    refine WC.exits ?_
    refine loopR_exit ?_
    refine after_exit rfl ?_
    refine WC.weak [(2, _), (4, _)] ⟨rfl, rfl, trivial⟩ ?_
    refine WC.reg (z := 2) rfl ?_
    refine WO.U (oLdP (l := .agg [_, _]) rfl rfl rfl rfl rfl) rfl ?_
    refine WO.S0 (oSt (cs' := [_, _]) rfl rfl rfl rfl rfl rfl rfl rfl) ?_
    refine WO.nil ?_
    refine WC.weak [(4, _)] ⟨rfl, trivial⟩ ?_
    refine WC.ret ?_
    refine post (n := 0) (.inr rfl) rfl ?_ (by simp)
    have hb0 : b = 0 := by
      have := Int.sign_eq_zero_iff_zero (a := (b : Int)); omega
    subst hb0
    rw [Nat.gcd_zero_right] at hg
    rw [← hg]; rfl
  refine WO.nil ?_
  refine WC.weak [(2, _), (3, _), (4, _), (13, _)] ⟨rfl, rfl, rfl, rfl, trivial⟩ ?_
  refine WC.cT rfl ?_
  refine WC.skips ?_
  refine WC.block1 ?_
  have hb0 : 0 < b := by
    rcases Nat.eq_zero_or_pos b with h | h
    · subst h; simp at h13
    · exact h
  have hm : (a : Int).tmod b = ((a % b : Nat) : Int) := by rw [Int.tmod_eq_emod_of_nonneg (by omega)]; simp
  have hlm : len32 ((a % b : Nat) : Int) < 549755813888 := by rw [← hm]; have := len32_tmod (a : Int) (b : Int); omega
  refine WC.reg (z := 10) rfl ?_
  refine WO.U (oLdP (l := .agg [_, _]) rfl rfl rfl rfl rfl) rfl ?_
  refine WO.U (oLdP (l := .agg [_, _]) rfl rfl rfl rfl rfl) rfl ?_
  refine WO.U (oCall rfl (quo_run (a : Int) (b : Int) (by omega) hla hlb) (by simp)) rfl ?_
  refine WO.U (oMv rfl) rfl ?_
  refine WO.U (oEx rfl rfl) rfl ?_
  refine WO.U (OP.cast (b := lvI ((a % b : Nat) : Int)) (oEx rfl rfl) (by rw [hm])) rfl ?_
  refine WO.S (oAl rfl) rfl ?_
  refine WO.S (oAl rfl) rfl ?_
  refine WO.S0 (oSt (cs' := [_, _]) rfl rfl rfl (g1 (by omega) g0) rfl rfl rfl rfl) ?_
  refine WO.S0 (oSt (cs' := [_, _]) rfl rfl rfl (g1 (by omega) g0) rfl rfl rfl rfl) ?_
  refine WO.nil ?_
  refine WC.weak [(2, _), (3, _), (4, _), (6, _)] ⟨rfl, rfl, rfl, rfl, trivial⟩ ?_
  refine WC.draw1z (z := 4) rfl (by kernel_rfl) ?_
  refine WD.U (oLdP (l := .agg [_, _]) rfl rfl (g1 (by omega) (g1 (by omega) (g1 (by omega) (g1 (by omega) (g1 (by decide) g0))))) rfl rfl) rfl ?_
  refine WD.U (oLdP (l := .agg [_, _]) rfl rfl g0 rfl rfl) rfl ?_
  refine WD.S0 (oSt (cs' := [_, _]) rfl rfl rfl (g1 (by omega) (g1 (by omega) (g1 (by omega) (g1 (by omega) g0)))) rfl rfl rfl rfl) ?_
  refine WD.S0 (oSt (cs' := [_, _]) rfl rfl rfl (g1 (by decide) (g1 (by omega) (g1 (by omega) (g1 (by omega) (g1 (by omega) (g1 (by decide) g0)))))) rfl rfl rfl rfl) ?_
  refine WD.nil (drawOk_of (by kernel_rfl)) rfl ?_
  refine after0_normal ?_
  refine loopR_normal ?_
  refine ⟨⟨b, a % b⟩, ⟨rfl, rfl, rfl, trivial⟩, ⟨g1 (by decide) g0, g0, g1 (by decide) (g1 (by decide) (g1 (by omega) (g1 (by omega) (g1 (by omega) (g1 (by omega) (g1 (by decide) (g1 (by decide) g0))))))), trivial⟩, ⟨by rw [← hg, Nat.gcd_comm b, ← Nat.gcd_rec b a, Nat.gcd_comm], hlb, hlm, by omega⟩, Nat.mod_lt _ hb0⟩
theorem ratio_run (v w : Int) (hw0 : w ≠ 0) (hv : len32 v < 549755813888) (hw : len32 w < 549755813888) : Run Tryz.prog T E0 (.call 112 [lvI v, lvI w] (lvX (Rat.divInt v w, false))) := by
  have hgp : 0 < v.gcd w := Int.gcd_pos_of_ne_zero_right _ hw0
  obtain ⟨hL1, hL2⟩ := ratio_law (a := v) hw0
  have hlg : len32 ((v.gcd w : Nat) : Int) < 549755813888 := by
    have h1 : v.gcd w ≤ w.natAbs := Nat.le_of_dvd (by omega) (Nat.gcd_dvd_right _ _)
    have := len32_mono (v := ((v.gcd w : Nat) : Int)) (w := w) (by simpa using h1)
    omega
  obtain ⟨g, hg⟩ : ∃ g : Int, g = (v.gcd w : Nat) := ⟨_, rfl⟩
  rw [← hg] at hL1 hL2 hlg
  refine mkcall Tryz.func112 rfl rfl (Nat.le_of_ble_eq_true rfl) ?_
  have J5 : ∀ (a b : Int) (ha : a = v.tdiv g) (hb : b = w.tdiv g) (n : Nat) , WC Tryz.prog T E0 Tryz.f112.ntmps (codeR (codeR (codeOf Tryz.f112))) [(2, .ptr 0 0), (3, .ptr 1 0), (4, .ptr 2 0)] [(0, { cells := (lvI a).cells, sz := 2, elem := 75, st := 0 }), (1, { cells := (lvI b).cells, sz := 2, elem := 75, st := 0 }), (2, { cells := [.v (.int .i64 0), .sl 0 [], .v (.int .i64 0), .sl 0 []], sz := 4, elem := 77, st := 0 })] n (Post T Tryz.f112.results.toList (lvX (Rat.divInt v w, false))) := by
    intro a b ha hb n
    subst ha hb
    refine WC.assoc ?_
    refine WC.reg (z := 3) rfl ?_
    refine WO.U (oLdP (l := .agg [_, _]) rfl rfl rfl rfl rfl) rfl ?_
    refine WO.U (oCall rfl (sign_run _) (by simp)) rfl ?_
    refine WO.U (oLss rfl rfl) rfl ?_
    refine WO.D (fun h31 => ?_) (fun h31 => ?_)
    rotate_left
    · refine WO.nil ?_
      refine WC.weak [(2, _), (3, _), (4, _), (31, _)] ⟨rfl, rfl, rfl, rfl, trivial⟩ ?_
      refine WC.cF rfl ?_
      refine WC.skips ?_
      refine WC.reg (z := 4) rfl ?_
      refine WO.U (oLdP (l := .agg [_, _]) rfl rfl rfl rfl rfl) rfl ?_
      refine WO.U (oLdP (l := .agg [_, _]) rfl rfl rfl rfl rfl) rfl ?_
      refine WO.U (oBd (cs := [_, _, _, _]) rfl rfl rfl rfl rfl) rfl ?_
      refine WO.S0 (oSt (cs' := [_, _, _, _]) rfl rfl rfl rfl rfl rfl rfl rfl) ?_
      refine WO.nil ?_
      refine WC.weak [(4, _)] ⟨rfl, trivial⟩ ?_
      refine WC.ret ?_
      refine post (n := 0) (.inr rfl) rfl ?_ (by simp)
      obtain ⟨h1, h2⟩ := hL2 (by have := @Int.sign_neg_iff (w.tdiv g); omega)
      rw [lvX_f, ← h1, ← h2]; rfl
    refine WO.nil ?_
    refine WC.weak [(2, _), (3, _), (4, _), (31, _)] ⟨rfl, rfl, rfl, rfl, trivial⟩ ?_
    refine WC.cT rfl ?_
    refine WC.draw (z := 6) rfl (by kernel_rfl) ?_
    refine WD.U (oLdP (l := .agg [_, _]) rfl rfl rfl rfl rfl) rfl ?_
    refine WD.U (oCall rfl (neg_run _) (by simp)) rfl ?_
    refine WD.U (oLdP (l := .agg [_, _]) rfl rfl rfl rfl rfl) rfl ?_
    refine WD.U (oCall rfl (neg_run _) (by simp)) rfl ?_
    refine WD.S0 (oSt (cs' := [_, _]) rfl rfl rfl rfl rfl rfl rfl rfl) ?_
    refine WD.S0 (oSt (cs' := [_, _]) rfl rfl rfl rfl rfl rfl rfl rfl) ?_
    refine WD.nil (drawOk_of (by kernel_rfl)) rfl ?_
    refine WC.weak [(2, _), (3, _), (4, _)] ⟨rfl, rfl, rfl, trivial⟩ ?_
    refine WC.reg (z := 4) rfl ?_
    refine WO.U (oLdP (l := .agg [_, _]) rfl rfl rfl rfl rfl) rfl ?_
    refine WO.U (oLdP (l := .agg [_, _]) rfl rfl rfl rfl rfl) rfl ?_
    refine WO.U (oBd (cs := [_, _, _, _]) rfl rfl rfl rfl rfl) rfl ?_
    refine WO.S0 (oSt (cs' := [_, _, _, _]) rfl rfl rfl rfl rfl rfl rfl rfl) ?_
    refine WO.nil ?_
    refine WC.weak [(4, _)] ⟨rfl, trivial⟩ ?_
    refine WC.ret ?_
    refine post (n := 0) (.inr rfl) rfl ?_ (by simp)
    obtain ⟨h1, h2⟩ := hL1 (Int.sign_neg_iff.1 h31)
    rw [lvX_f, ← h1, ← h2]; rfl
  refine WC.weak [(0, _), (1, _)] ⟨rfl, rfl, trivial⟩ ?_
  refine WC.reg (z := 3) rfl ?_
  refine WO.S (oBx rfl rfl) rfl ?_
  refine WO.S (oBx rfl rfl) rfl ?_
  refine WO.S (oAl rfl) rfl ?_
  refine WO.nil ?_
  refine WC.weak [(2, _), (3, _), (4, _)] ⟨rfl, rfl, rfl, trivial⟩ ?_
  refine WC.assoc ?_
  refine WC.reg (z := 5) rfl ?_
  refine WO.U (oLdP (l := .agg [_, _]) rfl rfl rfl rfl rfl) rfl ?_
  refine WO.U (oLdP (l := .agg [_, _]) rfl rfl rfl rfl rfl) rfl ?_
  refine WO.U (oCall rfl (hg ▸ gcd_run v w hv hw) (by simp)) rfl ?_
  refine WO.S (oAl rfl) rfl ?_
  refine WO.S0 (oSt (cs' := [_, _]) rfl rfl rfl rfl rfl rfl rfl rfl) ?_
  refine WO.nil ?_
  refine WC.weak [(2, _), (3, _), (4, _), (5, _)] ⟨rfl, rfl, rfl, rfl, trivial⟩ ?_
  refine WC.assoc ?_
  refine WC.reg (z := 8) rfl ?_
  refine WO.U (oFaP rfl rfl rfl rfl rfl) rfl ?_
  refine WO.U (oLdP rfl rfl rfl rfl rfl) rfl ?_
  refine WO.U (oNeq rfl rfl) rfl ?_
  refine WO.D (fun h11 => ?_) (fun h11 => ?_)
  · refine WO.U (oMv rfl) rfl ?_
    refine WO.K rfl rfl ?_
    refine WO.K rfl rfl ?_
    refine WO.K rfl rfl ?_
    refine WO.U (oPkT rfl rfl) rfl ?_
    refine WO.nil ?_
    refine WC.weak [(2, _), (3, _), (4, _), (5, _), (16, _)] ⟨rfl, rfl, rfl, rfl, rfl, trivial⟩ ?_
    refine WC.cT rfl ?_
    refine WC.assoc ?_
    refine WC.reg (z := 7) rfl ?_
    refine WO.U (oLdP (l := .agg [_, _]) rfl rfl rfl rfl rfl) rfl ?_
    refine WO.U (oLdP (l := .agg [_, _]) rfl rfl rfl rfl rfl) rfl ?_
    refine WO.U (oCall rfl (quo_run v g (by omega) hv hlg) (by simp)) rfl ?_
    refine WO.U (oMv rfl) rfl ?_
    refine WO.U (oEx rfl rfl) rfl ?_
    refine WO.U (oEx rfl rfl) rfl ?_
    refine WO.S0 (oSt (cs' := [_, _]) rfl rfl rfl rfl rfl rfl rfl rfl) ?_
    refine WO.nil ?_
    refine WC.weak [(2, _), (3, _), (4, _), (5, _)] ⟨rfl, rfl, rfl, rfl, trivial⟩ ?_
    refine WC.reg (z := 7) rfl ?_
    refine WO.U (oLdP (l := .agg [_, _]) rfl rfl rfl rfl rfl) rfl ?_
    refine WO.U (oLdP (l := .agg [_, _]) rfl rfl rfl rfl rfl) rfl ?_
    refine WO.U (oCall rfl (quo_run w g (by omega) hw hlg) (by simp)) rfl ?_
    refine WO.U (oMv rfl) rfl ?_
    refine WO.U (oEx rfl rfl) rfl ?_
    refine WO.U (oEx rfl rfl) rfl ?_
    refine WO.S0 (oSt (cs' := [_, _]) rfl rfl rfl rfl rfl rfl rfl rfl) ?_
    refine WO.nil ?_
    refine WC.weak [(2, _), (3, _), (4, _)] ⟨rfl, rfl, rfl, trivial⟩ ?_
    refine WC.weak [(2, _), (3, _), (4, _)] ⟨rfl, rfl, rfl, trivial⟩ ?_
    refine WC.weakM _ ?_ (J5 _ _ rfl rfl _)
    exact ⟨rfl, rfl, rfl, trivial⟩
  refine WO.U (oMv rfl) rfl ?_
  refine WO.Ug rfl (oFaP rfl rfl rfl rfl rfl) rfl ?_
  refine WO.Ug rfl (oLdP rfl rfl rfl rfl rfl) rfl ?_
  refine WO.Ug rfl (oNilN rfl rfl) rfl ?_
  refine WO.B (fun h15 => ?_) (fun h15 => ?_)
  rotate_left
  · refine WO.U (oPkF rfl rfl) rfl ?_
    refine WO.nil ?_
    refine WC.weak [(2, _), (3, _), (4, _), (5, _), (16, _)] ⟨rfl, rfl, rfl, rfl, rfl, trivial⟩ ?_
    refine WC.cF rfl ?_
    refine WC.skips ?_
    refine WC.weak [(2, _), (3, _), (4, _)] ⟨rfl, rfl, rfl, trivial⟩ ?_
    have h1 : g = 1 := by
      have := ia_small (ik_ne'.1 h15); omega
    have e1 : v = v.tdiv g := by rw [h1]; simp
    have e2 : w = w.tdiv g := by rw [h1]; simp
    refine WC.weakM _ ?_ (J5 _ _ e1 e2 _)
    exact ⟨rfl, rfl, rfl, trivial⟩
  refine WO.U (oPkF rfl rfl) rfl ?_
  refine WO.nil ?_
  refine WC.weak [(2, _), (3, _), (4, _), (5, _), (16, _)] ⟨rfl, rfl, rfl, rfl, rfl, trivial⟩ ?_
  refine WC.cT rfl ?_
  refine WC.assoc ?_
  refine WC.reg (z := 7) rfl ?_
  refine WO.U (oLdP (l := .agg [_, _]) rfl rfl rfl rfl rfl) rfl ?_
  refine WO.U (oLdP (l := .agg [_, _]) rfl rfl rfl rfl rfl) rfl ?_
  refine WO.U (oCall rfl (quo_run v g (by omega) hv hlg) (by simp)) rfl ?_
  refine WO.U (oMv rfl) rfl ?_
  refine WO.U (oEx rfl rfl) rfl ?_
  refine WO.U (oEx rfl rfl) rfl ?_
  refine WO.S0 (oSt (cs' := [_, _]) rfl rfl rfl rfl rfl rfl rfl rfl) ?_
  refine WO.nil ?_
  refine WC.weak [(2, _), (3, _), (4, _), (5, _)] ⟨rfl, rfl, rfl, rfl, trivial⟩ ?_
  refine WC.reg (z := 7) rfl ?_
  refine WO.U (oLdP (l := .agg [_, _]) rfl rfl rfl rfl rfl) rfl ?_
  refine WO.U (oLdP (l := .agg [_, _]) rfl rfl rfl rfl rfl) rfl ?_
  refine WO.U (oCall rfl (quo_run w g (by omega) hw hlg) (by simp)) rfl ?_
  refine WO.U (oMv rfl) rfl ?_
  refine WO.U (oEx rfl rfl) rfl ?_
  refine WO.U (oEx rfl rfl) rfl ?_
  refine WO.S0 (oSt (cs' := [_, _]) rfl rfl rfl rfl rfl rfl rfl rfl) ?_
  refine WO.nil ?_
  refine WC.weak [(2, _), (3, _), (4, _)] ⟨rfl, rfl, rfl, trivial⟩ ?_
  refine WC.weak [(2, _), (3, _), (4, _)] ⟨rfl, rfl, rfl, trivial⟩ ?_
  refine WC.weakM _ ?_ (J5 _ _ rfl rfl _)
  exact ⟨rfl, rfl, rfl, trivial⟩
theorem isw_run (x : X) : Run Tryz.prog T E0 (.call 118 [lvX x] (.v (.bool (xw x)))) := by
  refine mkcall Tryz.func118 rfl rfl (Nat.le_of_ble_eq_true rfl) ?_
  refine WC.weak [(0, _)] ⟨rfl, trivial⟩ ?_
  refine WC.reg (z := 2) rfl ?_
  refine WO.S (oBx rfl rfl) rfl ?_
  refine WO.U (oAs rfl) rfl ?_
  refine WO.nil ?_
  refine WC.weak [(1, _)] ⟨rfl, trivial⟩ ?_
  refine WC.reg (z := 11) rfl ?_
  refine WO.U (oFaP rfl rfl rfl rfl rfl) rfl ?_
  refine WO.U (oFaP rfl rfl rfl rfl rfl) rfl ?_
  refine WO.U (oLdP rfl rfl rfl rfl rfl) rfl ?_
  refine WO.U (oNilE rfl rfl) rfl ?_
  refine WO.B (fun h6 => ?_) (fun h6 => ?_)
  · refine WO.U (oMv rfl) rfl ?_
    refine WO.Ug rfl (oFaP rfl rfl rfl rfl rfl) rfl ?_
    refine WO.Ug rfl (oFaP rfl rfl rfl rfl rfl) rfl ?_
    refine WO.Ug rfl (oLdP rfl rfl rfl rfl rfl) rfl ?_
    refine WO.Ug rfl (oLeq rfl rfl) rfl ?_
    refine WO.U (oPkT rfl rfl) rfl ?_
    refine WO.U (oAs rfl) rfl ?_
    refine WO.nil ?_
    refine WC.weak [(2, _)] ⟨rfl, trivial⟩ ?_
    refine WC.ret ?_
    refine post (n := 0) (.inr rfl) rfl ?_ (by simp)
    have h1 : decide (ia (xlow x) ≤ 1) = xw x := by
      rw [ia_small (ik_eq.1 h6)]; exact decide_eq_decide.2 (xlow_one x)
    exact congrArg (fun z => LV.v (.bool z)) h1
  refine WO.U (oMv rfl) rfl ?_
  refine WO.K rfl rfl ?_
  refine WO.K rfl rfl ?_
  refine WO.K rfl rfl ?_
  refine WO.K rfl rfl ?_
  refine WO.U (oPkF rfl rfl) rfl ?_
  refine WO.U (oAs rfl) rfl ?_
  refine WO.nil ?_
  refine WC.weak [(2, _)] ⟨rfl, trivial⟩ ?_
  refine WC.ret ?_
  refine post (n := 0) (.inr rfl) rfl ?_ (by simp)
  have h1 : false = xw x := by
    have h2 := ik_ne.1 h6
    have h3 := xlow_one x
    have h4 : ¬ x.1.den = 1 := fun k => h2 (by have := h3.2 k; have := xlow_nonneg x; unfold small; omega)
    unfold xw; rw [decide_eq_false h4]
  exact congrArg (fun z => LV.v (.bool z)) h1
theorem low_run (x : X) : Run Tryz.prog T E0 (.call 94 [lvX x] (lvI (x.1.den : Int))) := by
  refine mkcall Tryz.func94 rfl rfl (Nat.le_of_ble_eq_true rfl) ?_
  refine WC.weak [(0, _)] ⟨rfl, trivial⟩ ?_
  refine WC.reg (z := 2) rfl ?_
  refine WO.S (oBx rfl rfl) rfl ?_
  refine WO.S (oAl rfl) rfl ?_
  refine WO.nil ?_
  refine WC.weak [(1, _), (2, _)] ⟨rfl, rfl, trivial⟩ ?_
  refine WC.assoc ?_
  refine WC.reg (z := 4) rfl ?_
  refine WO.U (oFaP rfl rfl rfl rfl rfl) rfl ?_
  refine WO.U (oLdP (l := .agg [_, _]) rfl rfl rfl rfl rfl) rfl ?_
  refine WO.U (oCall rfl (sign_run _) (by simp)) rfl ?_
  refine WO.U (oEql rfl rfl) rfl ?_
  refine WO.D (fun h6 => ?_) (fun h6 => ?_)
  · refine WO.nil ?_
    refine WC.weak [(1, _), (2, _), (6, _)] ⟨rfl, rfl, rfl, trivial⟩ ?_
    refine WC.cT rfl ?_
    refine WC.assoc ?_
    refine WC.reg (z := 2) rfl ?_
    refine WO.U (oCall rfl (one_run) (by simp)) rfl ?_
    refine WO.S0 (oSt (cs' := [_, _]) rfl rfl rfl rfl rfl rfl rfl rfl) ?_
    refine WO.nil ?_
    refine WC.weak [(2, _)] ⟨rfl, trivial⟩ ?_
    refine WC.rets ?_
    refine post (n := 0) (.inr rfl) rfl ?_ (by simp)
    rw [xlow_zero (Int.sign_eq_zero_iff_zero.1 h6)]; rfl
  refine WO.nil ?_
  refine WC.weak [(1, _), (2, _), (6, _)] ⟨rfl, rfl, rfl, trivial⟩ ?_
  refine WC.cF rfl ?_
  refine WC.skips ?_
  refine WC.reg (z := 3) rfl ?_
  refine WO.U (oFaP rfl rfl rfl rfl rfl) rfl ?_
  refine WO.U (oLdP (l := .agg [_, _]) rfl rfl rfl rfl rfl) rfl ?_
  refine WO.S0 (oSt (cs' := [_, _]) rfl rfl rfl rfl rfl rfl rfl rfl) ?_
  refine WO.nil ?_
  refine WC.weak [(2, _)] ⟨rfl, trivial⟩ ?_
  refine WC.ret ?_
  refine post (n := 0) (.inr rfl) rfl ?_ (by simp)
  rw [← xlow_ne (fun k => h6 (by rw [k]; rfl))]; rfl
theorem top_run (x : X) : Run Tryz.prog T E0 (.call 92 [lvX x] (lvI x.1.num)) := by
  refine mkcall Tryz.func92 rfl rfl (Nat.le_of_ble_eq_true rfl) ?_
  refine WC.weak [(0, _)] ⟨rfl, trivial⟩ ?_
  refine WC.reg (z := 2) rfl ?_
  refine WO.S (oBx rfl rfl) rfl ?_
  refine WO.S (oAl rfl) rfl ?_
  refine WO.nil ?_
  refine WC.weak [(1, _), (2, _)] ⟨rfl, rfl, trivial⟩ ?_
  refine WC.reg (z := 3) rfl ?_
  refine WO.U (oFaP rfl rfl rfl rfl rfl) rfl ?_
  refine WO.U (oLdP (l := .agg [_, _]) rfl rfl rfl rfl rfl) rfl ?_
  refine WO.S0 (oSt (cs' := [_, _]) rfl rfl rfl rfl rfl rfl rfl rfl) ?_
  refine WO.nil ?_
  refine WC.weak [(2, _)] ⟨rfl, trivial⟩ ?_
  refine WC.ret ?_
  refine post (n := 0) (.inr rfl) rfl ?_ (by simp)
  rfl
theorem rsign_run (x : X) : Run Tryz.prog T E0 (.call 77 [lvX x] (.v (.int .i64 x.1.num.sign))) := by
  refine mkcall Tryz.func77 rfl rfl (Nat.le_of_ble_eq_true rfl) ?_
  refine WC.weak [(0, _)] ⟨rfl, trivial⟩ ?_
  refine WC.reg (z := 2) rfl ?_
  refine WO.S (oBx rfl rfl) rfl ?_
  refine WO.U (oAs rfl) rfl ?_
  refine WO.nil ?_
  refine WC.weak [(1, _)] ⟨rfl, trivial⟩ ?_
  refine WC.reg (z := 4) rfl ?_
  refine WO.U (oFaP rfl rfl rfl rfl rfl) rfl ?_
  refine WO.U (oLdP (l := .agg [_, _]) rfl rfl rfl rfl rfl) rfl ?_
  refine WO.U (oCall rfl (sign_run x.1.num) (by simp)) rfl ?_
  refine WO.U (oAs rfl) rfl ?_
  refine WO.nil ?_
  refine WC.weak [(2, _)] ⟨rfl, trivial⟩ ?_
  refine WC.ret ?_
  exact post (n := 0) (.inr rfl) rfl rfl (by simp)
theorem rneg_run (x : X) : Run Tryz.prog T E0 (.call 86 [lvX x] (lvX (xneg x))) := by
  refine mkcall Tryz.func86 rfl rfl (Nat.le_of_ble_eq_true rfl) ?_
  refine WC.weak [(0, _)] ⟨rfl, trivial⟩ ?_
  refine WC.reg (z := 2) rfl ?_
  refine WO.S (oBx rfl rfl) rfl ?_
  refine WO.S (oAl rfl) rfl ?_
  refine WO.nil ?_
  refine WC.weak [(1, _), (2, _)] ⟨rfl, rfl, trivial⟩ ?_
  refine WC.draw (z := 7) rfl (by kernel_rfl) ?_
  refine WD.U (oFaP rfl rfl rfl rfl rfl) rfl ?_
  refine WD.U (oLdP (l := .agg [_, _]) rfl rfl rfl rfl rfl) rfl ?_
  refine WD.U (oCall rfl (neg_run x.1.num) (by simp)) rfl ?_
  refine WD.U (oFaP rfl rfl rfl rfl rfl) rfl ?_
  refine WD.U (oLdP (l := .agg [_, _]) rfl rfl rfl rfl rfl) rfl ?_
  refine WD.U (oBd (cs := [_, _, _, _]) rfl rfl rfl rfl rfl) rfl ?_
  refine WD.S0 (oSt (cs' := [_, _, _, _]) rfl rfl rfl rfl rfl rfl rfl rfl) ?_
  refine WD.nil (drawOk_of (by kernel_rfl)) rfl ?_
  refine WC.weak [(2, _)] ⟨rfl, trivial⟩ ?_
  refine WC.ret ?_
  refine post (n := 0) (.inr rfl) rfl ?_ (by simp)
  rw [lvX_neg]; rfl
theorem whole_run (v : Int) (hv : I64 v) : Run Tryz.prog T E0 (.call 85 [.v (.int .i64 v)] (lvX (xint v))) := by
  unfold I64 at hv
  refine mkcall Tryz.func85 rfl rfl (Nat.le_of_ble_eq_true rfl) ?_
  refine WC.weak [(0, _)] ⟨rfl, trivial⟩ ?_
  refine WC.reg (z := 1) rfl ?_
  refine WO.S (oAl rfl) rfl ?_
  refine WO.nil ?_
  refine WC.weak [(0, _), (2, _)] ⟨rfl, rfl, trivial⟩ ?_
  refine WC.reg (z := 4) rfl ?_
  refine WO.U (oMv rfl) rfl ?_
  refine WO.U (oCall rfl (of_run _ (by omega)) (by simp)) rfl ?_
  refine WO.U (oBd (cs := [_, _, _, _]) rfl rfl rfl rfl rfl) rfl ?_
  refine WO.S0 (oSt (cs' := [_, _, _, _]) rfl rfl rfl rfl rfl rfl rfl rfl) ?_
  refine WO.nil ?_
  refine WC.weak [(2, _)] ⟨rfl, trivial⟩ ?_
  refine WC.ret ?_
  refine post (n := 0) (.inr rfl) rfl ?_ (by simp)
  rw [lvX_int]; rfl
theorem radd_run (x y : X) (hx : Bd 68719476736 x.1) (hy : Bd 68719476736 y.1) : Run Tryz.prog T E0 (.call 98 [lvX x, lvX y] (lvX (xadd x y))) := by
  obtain ⟨hx1, hx2⟩ := hx
  obtain ⟨hy1, hy2⟩ := hy
  have m1 := len32_mul x.1.num y.1.den
  have m2 := len32_mul y.1.num x.1.den
  have m3 := len32_add (x.1.num * y.1.den) (y.1.num * x.1.den)
  have m4 := len32_mul x.1.den y.1.den
  refine mkcall Tryz.func98 rfl rfl (Nat.le_of_ble_eq_true rfl) ?_
  refine WC.weak [(0, _), (1, _)] ⟨rfl, rfl, trivial⟩ ?_
  refine WC.reg (z := 3) rfl ?_
  refine WO.S (oBx rfl rfl) rfl ?_
  refine WO.S (oBx rfl rfl) rfl ?_
  refine WO.S (oAl rfl) rfl ?_
  refine WO.nil ?_
  refine WC.weak [(2, _), (3, _), (4, _)] ⟨rfl, rfl, rfl, trivial⟩ ?_
  refine WC.assoc ?_
  refine WC.reg (z := 6) rfl ?_
  refine WO.U (oLdP (l := .agg [_, _, _, _]) rfl rfl rfl rfl rfl) rfl ?_
  refine WO.U (oCall rfl (isw_run x) (by simp)) rfl ?_
  refine WO.B (fun h6 => ?_) (fun h6 => ?_)
  rotate_left
  · refine WO.U (oMv rfl) rfl ?_
    refine WO.K rfl rfl ?_
    refine WO.K rfl rfl ?_
    refine WO.U (oPkF rfl rfl) rfl ?_
    refine WO.nil ?_
    refine WC.weak [(2, _), (3, _), (4, _), (10, _)] ⟨rfl, rfl, rfl, rfl, trivial⟩ ?_
    refine WC.cF rfl ?_
    refine WC.skips ?_
    refine WC.draw (z := 18) rfl (by kernel_rfl) ?_
    refine WD.U (oFaP rfl rfl rfl rfl rfl) rfl ?_
    refine WD.U (oLdP (l := .agg [_, _]) rfl rfl rfl rfl rfl) rfl ?_
    refine WD.U (oLdP (l := .agg [_, _, _, _]) rfl rfl rfl rfl rfl) rfl ?_
    refine WD.U (oCall rfl (low_run y) (by simp)) rfl ?_
    refine WD.U (oCall rfl (mul_run x.1.num y.1.den (by omega) (by omega)) (by simp)) rfl ?_
    refine WD.U (oFaP rfl rfl rfl rfl rfl) rfl ?_
    refine WD.U (oLdP (l := .agg [_, _]) rfl rfl rfl rfl rfl) rfl ?_
    refine WD.U (oLdP (l := .agg [_, _, _, _]) rfl rfl rfl rfl rfl) rfl ?_
    refine WD.U (oCall rfl (low_run x) (by simp)) rfl ?_
    refine WD.U (oCall rfl (mul_run y.1.num x.1.den (by omega) (by omega)) (by simp)) rfl ?_
    refine WD.U (oCall rfl (add_run (x.1.num * y.1.den) (y.1.num * x.1.den) (by omega) (by omega)) (by simp)) rfl ?_
    refine WD.U (oLdP (l := .agg [_, _, _, _]) rfl rfl rfl rfl rfl) rfl ?_
    refine WD.U (oCall rfl (low_run x) (by simp)) rfl ?_
    refine WD.U (oLdP (l := .agg [_, _, _, _]) rfl rfl rfl rfl rfl) rfl ?_
    refine WD.U (oCall rfl (low_run y) (by simp)) rfl ?_
    refine WD.U (oCall rfl (mul_run x.1.den y.1.den (by omega) (by omega)) (by simp)) rfl ?_
    refine WD.U (oCall rfl (ratio_run (x.1.num * y.1.den + y.1.num * x.1.den) (x.1.den * y.1.den) (Int.mul_ne_zero (den_ne _) (den_ne _)) (by omega) (by omega)) (by simp)) rfl ?_
    refine WD.S0 (oSt (cs' := [_, _, _, _]) rfl rfl rfl rfl rfl rfl rfl rfl) ?_
    refine WD.nil (drawOk_of (by kernel_rfl)) rfl ?_
    refine WC.weak [(4, _)] ⟨rfl, trivial⟩ ?_
    refine WC.ret ?_
    refine post (n := 0) (.inr rfl) rfl ?_ (by simp)
    rw [xadd_f (by rw [h6]; rfl)]; rfl
  refine WO.U (oMv rfl) rfl ?_
  refine WO.Ug rfl (oLdP (l := .agg [_, _, _, _]) rfl rfl rfl rfl rfl) rfl ?_
  refine WO.Ug rfl (oCall rfl (isw_run y) (by simp)) rfl ?_
  refine WO.B (fun h9 => ?_) (fun h9 => ?_)
  · refine WO.U (oPkT rfl rfl) rfl ?_
    refine WO.nil ?_
    refine WC.weak [(2, _), (3, _), (4, _), (10, _)] ⟨rfl, rfl, rfl, rfl, trivial⟩ ?_
    refine WC.cT rfl ?_
    refine WC.assoc ?_
    refine WC.reg (z := 7) rfl ?_
    refine WO.U (oFaP rfl rfl rfl rfl rfl) rfl ?_
    refine WO.U (oLdP (l := .agg [_, _]) rfl rfl rfl rfl rfl) rfl ?_
    refine WO.U (oFaP rfl rfl rfl rfl rfl) rfl ?_
    refine WO.U (oLdP (l := .agg [_, _]) rfl rfl rfl rfl rfl) rfl ?_
    refine WO.U (oCall rfl (add_run x.1.num y.1.num (by omega) (by omega)) (by simp)) rfl ?_
    refine WO.U (oBd (cs := [_, _, _, _]) rfl rfl rfl rfl rfl) rfl ?_
    refine WO.S0 (oSt (cs' := [_, _, _, _]) rfl rfl rfl rfl rfl rfl rfl rfl) ?_
    refine WO.nil ?_
    refine WC.weak [(4, _)] ⟨rfl, trivial⟩ ?_
    refine WC.rets ?_
    refine post (n := 0) (.inr rfl) rfl ?_ (by simp)
    rw [xadd_w h6 h9]; rfl
  refine WO.U (oPkT rfl rfl) rfl ?_
  refine WO.nil ?_
  refine WC.weak [(2, _), (3, _), (4, _), (10, _)] ⟨rfl, rfl, rfl, rfl, trivial⟩ ?_
  refine WC.cF rfl ?_
  refine WC.skips ?_
  refine WC.draw (z := 18) rfl (by kernel_rfl) ?_
  refine WD.U (oFaP rfl rfl rfl rfl rfl) rfl ?_
  refine WD.U (oLdP (l := .agg [_, _]) rfl rfl rfl rfl rfl) rfl ?_
  refine WD.U (oLdP (l := .agg [_, _, _, _]) rfl rfl rfl rfl rfl) rfl ?_
  refine WD.U (oCall rfl (low_run y) (by simp)) rfl ?_
  refine WD.U (oCall rfl (mul_run x.1.num y.1.den (by omega) (by omega)) (by simp)) rfl ?_
  refine WD.U (oFaP rfl rfl rfl rfl rfl) rfl ?_
  refine WD.U (oLdP (l := .agg [_, _]) rfl rfl rfl rfl rfl) rfl ?_
  refine WD.U (oLdP (l := .agg [_, _, _, _]) rfl rfl rfl rfl rfl) rfl ?_
  refine WD.U (oCall rfl (low_run x) (by simp)) rfl ?_
  refine WD.U (oCall rfl (mul_run y.1.num x.1.den (by omega) (by omega)) (by simp)) rfl ?_
  refine WD.U (oCall rfl (add_run (x.1.num * y.1.den) (y.1.num * x.1.den) (by omega) (by omega)) (by simp)) rfl ?_
  refine WD.U (oLdP (l := .agg [_, _, _, _]) rfl rfl rfl rfl rfl) rfl ?_
  refine WD.U (oCall rfl (low_run x) (by simp)) rfl ?_
  refine WD.U (oLdP (l := .agg [_, _, _, _]) rfl rfl rfl rfl rfl) rfl ?_
  refine WD.U (oCall rfl (low_run y) (by simp)) rfl ?_
  refine WD.U (oCall rfl (mul_run x.1.den y.1.den (by omega) (by omega)) (by simp)) rfl ?_
  refine WD.U (oCall rfl (ratio_run (x.1.num * y.1.den + y.1.num * x.1.den) (x.1.den * y.1.den) (Int.mul_ne_zero (den_ne _) (den_ne _)) (by omega) (by omega)) (by simp)) rfl ?_
  refine WD.S0 (oSt (cs' := [_, _, _, _]) rfl rfl rfl rfl rfl rfl rfl rfl) ?_
  refine WD.nil (drawOk_of (by kernel_rfl)) rfl ?_
  refine WC.weak [(4, _)] ⟨rfl, trivial⟩ ?_
  refine WC.ret ?_
  refine post (n := 0) (.inr rfl) rfl ?_ (by simp)
  rw [xadd_f (by rw [h6, h9]; rfl)]; rfl
theorem rmul_run (x y : X) (hx : Bd 68719476736 x.1) (hy : Bd 68719476736 y.1) : Run Tryz.prog T E0 (.call 87 [lvX x, lvX y] (lvX (xmul x y))) := by
  obtain ⟨hx1, hx2⟩ := hx
  obtain ⟨hy1, hy2⟩ := hy
  have m1 := len32_mul x.1.num y.1.num
  have m4 := len32_mul x.1.den y.1.den
  refine mkcall Tryz.func87 rfl rfl (Nat.le_of_ble_eq_true rfl) ?_
  refine WC.weak [(0, _), (1, _)] ⟨rfl, rfl, trivial⟩ ?_
  refine WC.reg (z := 3) rfl ?_
  refine WO.S (oBx rfl rfl) rfl ?_
  refine WO.S (oBx rfl rfl) rfl ?_
  refine WO.S (oAl rfl) rfl ?_
  refine WO.nil ?_
  refine WC.weak [(2, _), (3, _), (4, _)] ⟨rfl, rfl, rfl, trivial⟩ ?_
  refine WC.assoc ?_
  refine WC.reg (z := 6) rfl ?_
  refine WO.U (oLdP (l := .agg [_, _, _, _]) rfl rfl rfl rfl rfl) rfl ?_
  refine WO.U (oCall rfl (isw_run x) (by simp)) rfl ?_
  refine WO.B (fun h6 => ?_) (fun h6 => ?_)
  rotate_left
  · refine WO.U (oMv rfl) rfl ?_
    refine WO.K rfl rfl ?_
    refine WO.K rfl rfl ?_
    refine WO.U (oPkF rfl rfl) rfl ?_
    refine WO.nil ?_
    refine WC.weak [(2, _), (3, _), (4, _), (10, _)] ⟨rfl, rfl, rfl, rfl, trivial⟩ ?_
    refine WC.cF rfl ?_
    refine WC.skips ?_
    refine WC.draw (z := 12) rfl (by kernel_rfl) ?_
    refine WD.U (oFaP rfl rfl rfl rfl rfl) rfl ?_
    refine WD.U (oLdP (l := .agg [_, _]) rfl rfl rfl rfl rfl) rfl ?_
    refine WD.U (oFaP rfl rfl rfl rfl rfl) rfl ?_
    refine WD.U (oLdP (l := .agg [_, _]) rfl rfl rfl rfl rfl) rfl ?_
    refine WD.U (oCall rfl (mul_run x.1.num y.1.num (by omega) (by omega)) (by simp)) rfl ?_
    refine WD.U (oLdP (l := .agg [_, _, _, _]) rfl rfl rfl rfl rfl) rfl ?_
    refine WD.U (oCall rfl (low_run x) (by simp)) rfl ?_
    refine WD.U (oLdP (l := .agg [_, _, _, _]) rfl rfl rfl rfl rfl) rfl ?_
    refine WD.U (oCall rfl (low_run y) (by simp)) rfl ?_
    refine WD.U (oCall rfl (mul_run x.1.den y.1.den (by omega) (by omega)) (by simp)) rfl ?_
    refine WD.U (oCall rfl (ratio_run (x.1.num * y.1.num) (x.1.den * y.1.den) (Int.mul_ne_zero (den_ne _) (den_ne _)) (by omega) (by omega)) (by simp)) rfl ?_
    refine WD.S0 (oSt (cs' := [_, _, _, _]) rfl rfl rfl rfl rfl rfl rfl rfl) ?_
    refine WD.nil (drawOk_of (by kernel_rfl)) rfl ?_
    refine WC.weak [(4, _)] ⟨rfl, trivial⟩ ?_
    refine WC.ret ?_
    refine post (n := 0) (.inr rfl) rfl ?_ (by simp)
    rw [xmul_f (by rw [h6]; rfl)]; rfl
  refine WO.U (oMv rfl) rfl ?_
  refine WO.Ug rfl (oLdP (l := .agg [_, _, _, _]) rfl rfl rfl rfl rfl) rfl ?_
  refine WO.Ug rfl (oCall rfl (isw_run y) (by simp)) rfl ?_
  refine WO.B (fun h9 => ?_) (fun h9 => ?_)
  · refine WO.U (oPkT rfl rfl) rfl ?_
    refine WO.nil ?_
    refine WC.weak [(2, _), (3, _), (4, _), (10, _)] ⟨rfl, rfl, rfl, rfl, trivial⟩ ?_
    refine WC.cT rfl ?_
    refine WC.assoc ?_
    refine WC.reg (z := 7) rfl ?_
    refine WO.U (oFaP rfl rfl rfl rfl rfl) rfl ?_
    refine WO.U (oLdP (l := .agg [_, _]) rfl rfl rfl rfl rfl) rfl ?_
    refine WO.U (oFaP rfl rfl rfl rfl rfl) rfl ?_
    refine WO.U (oLdP (l := .agg [_, _]) rfl rfl rfl rfl rfl) rfl ?_
    refine WO.U (oCall rfl (mul_run x.1.num y.1.num (by omega) (by omega)) (by simp)) rfl ?_
    refine WO.U (oBd (cs := [_, _, _, _]) rfl rfl rfl rfl rfl) rfl ?_
    refine WO.S0 (oSt (cs' := [_, _, _, _]) rfl rfl rfl rfl rfl rfl rfl rfl) ?_
    refine WO.nil ?_
    refine WC.weak [(4, _)] ⟨rfl, trivial⟩ ?_
    refine WC.rets ?_
    refine post (n := 0) (.inr rfl) rfl ?_ (by simp)
    rw [xmul_w h6 h9]; rfl
  refine WO.U (oPkT rfl rfl) rfl ?_
  refine WO.nil ?_
  refine WC.weak [(2, _), (3, _), (4, _), (10, _)] ⟨rfl, rfl, rfl, rfl, trivial⟩ ?_
  refine WC.cF rfl ?_
  refine WC.skips ?_
  refine WC.draw (z := 12) rfl (by kernel_rfl) ?_
  refine WD.U (oFaP rfl rfl rfl rfl rfl) rfl ?_
  refine WD.U (oLdP (l := .agg [_, _]) rfl rfl rfl rfl rfl) rfl ?_
  refine WD.U (oFaP rfl rfl rfl rfl rfl) rfl ?_
  refine WD.U (oLdP (l := .agg [_, _]) rfl rfl rfl rfl rfl) rfl ?_
  refine WD.U (oCall rfl (mul_run x.1.num y.1.num (by omega) (by omega)) (by simp)) rfl ?_
  refine WD.U (oLdP (l := .agg [_, _, _, _]) rfl rfl rfl rfl rfl) rfl ?_
  refine WD.U (oCall rfl (low_run x) (by simp)) rfl ?_
  refine WD.U (oLdP (l := .agg [_, _, _, _]) rfl rfl rfl rfl rfl) rfl ?_
  refine WD.U (oCall rfl (low_run y) (by simp)) rfl ?_
  refine WD.U (oCall rfl (mul_run x.1.den y.1.den (by omega) (by omega)) (by simp)) rfl ?_
  refine WD.U (oCall rfl (ratio_run (x.1.num * y.1.num) (x.1.den * y.1.den) (Int.mul_ne_zero (den_ne _) (den_ne _)) (by omega) (by omega)) (by simp)) rfl ?_
  refine WD.S0 (oSt (cs' := [_, _, _, _]) rfl rfl rfl rfl rfl rfl rfl rfl) ?_
  refine WD.nil (drawOk_of (by kernel_rfl)) rfl ?_
  refine WC.weak [(4, _)] ⟨rfl, trivial⟩ ?_
  refine WC.ret ?_
  refine post (n := 0) (.inr rfl) rfl ?_ (by simp)
  rw [xmul_f (by rw [h6, h9]; rfl)]; rfl
theorem rdiv_run (x y : X) (h0 : y.1 ≠ 0) (hx : Bd 68719476736 x.1) (hy : Bd 68719476736 y.1) : Run Tryz.prog T E0 (.call 89 [lvX x, lvX y] (lvX (xdiv x y))) := by
  obtain ⟨hx1, hx2⟩ := hx
  obtain ⟨hy1, hy2⟩ := hy
  have m1 := len32_mul x.1.num y.1.den
  have m4 := len32_mul x.1.den y.1.num
  refine mkcall Tryz.func89 rfl rfl (Nat.le_of_ble_eq_true rfl) ?_
  refine WC.weak [(0, _), (1, _)] ⟨rfl, rfl, trivial⟩ ?_
  refine WC.reg (z := 3) rfl ?_
  refine WO.S (oBx rfl rfl) rfl ?_
  refine WO.S (oBx rfl rfl) rfl ?_
  refine WO.S (oAl rfl) rfl ?_
  refine WO.nil ?_
  refine WC.weak [(2, _), (3, _), (4, _)] ⟨rfl, rfl, rfl, trivial⟩ ?_
  refine WC.draw (z := 12) rfl (by kernel_rfl) ?_
  refine WD.U (oFaP rfl rfl rfl rfl rfl) rfl ?_
  refine WD.U (oLdP (l := .agg [_, _]) rfl rfl rfl rfl rfl) rfl ?_
  refine WD.U (oLdP (l := .agg [_, _, _, _]) rfl rfl rfl rfl rfl) rfl ?_
  refine WD.U (oCall rfl (low_run y) (by simp)) rfl ?_
  refine WD.U (oCall rfl (mul_run x.1.num y.1.den (by omega) (by omega)) (by simp)) rfl ?_
  refine WD.U (oLdP (l := .agg [_, _, _, _]) rfl rfl rfl rfl rfl) rfl ?_
  refine WD.U (oCall rfl (low_run x) (by simp)) rfl ?_
  refine WD.U (oFaP rfl rfl rfl rfl rfl) rfl ?_
  refine WD.U (oLdP (l := .agg [_, _]) rfl rfl rfl rfl rfl) rfl ?_
  refine WD.U (oCall rfl (mul_run x.1.den y.1.num (by omega) (by omega)) (by simp)) rfl ?_
  refine WD.U (oCall rfl (ratio_run (x.1.num * y.1.den) (x.1.den * y.1.num) (Int.mul_ne_zero (den_ne _) (num_ne h0)) (by omega) (by omega)) (by simp)) rfl ?_
  refine WD.S0 (oSt (cs' := [_, _, _, _]) rfl rfl rfl rfl rfl rfl rfl rfl) ?_
  refine WD.nil (drawOk_of (by kernel_rfl)) rfl ?_
  refine WC.weak [(4, _)] ⟨rfl, trivial⟩ ?_
  refine WC.ret ?_
  refine post (n := 0) (.inr rfl) rfl ?_ (by simp)
  rw [xdiv_f h0]; rfl
theorem nrat_run (a : NM) (h1 : I64 a.1) (h2 : I64 a.2) (h0 : a.2 ≠ 0) : Run Tryz.prog T E0 (.call 78 [lvM a] (lvX (Rat.divInt a.1 a.2, false))) := by
  unfold I64 at h1 h2
  have m1 := len32_small (v := a.1) (by omega)
  have m2 := len32_small (v := a.2) (by omega)
  refine mkcall Tryz.func78 rfl rfl (Nat.le_of_ble_eq_true rfl) ?_
  refine WC.weak [(0, _)] ⟨rfl, trivial⟩ ?_
  refine WC.reg (z := 2) rfl ?_
  refine WO.S (oBx rfl rfl) rfl ?_
  refine WO.S (oAl rfl) rfl ?_
  refine WO.nil ?_
  refine WC.weak [(1, _), (2, _)] ⟨rfl, rfl, trivial⟩ ?_
  refine WC.draw (z := 8) rfl (by kernel_rfl) ?_
  refine WD.U (oFaP rfl rfl rfl rfl rfl) rfl ?_
  refine WD.U (oLdP rfl rfl rfl rfl rfl) rfl ?_
  refine WD.U (oCall rfl (of_run _ (by omega)) (by simp)) rfl ?_
  refine WD.U (oFaP rfl rfl rfl rfl rfl) rfl ?_
  refine WD.U (oLdP rfl rfl rfl rfl rfl) rfl ?_
  refine WD.U (oCall rfl (of_run _ (by omega)) (by simp)) rfl ?_
  refine WD.U (oCall rfl (ratio_run a.1 a.2 h0 (by omega) (by omega)) (by simp)) rfl ?_
  refine WD.S0 (oSt (cs' := [_, _, _, _]) rfl rfl rfl rfl rfl rfl rfl rfl) ?_
  refine WD.nil (drawOk_of (by kernel_rfl)) rfl ?_
  refine WC.weak [(2, _)] ⟨rfl, trivial⟩ ?_
  refine WC.ret ?_
  refine post (n := 0) (.inr rfl) rfl ?_ (by simp)
  rfl
theorem nvalid_run (a : NM) (h1 : I64 a.1) (h2 : I64 a.2) : Run Tryz.prog T E0 (.call 76 [lvM a] (.v (.bool (decide (VN a))))) := by
  unfold I64 at h1 h2
  have m1 := len32_small (v := a.1) (by omega)
  have m2 := len32_small (v := a.2) (by omega)
  refine mkcall Tryz.func76 rfl rfl (Nat.le_of_ble_eq_true rfl) ?_
  refine WC.weak [(0, _)] ⟨rfl, trivial⟩ ?_
  refine WC.reg (z := 2) rfl ?_
  refine WO.S (oBx rfl rfl) rfl ?_
  refine WO.U (oAs rfl) rfl ?_
  refine WO.nil ?_
  refine WC.weak [(1, _)] ⟨rfl, trivial⟩ ?_
  refine WC.assoc ?_
  refine WC.reg (z := 18) rfl ?_
  refine WO.U (oFaP rfl rfl rfl rfl rfl) rfl ?_
  refine WO.U (oLdP rfl rfl rfl rfl rfl) rfl ?_
  refine WO.U (oLss rfl rfl) rfl ?_
  refine WO.D (fun h7 => ?_) (fun h7 => ?_)
  · refine WO.U (oMv rfl) rfl ?_
    refine WO.K rfl rfl ?_
    refine WO.K rfl rfl ?_
    refine WO.K rfl rfl ?_
    refine WO.U (oPkT rfl rfl) rfl ?_
    refine WO.U (oMv rfl) rfl ?_
    refine WO.K rfl rfl ?_
    refine WO.K rfl rfl ?_
    refine WO.K rfl rfl ?_
    refine WO.U (oPkT rfl rfl) rfl ?_
    refine WO.U (oMv rfl) rfl ?_
    refine WO.K rfl rfl ?_
    refine WO.K rfl rfl ?_
    refine WO.K rfl rfl ?_
    refine WO.U (oPkT rfl rfl) rfl ?_
    refine WO.nil ?_
    refine WC.weak [(1, _), (22, _)] ⟨rfl, rfl, trivial⟩ ?_
    refine WC.cT rfl ?_
    refine WC.assoc ?_
    have hV : ¬ VN a := by unfold VN; omega
    refine WC.reg (z := 1) rfl ?_
    refine WO.U (oAs rfl) rfl ?_
    refine WO.nil ?_
    refine WC.weak [(2, _)] ⟨rfl, trivial⟩ ?_
    refine WC.rets ?_
    refine post (n := 0) (.inr rfl) rfl ?_ (by simp)
    exact congrArg (fun z => LV.v (.bool z)) (decide_eq_false hV).symm
  refine WO.U (oMv rfl) rfl ?_
  refine WO.Ug rfl (oFaP rfl rfl rfl rfl rfl) rfl ?_
  refine WO.Ug rfl (oLdP rfl rfl rfl rfl rfl) rfl ?_
  refine WO.Ug rfl (oGtr rfl rfl) rfl ?_
  refine WO.D (fun h11 => ?_) (fun h11 => ?_)
  · refine WO.U (oPkF rfl rfl) rfl ?_
    refine WO.U (oMv rfl) rfl ?_
    refine WO.K rfl rfl ?_
    refine WO.K rfl rfl ?_
    refine WO.K rfl rfl ?_
    refine WO.U (oPkT rfl rfl) rfl ?_
    refine WO.U (oMv rfl) rfl ?_
    refine WO.K rfl rfl ?_
    refine WO.K rfl rfl ?_
    refine WO.K rfl rfl ?_
    refine WO.U (oPkT rfl rfl) rfl ?_
    refine WO.nil ?_
    refine WC.weak [(1, _), (22, _)] ⟨rfl, rfl, trivial⟩ ?_
    refine WC.cT rfl ?_
    refine WC.assoc ?_
    have hV : ¬ VN a := by unfold VN; omega
    refine WC.reg (z := 1) rfl ?_
    refine WO.U (oAs rfl) rfl ?_
    refine WO.nil ?_
    refine WC.weak [(2, _)] ⟨rfl, trivial⟩ ?_
    refine WC.rets ?_
    refine post (n := 0) (.inr rfl) rfl ?_ (by simp)
    exact congrArg (fun z => LV.v (.bool z)) (decide_eq_false hV).symm
  refine WO.U (oPkF rfl rfl) rfl ?_
  refine WO.U (oMv rfl) rfl ?_
  refine WO.Ug rfl (oFaP rfl rfl rfl rfl rfl) rfl ?_
  refine WO.Ug rfl (oLdP rfl rfl rfl rfl rfl) rfl ?_
  refine WO.Ug rfl (oGtr rfl rfl) rfl ?_
  refine WO.D (fun h16 => ?_) (fun h16 => ?_)
  · refine WO.U (oPkF rfl rfl) rfl ?_
    refine WO.U (oMv rfl) rfl ?_
    refine WO.K rfl rfl ?_
    refine WO.K rfl rfl ?_
    refine WO.K rfl rfl ?_
    refine WO.U (oPkT rfl rfl) rfl ?_
    refine WO.nil ?_
    refine WC.weak [(1, _), (22, _)] ⟨rfl, rfl, trivial⟩ ?_
    refine WC.cT rfl ?_
    refine WC.assoc ?_
    have hV : ¬ VN a := by unfold VN; omega
    refine WC.reg (z := 1) rfl ?_
    refine WO.U (oAs rfl) rfl ?_
    refine WO.nil ?_
    refine WC.weak [(2, _)] ⟨rfl, trivial⟩ ?_
    refine WC.rets ?_
    refine post (n := 0) (.inr rfl) rfl ?_ (by simp)
    exact congrArg (fun z => LV.v (.bool z)) (decide_eq_false hV).symm
  refine WO.U (oPkF rfl rfl) rfl ?_
  refine WO.U (oMv rfl) rfl ?_
  refine WO.Ug rfl (oFaP rfl rfl rfl rfl rfl) rfl ?_
  refine WO.Ug rfl (oLdP rfl rfl rfl rfl rfl) rfl ?_
  refine WO.Ug rfl (oLss rfl rfl) rfl ?_
  refine WO.D (fun h21 => ?_) (fun h21 => ?_)
  · refine WO.U (oPkF rfl rfl) rfl ?_
    refine WO.nil ?_
    refine WC.weak [(1, _), (22, _)] ⟨rfl, rfl, trivial⟩ ?_
    refine WC.cT rfl ?_
    refine WC.assoc ?_
    have hV : ¬ VN a := by unfold VN; omega
    refine WC.reg (z := 1) rfl ?_
    refine WO.U (oAs rfl) rfl ?_
    refine WO.nil ?_
    refine WC.weak [(2, _)] ⟨rfl, trivial⟩ ?_
    refine WC.rets ?_
    refine post (n := 0) (.inr rfl) rfl ?_ (by simp)
    exact congrArg (fun z => LV.v (.bool z)) (decide_eq_false hV).symm
  refine WO.U (oPkF rfl rfl) rfl ?_
  refine WO.nil ?_
  refine WC.weak [(1, _), (22, _)] ⟨rfl, rfl, trivial⟩ ?_
  refine WC.cF rfl ?_
  refine WC.skips ?_
  have hg1 : a.1.gcd a.2 ≤ a.2.natAbs := Nat.le_of_dvd (by omega) (Nat.gcd_dvd_right _ _)
  refine WC.draw (z := 13) rfl (by kernel_rfl) ?_
  refine WD.U (oFaP rfl rfl rfl rfl rfl) rfl ?_
  refine WD.U (oLdP rfl rfl rfl rfl rfl) rfl ?_
  refine WD.U (oCall rfl (of_run _ (by omega)) (by simp)) rfl ?_
  refine WD.U (oFaP rfl rfl rfl rfl rfl) rfl ?_
  refine WD.U (oLdP rfl rfl rfl rfl rfl) rfl ?_
  refine WD.U (oCall rfl (of_run _ (by omega)) (by simp)) rfl ?_
  refine WD.U (oCall rfl (gcd_run a.1 a.2 (by omega) (by omega)) (by simp)) rfl ?_
  refine WD.U (oCall rfl (int_run (a.1.gcd a.2 : Nat) 1152921504606846976 (by omega)) (by simp)) rfl ?_
  refine WD.U (oMv rfl) rfl ?_
  refine WD.U (oEx rfl rfl) rfl ?_
  refine WD.U (oEx rfl rfl) rfl ?_
  refine WD.U (oAs rfl) rfl ?_
  refine WD.U (oAs rfl) rfl ?_
  refine WD.nil (drawOk_of (by kernel_rfl)) rfl ?_
  refine WC.weak [(3, _)] ⟨rfl, trivial⟩ ?_
  refine WC.reg (z := 3) rfl ?_
  refine WO.U (oMv rfl) rfl ?_
  refine WO.U (oEql rfl rfl) rfl ?_
  refine WO.U (oAs rfl) rfl ?_
  refine WO.nil ?_
  refine WC.weak [(2, _)] ⟨rfl, trivial⟩ ?_
  refine WC.ret ?_
  refine post (n := 0) (.inr rfl) rfl ?_ (by simp)
  have hV : (decide ((if -1152921504606846976 ≤ ((a.1.gcd a.2 : Nat) : Int) ∧ ((a.1.gcd a.2 : Nat) : Int) ≤ 1152921504606846976 then ((a.1.gcd a.2 : Nat) : Int) else 0) = 1)) = decide (VN a) := by
    rw [if_pos (by omega)]; apply decide_eq_decide.2; unfold VN; omega
  exact congrArg (fun z => LV.v (.bool z)) hV
theorem nout_run (x : X) : Run Tryz.prog T E0 (.call 58 [lvX x] (lvO (outN x.1))) := by
  refine mkcall Tryz.func58 rfl rfl (Nat.le_of_ble_eq_true rfl) ?_
  refine WC.weak [(0, _)] ⟨rfl, trivial⟩ ?_
  refine WC.reg (z := 3) rfl ?_
  refine WO.S (oBx rfl rfl) rfl ?_
  refine WO.S (oAl rfl) rfl ?_
  refine WO.U (oAs rfl) rfl ?_
  refine WO.nil ?_
  refine WC.weak [(1, _), (2, _)] ⟨rfl, rfl, trivial⟩ ?_
  refine WC.reg (z := 8) rfl ?_
  refine WO.U (oLdP (l := .agg [_, _, _, _]) rfl rfl rfl rfl rfl) rfl ?_
  refine WO.U (oCall rfl (top_run x) (by simp)) rfl ?_
  refine WO.U (oCall rfl (int_run x.1.num 1152921504606846976 (by omega)) (by simp)) rfl ?_
  refine WO.U (oMv rfl) rfl ?_
  refine WO.U (oEx rfl rfl) rfl ?_
  refine WO.U (oEx rfl rfl) rfl ?_
  refine WO.B (fun h13 => ?_) (fun h13 => ?_)
  rotate_left
  · refine WO.U (oAs rfl) rfl ?_
    refine WO.U (oAs rfl) rfl ?_
    refine WO.nil ?_
    refine WC.weak [(1, _), (2, _), (4, _), (5, _)] ⟨rfl, rfl, rfl, rfl, trivial⟩ ?_
    refine WC.reg (z := 8) rfl ?_
    refine WO.U (oLdP (l := .agg [_, _, _, _]) rfl rfl rfl rfl rfl) rfl ?_
    refine WO.U (oCall rfl (low_run x) (by simp)) rfl ?_
    refine WO.U (oCall rfl (int_run x.1.den 1152921504606846976 (by omega)) (by simp)) rfl ?_
    refine WO.U (oMv rfl) rfl ?_
    refine WO.U (oEx rfl rfl) rfl ?_
    refine WO.U (oEx rfl rfl) rfl ?_
    refine WO.B (fun h19 => ?_) (fun h19 => ?_)
    · refine WO.U (oAs rfl) rfl ?_
      refine WO.U (oAs rfl) rfl ?_
      refine WO.nil ?_
      refine WC.weak [(2, _), (4, _), (5, _), (6, _), (7, _)] ⟨rfl, rfl, rfl, rfl, rfl, trivial⟩ ?_
      refine WC.assoc ?_
      refine WC.reg (z := 6) rfl ?_
      refine WO.U (oMv rfl) rfl ?_
      refine WO.U (oNot rfl) rfl ?_
      refine WO.U (oMv rfl) rfl ?_
      refine WO.K rfl rfl ?_
      refine WO.K rfl rfl ?_
      refine WO.U (oPkT rfl rfl) rfl ?_
      refine WO.nil ?_
      refine WC.weak [(2, _), (4, _), (6, _), (25, _)] ⟨rfl, rfl, rfl, rfl, trivial⟩ ?_
      refine WC.cT rfl ?_
      refine WC.assoc ?_
      have hV : outN x.1 = none := by
        unfold outN; rw [if_neg]; simp at *; omega
      refine WC.reg (z := 3) rfl ?_
      refine WO.U (oBd (cs := [_, _]) rfl rfl rfl rfl rfl) rfl ?_
      refine WO.S0 (oSt (cs' := [_, _]) rfl rfl rfl rfl rfl rfl rfl rfl) ?_
      refine WO.U (oAs rfl) rfl ?_
      refine WO.nil ?_
      refine WC.weak [(2, _), (3, _)] ⟨rfl, rfl, trivial⟩ ?_
      refine WC.rets ?_
      refine post (n := 0) (.inr rfl) rfl ?_ (by simp)
      first | (rw [hV]; rfl) | (rw [hV, if_pos k1, if_pos k2]; rfl)
    refine WO.U (oAs rfl) rfl ?_
    refine WO.U (oAs rfl) rfl ?_
    refine WO.nil ?_
    refine WC.weak [(2, _), (4, _), (5, _), (6, _), (7, _)] ⟨rfl, rfl, rfl, rfl, rfl, trivial⟩ ?_
    refine WC.assoc ?_
    refine WC.reg (z := 6) rfl ?_
    refine WO.U (oMv rfl) rfl ?_
    refine WO.U (oNot rfl) rfl ?_
    refine WO.U (oMv rfl) rfl ?_
    refine WO.K rfl rfl ?_
    refine WO.K rfl rfl ?_
    refine WO.U (oPkT rfl rfl) rfl ?_
    refine WO.nil ?_
    refine WC.weak [(2, _), (4, _), (6, _), (25, _)] ⟨rfl, rfl, rfl, rfl, trivial⟩ ?_
    refine WC.cT rfl ?_
    refine WC.assoc ?_
    have hV : outN x.1 = none := by
      unfold outN; rw [if_neg]; simp at *; omega
    refine WC.reg (z := 3) rfl ?_
    refine WO.U (oBd (cs := [_, _]) rfl rfl rfl rfl rfl) rfl ?_
    refine WO.S0 (oSt (cs' := [_, _]) rfl rfl rfl rfl rfl rfl rfl rfl) ?_
    refine WO.U (oAs rfl) rfl ?_
    refine WO.nil ?_
    refine WC.weak [(2, _), (3, _)] ⟨rfl, rfl, trivial⟩ ?_
    refine WC.rets ?_
    refine post (n := 0) (.inr rfl) rfl ?_ (by simp)
    first | (rw [hV]; rfl) | (rw [hV, if_pos k1, if_pos k2]; rfl)
  refine WO.U (oAs rfl) rfl ?_
  refine WO.U (oAs rfl) rfl ?_
  refine WO.nil ?_
  refine WC.weak [(1, _), (2, _), (4, _), (5, _)] ⟨rfl, rfl, rfl, rfl, trivial⟩ ?_
  refine WC.reg (z := 8) rfl ?_
  refine WO.U (oLdP (l := .agg [_, _, _, _]) rfl rfl rfl rfl rfl) rfl ?_
  refine WO.U (oCall rfl (low_run x) (by simp)) rfl ?_
  refine WO.U (oCall rfl (int_run x.1.den 1152921504606846976 (by omega)) (by simp)) rfl ?_
  refine WO.U (oMv rfl) rfl ?_
  refine WO.U (oEx rfl rfl) rfl ?_
  refine WO.U (oEx rfl rfl) rfl ?_
  refine WO.B (fun h19 => ?_) (fun h19 => ?_)
  rotate_left
  · refine WO.U (oAs rfl) rfl ?_
    refine WO.U (oAs rfl) rfl ?_
    refine WO.nil ?_
    refine WC.weak [(2, _), (4, _), (5, _), (6, _), (7, _)] ⟨rfl, rfl, rfl, rfl, rfl, trivial⟩ ?_
    refine WC.assoc ?_
    refine WC.reg (z := 6) rfl ?_
    refine WO.U (oMv rfl) rfl ?_
    refine WO.U (oNot rfl) rfl ?_
    refine WO.U (oMv rfl) rfl ?_
    refine WO.Ug rfl (oMv rfl) rfl ?_
    refine WO.Ug rfl (oNot rfl) rfl ?_
    refine WO.U (oPkF rfl rfl) rfl ?_
    refine WO.nil ?_
    refine WC.weak [(2, _), (4, _), (6, _), (25, _)] ⟨rfl, rfl, rfl, rfl, trivial⟩ ?_
    refine WC.cT rfl ?_
    refine WC.assoc ?_
    have hV : outN x.1 = none := by
      unfold outN; rw [if_neg]; simp at *; omega
    refine WC.reg (z := 3) rfl ?_
    refine WO.U (oBd (cs := [_, _]) rfl rfl rfl rfl rfl) rfl ?_
    refine WO.S0 (oSt (cs' := [_, _]) rfl rfl rfl rfl rfl rfl rfl rfl) ?_
    refine WO.U (oAs rfl) rfl ?_
    refine WO.nil ?_
    refine WC.weak [(2, _), (3, _)] ⟨rfl, rfl, trivial⟩ ?_
    refine WC.rets ?_
    refine post (n := 0) (.inr rfl) rfl ?_ (by simp)
    first | (rw [hV]; rfl) | (rw [hV, if_pos k1, if_pos k2]; rfl)
  refine WO.U (oAs rfl) rfl ?_
  refine WO.U (oAs rfl) rfl ?_
  refine WO.nil ?_
  refine WC.weak [(2, _), (4, _), (5, _), (6, _), (7, _)] ⟨rfl, rfl, rfl, rfl, rfl, trivial⟩ ?_
  refine WC.assoc ?_
  refine WC.reg (z := 6) rfl ?_
  refine WO.U (oMv rfl) rfl ?_
  refine WO.U (oNot rfl) rfl ?_
  refine WO.U (oMv rfl) rfl ?_
  refine WO.Ug rfl (oMv rfl) rfl ?_
  refine WO.Ug rfl (oNot rfl) rfl ?_
  refine WO.U (oPkF rfl rfl) rfl ?_
  refine WO.nil ?_
  refine WC.weak [(2, _), (4, _), (6, _), (25, _)] ⟨rfl, rfl, rfl, rfl, trivial⟩ ?_
  refine WC.cF rfl ?_
  refine WC.skips ?_
  have k1 := of_decide_eq_true h13
  have k2 := of_decide_eq_true h19
  have hV : outN x.1 = some (x.1.num, (x.1.den : Int)) := by
    unfold outN; rw [if_pos ⟨k1, k2.2⟩]
  refine WC.reg (z := 5) rfl ?_
  refine WO.U (oMv rfl) rfl ?_
  refine WO.U (oMv rfl) rfl ?_
  refine WO.U (oBd (cs := [_, _]) rfl rfl rfl rfl rfl) rfl ?_
  refine WO.S0 (oSt (cs' := [_, _]) rfl rfl rfl rfl rfl rfl rfl rfl) ?_
  refine WO.U (oAs rfl) rfl ?_
  refine WO.nil ?_
  refine WC.weak [(2, _), (3, _)] ⟨rfl, rfl, trivial⟩ ?_
  refine WC.ret ?_
  refine post (n := 0) (.inr rfl) rfl ?_ (by simp)
  first | (rw [hV]; rfl) | (rw [hV, if_pos k1, if_pos k2]; rfl)
end Go.Proofs.YtcmieifjephdcaaGreat
