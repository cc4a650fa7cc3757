/- Part D of the proof of sureLaws_holds: what it rests on. No condition. -/
import Derived.Test.YthpnlndhebcngaaGreatLawC
set_option linter.unusedVariables false
set_option linter.unusedSimpArgs false
set_option maxRecDepth 100000
set_option maxHeartbeats 4000000
namespace Go.Proofs.YthpnlndhebcngaaGreat
open Go.Ab Go.RowKit
theorem long_run (k1 k2 : Nat) (xs ys : List Nat) (hx : Dg 4294967296 xs) (hy : Dg 4294967296 ys) (ty : Trm ys) (hl : 2 ≤ ys.length) (hle : ys.length ≤ xs.length) (lx : xs.length < 549755813888) : ∃ r, Run Tryz.prog T E0 (.call 137 [.sl k1 (xs.map d32), .sl k2 (ys.map d32)] r) ∧ ∃ qs rs, r = .tup [.sl 1 (qs.map d32), .sl 1 (rs.map d32)] ∧ Dg 4294967296 qs ∧ Dg 4294967296 rs ∧ val 4294967296 qs * val 4294967296 ys + val 4294967296 rs = val 4294967296 xs ∧ val 4294967296 rs < val 4294967296 ys ∧ qs.length ≤ xs.length ∧ rs.length = ys.length := by
 obtain ⟨sh, hsh⟩ : ∃ sh, sh = 32 - blen (ys.getD (ys.length - 1) default) := ⟨_, rfl⟩
 obtain ⟨n1, n2, n3⟩ := norm_facts hy ty hl hsh
 obtain ⟨vs, hvs⟩ : ∃ vs, vs = dgs 4294967296 (val 4294967296 ys * 2 ^ sh) := ⟨_, rfl⟩
 rw [← hvs] at n2 n3
 rw [← n2] at n3
 have hvd : Dg 4294967296 vs := by rw [hvs]; exact dgs_dg (by decide) _
 have hvv : val 4294967296 vs = val 4294967296 ys * 2 ^ sh := by rw [hvs]; exact dgs_val (by decide) _
 have hyl : ys.getD (ys.length - 1) default < 4294967296 := getD_lt hy om
 obtain ⟨_, _, _, hr1, us0, rfl, rfl, rfl, hud0, huv0, hul0⟩ := shifted_run k1 xs sh hx n1 om
 obtain ⟨_, _, _, hr2, ws, rfl, rfl, rfl, hwd, hwv, hwl⟩ := shifted_run k2 ys sh hy n1 om
 have htr : trim ws = vs := by rw [trim_dgs (by decide) hwd, hwv, hvs]
 have hp31 : (2 : Nat) ^ sh ≤ 2 ^ 31 := Nat.pow_le_pow_right (by decide) om
 have hp0 : 0 < (2 : Nat) ^ sh := Nat.pow_pos (by decide)
 have hV0 : 0 < val 4294967296 vs := by
  have h1 := take_drop_val 4294967296 vs (vs.length - 1) om
  rw [drop_cons_getD (by omega : vs.length - 1 < vs.length)] at h1
  simp only [val] at h1
  have h2 : 0 < (4294967296 : Nat) ^ (vs.length - 1) := Nat.pow_pos (by decide)
  have h3 := Nat.mul_le_mul h2 n3
  have h4 := Nat.mul_add ((4294967296 : Nat) ^ (vs.length - 1)) (vs.getD (vs.length - 1) default) (4294967296 * val 4294967296 (List.drop (vs.length - 1 + 1) vs))
  omega
 refine mkcallE Tryz.func137 rfl rfl (Nat.le_of_ble_eq_true rfl) <| Rg 2 rfl <| Ua rfl rfl <| Ua rfl rfl <| Wn <| Rg 8 rfl <| Um rfl rfl <| Um rfl rfl <| WO.U (oLenM rfl rfl) rfl <| WO.U (oSub64 rfl rfl om) rfl <| WO.U (oIxM (j := ys.length - 1) rfl rfl rfl rfl om om rfl) rfl <| WO.U (oLd rfl rfl rfl) rfl <| WO.U (cI ((sh : Int)) (oCall rfl (zeros32_run _ hyl) (by simp)) (by rw [hsh])) rfl <| Ua rfl rfl <| Wn <| Rg 9 rfl <| Um rfl rfl <| Um rfl rfl <| WO.S (oCallO rfl hr1 (by simp)) rfl <| Um rfl rfl <| Um rfl rfl <| WO.S (oCallO rfl hr2 (by simp)) rfl <| WO.S (OP.cast (b := .sl 1 (vs.map d32)) (oCallF [.sl 1 (ws.map d32)] [((0 + 2 + 8 + 5), { cells := (ws.map d32).flatten, sz := 1, elem := 145, st := 1 })] rfl (trim_run 1 ws om om) (.own _ (by simp) g0 (by show (0 : Nat) ≠ 2; decide) rfl (by decide) (by simp [keys]) rfl rows_d32 data_rows_d32 .nil) (by intro p hp; simp at hp; subst hp; exact ⟨_, g0, by show (0 : Nat) ≠ 2; decide, rfl⟩)) (by rw [htr]; rfl)) rfl <| Ua rfl rfl ?_
 refine Ua rfl rfl <| Nk [6,7,8] rfl <| Rg 3 rfl <| Um rfl rfl <| WO.U (oLenM rfl rfl) rfl <| Ua rfl rfl <| Wn <| Rg 6 rfl <| Um rfl rfl <| WO.U (oLenR rfl rfl) rfl <| Um rfl rfl <| WO.U (oSub64 rfl rfl om) rfl <| WO.S (oMk (a := xs.length + 1 - ys.length) (b := xs.length + 1 - ys.length) rfl rfl rfl rfl om om (by decide) om (by show 4 * (xs.length + 1 - ys.length) ≤ _; omega) om) rfl <| Ua rfl rfl <| Wn <| WC.assoc <| Rg 6 rfl <| Um rfl rfl <| WO.U (oLenR rfl rfl) rfl <| Um rfl rfl <| WO.U (oSub64 rfl rfl om) rfl <| WO.U (oSub64 rfl rfl om) rfl <| Ua rfl rfl ?_
 refine Nk [6,7,8,9,10,11] rfl <| WC.block <| WC.loopV (α := Nat × (List Nat) × (List Nat)) (fun ⟨k, us, qs⟩ => [(6, .v (.int .i64 (sh : Int))), (7, .ref (0 + 2 + 8 + 2) 1 0 us.length), (8, .sl 1 (vs.map d32)), (9, .v (.int .i64 (vs.length : Int))), (10, .ref (0 + 2 + 8 + 9 + 3 + 4) 1 0 qs.length), (11, .v (.int .i64 ((k : Int) - 1)))]) (fun ⟨k, us, qs⟩ => [((0 + 2 + 8 + 2), { cells := (us.map d32).flatten, sz := 1, elem := 145, st := 0 }), ((0 + 2 + 8 + 9 + 3 + 4), { cells := (qs.map d32).flatten, sz := 1, elem := 145, st := 0 })]) (fun ⟨k, us, qs⟩ n => k + vs.length ≤ us.length ∧ us.length = xs.length + 1 ∧ qs.length = xs.length + 1 - ys.length ∧ Dg 4294967296 us ∧ Dg 4294967296 qs ∧ val 4294967296 us0 = val 4294967296 (qs.drop k) * val 4294967296 vs * 4294967296 ^ k + val 4294967296 us ∧ val 4294967296 (us.drop k) < val 4294967296 vs ∧ 30 ≤ n) (fun ⟨k, us, qs⟩ => k) (xs.length + 1 - ys.length, us0, List.replicate (xs.length + 1 - ys.length) 0) ⟨rfl, rfl, rfl, rfl, congrArg some (by rw [List.length_replicate]; rfl), congrArg (fun z => some (LV.v (.int .i64 z))) om, trivial⟩ ⟨rfl, g0.trans (by rw [List.map_replicate]; rfl), trivial⟩ ⟨om, hul0, by simp, hud0, by intro d hd; simp at hd; rw [hd.2]; decide, by rw [List.drop_eq_nil_of_le (by simp)]; simp [val], long_init (n := xs.length) (by decide) huv0 (val_lt (by decide) hx) om om om hp0 om, om⟩ ?_
 rintro ⟨k, us, qs⟩ n hF
 change WC _ _ _ _ _ (_ :: _) (_ :: _) n _
 obtain ⟨hk, hul, hql0, hud, hqd, hU, hlt, hn30⟩ := hF
 refine WC.assoc <| Rg 2 rfl <| Um rfl rfl <| WO.U (oGeq rfl rfl) rfl <| WO.D (fun h54 => ?_) (fun h54 => ?_)
 rotate_left
 ·refine Wn <| WC.cF rfl <| WC.exits <| loopR_exit <| after_exit rfl ?_
  have hk0 : k = 0 := by omega
  subst hk0
  rw [List.drop_zero, Nat.pow_zero, Nat.mul_one] at hU
  rw [List.drop_zero] at hlt
  refine Rg 3 rfl <| Um rfl rfl <| WO.S (oMk (a := vs.length) (b := vs.length) rfl rfl rfl rfl om om (by decide) om (by show 4 * vs.length ≤ _; omega) om) rfl <| Ua rfl rfl <| Wn <| WC.assoc <| Rg 3 rfl <| Um rfl rfl <| WO.U (oLenR rfl rfl) rfl <| Um rfl rfl <| Wn <| WC.block <| WC.loopV (α := Nat × Nat × (List Nat)) (fun ⟨i, q3, rs⟩ => [(6, .v (.int .i64 (sh : Int))), (7, .ref (0 + 2 + 8 + 2) 1 0 us.length), (10, .ref (0 + 2 + 8 + 9 + 3 + 4) 1 0 qs.length), (25, .ref q3 1 0 rs.length), (229, .v (.int .i64 (vs.length : Int))), (230, .v (.int .i64 (i : Int)))]) (fun ⟨i, q3, rs⟩ => [((0 + 2 + 8 + 2), { cells := (us.map d32).flatten, sz := 1, elem := 145, st := 0 }), ((0 + 2 + 8 + 9 + 3 + 4), { cells := (qs.map d32).flatten, sz := 1, elem := 145, st := 0 }), (q3, { cells := (rs.map d32).flatten, sz := 1, elem := 145, st := 0 })]) (fun ⟨i, q3, rs⟩ n => i ≤ vs.length ∧ rs.length = vs.length ∧ Dg 4294967296 rs ∧ val 4294967296 rs = (val 4294967296 (us.take (i + 1)) / 2 ^ sh) % 4294967296 ^ i ∧ (∀ j, i ≤ j → rs.getD j default = 0) ∧ 30 ≤ q3) (fun ⟨i, q3, rs⟩ => vs.length - i) (0, n + 2 + 1, List.replicate vs.length 0) ⟨rfl, rfl, rfl, congrArg some (by rw [List.length_replicate]; rfl), rfl, rfl, trivial⟩ ⟨g1 om g0, g1 om (g1 (by decide) g0), g0.trans (by rw [List.map_replicate]; rfl), trivial⟩ ⟨Nat.zero_le _, by simp, by intro d hd; simp at hd; rw [hd.2]; decide, by rw [val_zeros, Nat.pow_zero, Nat.mod_one], fun j _ => getD_zeros _ _, om⟩ ?_
  rintro ⟨i, q3, rs⟩ n hR
  change WC _ _ _ _ _ (_ :: _) (_ :: _) n _
  obtain ⟨hi, hrl, hrd, hrv, hrz, hq3⟩ := hR
  refine Rg 1 rfl <| WO.U (oLss rfl rfl) rfl <| WO.D (fun h231 => ?_) (fun h231 => ?_)
  rotate_left
  ·refine Wn <| WC.cF rfl <| WC.exits <| loopR_exit <| after_exit rfl ?_
   have hi' : i = vs.length := by omega
   subst hi'
   rw [rest_end (Nat.lt_trans hlt (val_lt (by decide) hvd)) om] at hrv
   obtain ⟨hx1, hx2⟩ := unshift hp0 (show val 4294967296 xs * 2 ^ sh = val 4294967296 qs * (val 4294967296 ys * 2 ^ sh) + val 4294967296 us by rw [← hvv, ← huv0, hU]) (by rw [← hvv]; exact hlt)
   rw [← hrv] at hx1 hx2
   refine Rg 4 rfl <| Um rfl rfl <| Um rfl rfl <| Ua rfl rfl <| Ua rfl rfl <| Wn <| WC.ret <| ⟨.tup [.sl 1 (qs.map d32), .sl 1 (rs.map d32)], ⟨qs, rs, rfl, hqd, hrd, hx1, hx2, om, om⟩, ?_⟩
   exact postA (n := 0) [((0 + 2 + 8 + 9 + 3 + 4), { cells := (qs.map d32).flatten, sz := 1, elem := 145, st := 1 }), (q3, { cells := (rs.map d32).flatten, sz := 1, elem := 145, st := 1 })] (.inr rfl) rfl (.own _ (by simp) (g1 om g0) (by show (0 : Nat) ≠ 2; decide) rfl (by decide) (by simp [keys]) rfl rows_d32 data_rows_d32 (.own _ (by simp) (g1 om (g1 om g0)) (by show (0 : Nat) ≠ 2; decide) rfl (by decide) (by simp [keys]) rfl rows_d32 data_rows_d32 .nil)) (by intro p hp; simp at hp; rcases hp with hp | hp <;> subst hp; exact ⟨_, g1 om g0, by show (0 : Nat) ≠ 2; decide, rfl⟩; exact ⟨_, g1 om (g1 om g0), by show (0 : Nat) ≠ 2; decide, rfl⟩)
  refine Wn <| WC.cT rfl <| WC.skips <| WC.block <| Rg 2 rfl <| Um rfl rfl <| Ua rfl rfl <| WO.nil ?_
  have hux : us.getD i default < 4294967296 := getD_lt hud om
  have huy : us.getD (i + 1) default < 4294967296 := getD_lt hud om
  obtain ⟨Z, hZ⟩ : ∃ Z, Z = (us.getD i default + us.getD (i + 1) default * 4294967296) / 2 ^ sh := ⟨_, rfl⟩
  refine WC.draw1z (z := 20) rfl (by kernel_rfl) <| Dm rfl rfl <| Dm rfl rfl <| Dm rfl rfl <| Dm rfl rfl <| WD.U (oIxR rfl rfl rfl rfl rfl om rfl) rfl <| WD.U (oLdO (f := d32) (us := us) (j := i) rfl rfl g0 (fun _ => rfl) rfl (by decide) om rfl) rfl <| WD.U (cI ((us.getD i default : Int)) (oCnv rfl rfl rfl) (by rw [IntKind.wrap_u64]; omega)) rfl <| Dm rfl rfl <| Dm rfl rfl <| WD.U (cI (((i + 1 : Nat) : Int)) (oAdd64 rfl rfl om) om) rfl <| WD.U (oIxR (j := i + 1) rfl rfl rfl rfl om om rfl) rfl <| WD.U (oLdO (f := d32) (us := us) (j := i + 1) rfl rfl g0 (fun _ => rfl) rfl (by decide) om rfl) rfl <| WD.U (cI ((us.getD (i + 1) default : Int)) (oCnv rfl rfl rfl) (by rw [IntKind.wrap_u64]; omega)) rfl <| WD.U (cI (((us.getD (i + 1) default * 4294967296 : Nat) : Int)) (oShlU (s := 32) rfl rfl om) om) rfl <| WD.U (oBin (v := .int .u64 (((us.getD i default + us.getD (i + 1) default * 4294967296) : Nat) : Int)) rfl rfl (or_lo om om)) rfl <| Dm rfl rfl <| WD.U (cI ((Z : Int)) (oShrU (s := sh) rfl rfl om) (by rw [hZ]; simp)) rfl <| WD.U (cI (((Z % 4294967296 : Nat) : Int)) (oCnv rfl rfl rfl) (by rw [IntKind.wrap_u32]; omega)) rfl <| WD.U (oIxR rfl rfl rfl rfl rfl om rfl) rfl <| WD.S0 (oStO (f := d32) (us := rs) (Z % 4294967296) rfl rfl rfl (g1 om (g1 om g0)) (fun _ => rfl) rfl rfl om rfl) <| WD.nil (drawOk_of (by kernel_rfl)) rfl <| after_normal <| Ck [6,7,10,25,229,230] rfl ?_
  refine WC.reg1z (z := 2) rfl <| WO.U (cI (((i + 1 : Nat) : Int)) (oAdd64 rfl rfl om) om) rfl <| Um rfl rfl <| Wn <| loopR_normal <| ⟨⟨i + 1, q3, rs.set i (Z % 4294967296)⟩, ⟨rfl, rfl, rfl, congrArg some (by rw [List.length_set]), rfl, rfl, trivial⟩, ⟨g1 om g0, g1 om (g1 (by decide) g0), g0, trivial⟩, ⟨om, by rw [List.length_set]; exact hrl, hrd.set _ (Nat.mod_lt _ (by decide)), by rw [hZ]; exact rest_set om om hud om (hrz i (Nat.le_refl _)) hrv, ?_, hq3⟩, by show vs.length - (i + 1) < vs.length - i; omega⟩
  intro j hj
  rw [lgetD_set om]; exact hrz j om
 refine Wn <| WC.cT rfl <| WC.skips <| WC.block ?_
 have hu0 : us.getD (k - 1 + vs.length) default < 4294967296 := getD_lt hud om
 have hu1 : us.getD (k - 1 + vs.length - 1) default < 4294967296 := getD_lt hud om
 have LQh := lq_make (B := 4294967296) (by decide) (j := k - 1) hud hvd om om om (by rw [show k - 1 + 1 = k by omega]; exact hlt)
 obtain ⟨top, htop⟩ : ∃ top, top = us.getD (k - 1 + vs.length) default * 4294967296 + us.getD (k - 1 + vs.length - 1) default := ⟨_, rfl⟩
 obtain ⟨u2, hu2⟩ : ∃ z, z = us.getD (k - 1 + vs.length - 2) default := ⟨_, rfl⟩
 obtain ⟨v1, hv1⟩ : ∃ z, z = vs.getD (vs.length - 1) default := ⟨_, rfl⟩
 obtain ⟨v2, hv2⟩ : ∃ z, z = vs.getD (vs.length - 2) default := ⟨_, rfl⟩
 rw [← htop, ← hu2, ← hv1, ← hv2] at LQh
 have lu2 : u2 < 4294967296 := by rw [hu2]; exact getD_lt hud om
 have lv1 : v1 < 4294967296 := by rw [hv1]; exact getD_lt hvd om
 have lv2 : v2 < 4294967296 := by rw [hv2]; exact getD_lt hvd om
 have gv1 : 2147483648 ≤ v1 := by rw [hv1]; exact n3
 have htop2 : top < 18446744073709551616 := by omega
 have hRB := LQh.lt_pow (val_lt (B := 4294967296) (by decide) hvd)
 refine WC.draw (z := 18) rfl (by kernel_rfl) <| Dm rfl rfl <| Dm rfl rfl <| Dm rfl rfl <| WD.U (cI (((k - 1 + vs.length : Nat) : Int)) (oAdd64 rfl rfl om) om) rfl <| WD.U (oIxR (j := k - 1 + vs.length) rfl rfl rfl rfl om om rfl) rfl <| WD.U (oLdO (f := d32) (us := us) (j := k - 1 + vs.length) rfl rfl g0 (fun _ => rfl) rfl (by decide) om rfl) rfl <| WD.U (cI ((us.getD (k - 1 + vs.length) default : Int)) (oCnv rfl rfl rfl) (by rw [IntKind.wrap_u64]; omega)) rfl <| WD.U (cI (((us.getD (k - 1 + vs.length) default * 4294967296 : Nat) : Int)) (oShlU (s := 32) rfl rfl om) om) rfl <| Dm rfl rfl <| Dm rfl rfl <| Dm rfl rfl <| WD.U (cI (((k - 1 + vs.length : Nat) : Int)) (oAdd64 rfl rfl om) om) rfl <| WD.U (oSub64 rfl rfl om) rfl <| WD.U (oIxR (j := k - 1 + vs.length - 1) rfl rfl rfl rfl om om rfl) rfl <| WD.U (oLdO (f := d32) (us := us) (j := k - 1 + vs.length - 1) rfl rfl g0 (fun _ => rfl) rfl (by decide) om rfl) rfl <| WD.U (cI ((us.getD (k - 1 + vs.length - 1) default : Int)) (oCnv rfl rfl rfl) (by rw [IntKind.wrap_u64]; omega)) rfl <| WD.U (cI ((top : Int)) (oBin (v := .int .u64 ((us.getD (k - 1 + vs.length) default * 4294967296 + us.getD (k - 1 + vs.length - 1) default : Nat) : Int)) rfl rfl (or_hi om om)) (by rw [htop])) rfl <| WD.U (oAs rfl) rfl <| WD.nil (drawOk_of (by kernel_rfl)) rfl <| Ck [6,7,8,9,10,11,12] rfl <| Rg 9 rfl <| Um rfl rfl <| Um rfl rfl ?_
 refine Um rfl rfl <| WO.U (oSub64 rfl rfl om) rfl <| WO.U (oIxM (j := vs.length - 1) rfl rfl rfl rfl om om rfl) rfl <| WO.U (oLd rfl rfl rfl) rfl <| WO.U (cI ((v1 : Int)) (oCnv rfl rfl rfl) (by rw [IntKind.wrap_u64]; omega)) rfl <| WO.U (oQuoU rfl rfl om om) rfl <| Ua rfl rfl <| Nk [6,7,8,9,10,11,12,13] rfl <| Rg 9 rfl <| Um rfl rfl <| Um rfl rfl <| Um rfl rfl <| WO.U (oSub64 rfl rfl om) rfl <| WO.U (oIxM (j := vs.length - 1) rfl rfl rfl rfl om om rfl) rfl <| WO.U (oLd rfl rfl rfl) rfl <| WO.U (cI ((v1 : Int)) (oCnv rfl rfl rfl) (by rw [IntKind.wrap_u64]; omega)) rfl <| WO.U (oRemU rfl rfl om) rfl <| Ua rfl rfl <| Nk [6,7,8,9,10,11,13,14] rfl <| WC.block <| WC.loopV (α := Nat × Nat) (fun ⟨qh, rh⟩ => [(6, .v (.int .i64 (sh : Int))), (7, .ref (0 + 2 + 8 + 2) 1 0 us.length), (8, .sl 1 (vs.map d32)), (9, .v (.int .i64 (vs.length : Int))), (10, .ref (0 + 2 + 8 + 9 + 3 + 4) 1 0 qs.length), (11, .v (.int .i64 ((k : Int) - 1))), (13, .v (.int .u64 (qh : Int))), (14, .v (.int .u64 (rh : Int)))]) (fun ⟨qh, rh⟩ => [((0 + 2 + 8 + 2), { cells := (us.map d32).flatten, sz := 1, elem := 145, st := 0 }), ((0 + 2 + 8 + 9 + 3 + 4), { cells := (qs.map d32).flatten, sz := 1, elem := 145, st := 0 })]) (fun ⟨qh, rh⟩ n => top = qh * v1 + rh ∧ val 4294967296 (us.drop (k - 1)) / val 4294967296 vs ≤ qh ∧ qh ≤ 4294967297 ∧ rh < 4294967296 ∧ 30 ≤ n) (fun ⟨qh, rh⟩ => qh) (top / v1, top % v1) ⟨rfl, rfl, rfl, rfl, rfl, rfl, rfl, rfl, trivial⟩ ⟨g0, g1 (by decide) g0, trivial⟩ ⟨(Nat.div_add_mod' top v1).symm, lq_start LQh (by decide), lq_first LQh (by decide), by have := Nat.mod_lt top (show 0 < v1 by omega); omega, om⟩ ?_
 rintro ⟨qh, rh⟩ n hG
 change WC _ _ _ _ _ (_ :: _) (_ :: _) n _
 obtain ⟨hG1, hG2, hG3, hG4, hn31⟩ := hG
 refine WC.assoc <| WC.draw (z := 24) rfl (by kernel_rfl) <| Dm rfl rfl <| WD.U (oGeq rfl rfl) rfl <| WD.D (fun h91 => ?_) (fun h91 => ?_)
 ·refine Dm rfl rfl <| WD.K rfl rfl <| WD.K rfl rfl <| WD.K rfl rfl <| WD.K rfl rfl <| WD.K rfl rfl <| WD.K rfl rfl <| WD.K rfl rfl <| WD.K rfl rfl <| WD.K rfl rfl <| WD.K rfl rfl <| WD.K rfl rfl <| WD.K rfl rfl <| WD.K rfl rfl <| WD.K rfl rfl <| WD.K rfl rfl <| WD.K rfl rfl <| WD.K rfl rfl <| WD.K rfl rfl <| WD.K rfl rfl <| WD.K rfl rfl <| WD.U (oPkT rfl rfl) rfl <| WD.nil (drawOk_of (by kernel_rfl)) rfl <| Ck [6,7,8,9,10,11,13,14,93,94,95,96,97,98,99,100,101,102,103,104,105,106,107,108,109,110,111,112,113] rfl ?_
  refine WC.cT rfl <| WC.skips <| WC.block1 ?_
  obtain ⟨hdc1, hdc2⟩ := lq_dec LQh hG1 hG2 (by first | exact .inl om | exact .inr om)
  refine Rg 3 rfl <| Um rfl rfl <| WO.U (cI (((qh - 1 : Nat) : Int)) (oSubU rfl rfl) om) rfl <| Ua rfl rfl <| Nk [6,7,8,9,10,11,13,14,93,94,95,96,97,98,99,100,101,102,103,104,105,106,107,108,109,110,111,112] rfl <| Rg 9 rfl <| Um rfl rfl <| Um rfl rfl <| Um rfl rfl <| WO.U (oSub64 rfl rfl om) rfl <| WO.U (oIxM (j := vs.length - 1) rfl rfl rfl rfl om om rfl) rfl <| WO.U (oLd rfl rfl rfl) rfl <| WO.U (cI ((v1 : Int)) (oCnv rfl rfl rfl) (by rw [IntKind.wrap_u64]; omega)) rfl <| WO.U (cI (((rh + v1 : Nat) : Int)) (oAddU rfl rfl) om) rfl <| Ua rfl rfl <| Nk [6,7,8,9,10,11,13,14,93,94,95,96,97,98,99,100,101,102,103,104,105,106,107,108,109,110,111,112] rfl <| Rg 2 rfl <| Um rfl rfl <| WO.U (oGeq rfl rfl) rfl <| WO.D (fun h125 => ?_) (fun h125 => ?_)
  rotate_left
  ·refine Nk [6,7,8,9,10,11,13,14,93,94,95,96,97,98,99,100,101,102,103,104,105,106,107,108,109,110,111,112,125] rfl <| WC.cF1 rfl <| WC.skip <| after0_normal <| loopR_normal <| ⟨⟨qh - 1, rh + v1⟩, ⟨rfl, rfl, rfl, rfl, rfl, rfl, rfl, rfl, trivial⟩, ⟨g0, g1 (by decide) g0, trivial⟩, ⟨dec_eq hG1 hdc1, hdc2, om, om, om⟩, by show qh - 1 < qh; omega⟩
  refine Nk [6,7,8,9,10,11,13,14,93,94,95,96,97,98,99,100,101,102,103,104,105,106,107,108,109,110,111,112,125] rfl <| WC.cT1 rfl <| WC.exit <| after0_exitF rfl <| loopR_exit <| after_exit rfl <| Ck [6,7,8,9,10,11,13,93,94,95,96,97,98,99,100,101,102,103,104,105,106,107,108,109,110,111,112] rfl ?_
  obtain ⟨hql, hqo⟩ := lq_break LQh hG1 hdc1 hG4 om hG3
  replace hG2 := hdc2
  obtain ⟨q1, hq1⟩ : ∃ q1, q1 = qh - 1 := ⟨_, rfl⟩
  rw [← hq1] at hqo hql hG2 ⊢
  refine Rg 2 rfl <| Ua rfl rfl <| Ua rfl rfl <| Nk [6,7,8,9,10,11,13,15,16,93,94,95,96,97,98,99,100,101,102,103,104,105,106,107,108,109,110,111,112] rfl <| WC.assoc <| Rg 3 rfl <| Um rfl rfl <| WO.U (oLenM rfl rfl) rfl <| Um rfl rfl <| Nk [6,7,8,9,10,11,13,15,16,93,94,95,96,97,98,99,100,101,102,103,104,105,106,107,108,109,110,111,112,126,127,128] rfl <| WC.block ?_
  refine WC.loopV (α := Nat × Nat × Nat × (List Nat)) (fun ⟨i, c, b, us1⟩ => [(6, .v (.int .i64 (sh : Int))), (7, .ref (0 + 2 + 8 + 2) 1 0 us1.length), (8, .sl 1 (vs.map d32)), (9, .v (.int .i64 (vs.length : Int))), (10, .ref (0 + 2 + 8 + 9 + 3 + 4) 1 0 qs.length), (11, .v (.int .i64 ((k : Int) - 1))), (13, .v (.int .u64 (q1 : Int))), (15, .v (.int .u64 (b : Int))), (16, .v (.int .u64 (c : Int))), (126, .sl 1 (vs.map d32)), (127, .v (.int .i64 (vs.length : Int))), (128, .v (.int .i64 (i : Int)))]) (fun ⟨i, c, b, us1⟩ => [((0 + 2 + 8 + 2), { cells := (us1.map d32).flatten, sz := 1, elem := 145, st := 0 }), ((0 + 2 + 8 + 9 + 3 + 4), { cells := (qs.map d32).flatten, sz := 1, elem := 145, st := 0 })]) (fun ⟨i, c, b, us1⟩ n => i ≤ vs.length ∧ us1.length = us.length ∧ Dg 4294967296 us1 ∧ c < 4294967296 ∧ b ≤ 1 ∧ val 4294967296 us1 + 4294967296 ^ (k - 1) * (q1 * val 4294967296 (vs.take i)) = val 4294967296 us + 4294967296 ^ (k - 1 + i) * (c + b) ∧ us1.take (k - 1) = us.take (k - 1) ∧ us1.drop (k - 1 + i) = us.drop (k - 1 + i) ∧ 30 ≤ n) (fun ⟨i, c, b, us1⟩ => vs.length - i) (0, 0, 0, us) ⟨rfl, rfl, rfl, rfl, rfl, rfl, rfl, rfl, rfl, rfl, rfl, rfl, trivial⟩ ⟨g0, g1 (by decide) g0, trivial⟩ ⟨Nat.zero_le _, rfl, hud, by decide, by decide, by simp [val], rfl, rfl, om⟩ ?_
  rintro ⟨i, c, b, us1⟩ n hL
  change WC _ _ _ _ _ (_ :: _) (_ :: _) n _
  obtain ⟨hi, hl1, hd1, hc1, hb1, he1, ht1, hp1, hn32⟩ := hL
  refine Rg 1 rfl <| WO.U (oLss rfl rfl) rfl <| WO.D (fun h129 => ?_) (fun h129 => ?_)
  ·refine Wn <| WC.cT rfl <| WC.skips <| WC.block ?_
   have hvi : vs.getD i default < 4294967296 := getD_lt hvd om
   have hui : us1.getD (k - 1 + i) default < 4294967296 := getD_lt hd1 om
   have hqv := mul_dig hql hvi
   obtain ⟨p, hpe⟩ : ∃ p, p = q1 * vs.getD i default + c := ⟨_, rfl⟩
   obtain ⟨u, hue⟩ : ∃ u, u = us1.getD (k - 1 + i) default := ⟨_, rfl⟩
   have hpb : p < 18446744073709551616 := by omega
   obtain ⟨d, hde⟩ : ∃ d, d = (u + 4294967296 - p % 4294967296 - b) % 4294967296 := ⟨_, rfl⟩
   refine Rg 5 rfl <| Um rfl rfl <| WO.U (oIxM rfl rfl rfl rfl rfl om rfl) rfl <| WO.U (oLd rfl rfl rfl) rfl <| Ua rfl rfl <| Ua rfl rfl <| Nk [6,7,8,9,10,11,13,15,16,17,18,126,127,128] rfl <| Rg 7 rfl <| Um rfl rfl <| Um rfl rfl <| WO.U (cI ((vs.getD i default : Int)) (oCnv rfl rfl rfl) (by rw [IntKind.wrap_u64]; omega)) rfl <| WO.U (cI (((q1 * vs.getD i default : Nat) : Int)) (oMulU rfl rfl) (by rw [← Int.natCast_mul]; omega)) rfl <| Um rfl rfl <| WO.U (cI ((p : Int)) (oAddU rfl rfl) om) rfl <| Ua rfl rfl <| Nk [6,7,8,9,10,11,13,15,17,19,126,127,128] rfl <| Rg 3 rfl <| Um rfl rfl <| WO.U (cI (((p / 4294967296 : Nat) : Int)) (oShrU (s := 32) rfl rfl om) om) rfl <| Ua rfl rfl <| Nk [6,7,8,9,10,11,13,15,16,17,19,126,127,128] rfl ?_
   refine Rg 14 rfl <| Um rfl rfl <| Um rfl rfl <| Um rfl rfl <| WO.U (cI (((k - 1 + i : Nat) : Int)) (oAdd64 rfl rfl om) om) rfl <| WO.U (oIxR (j := k - 1 + i) rfl rfl rfl rfl om om rfl) rfl <| WO.U (oLdO (f := d32) (us := us1) (j := k - 1 + i) rfl rfl g0 (fun _ => rfl) rfl (by decide) om rfl) rfl <| WO.U (cI ((u : Int)) (oCnv rfl rfl rfl) (by rw [IntKind.wrap_u64]; omega)) rfl <| Um rfl rfl <| WO.U (cI (((p % 4294967296 : Nat) : Int)) (oCnv rfl rfl rfl) (by rw [IntKind.wrap_u32]; omega)) rfl <| WO.U (cI (((p % 4294967296 : Nat) : Int)) (oCnv rfl rfl rfl) (by rw [IntKind.wrap_u64]; omega)) rfl <| WO.U (oSubU rfl rfl) rfl <| Um rfl rfl <| WO.U (cI (((((u + 18446744073709551616 - p % 4294967296 - b) % 18446744073709551616) : Nat) : Int)) (oSubU rfl rfl) om) rfl <| Ua rfl rfl <| Nk [6,7,8,9,10,11,13,16,17,20,126,127,128] rfl <| Rg 8 rfl <| Um rfl rfl <| Um rfl rfl <| Um rfl rfl <| WO.U (cI (((k - 1 + i : Nat) : Int)) (oAdd64 rfl rfl om) om) rfl <| Um rfl rfl <| WO.U (cI ((d : Int)) (oCnv rfl rfl rfl) (by rw [IntKind.wrap_u32]; omega)) rfl ?_
   refine WO.U (oIxR (j := k - 1 + i) rfl rfl rfl rfl om om rfl) rfl <| WO.S0 (oStO (f := d32) (us := us1) d rfl rfl rfl g0 (fun _ => rfl) rfl rfl om rfl) <| Nk [6,7,8,9,10,11,13,16,20,126,127,128] rfl <| WC.reg1z (z := 3) rfl <| Um rfl rfl <| WO.U (cI (((if u < p % 4294967296 + b then 1 else 0 : Nat) : Int)) (oShrU (s := 63) rfl rfl om) (by split <;> omega)) rfl <| Ua rfl rfl <| Wn <| after_normal <| Ck [6,7,8,9,10,11,13,15,16,126,127,128] rfl <| WC.reg1z (z := 2) rfl <| WO.U (cI (((i + 1 : Nat) : Int)) (oAdd64 rfl rfl om) om) rfl <| Um rfl rfl <| Wn <| loopR_normal <| ⟨⟨i + 1, p / 4294967296, if u < p % 4294967296 + b then 1 else 0, us1.set (k - 1 + i) d⟩, ⟨rfl, congrArg some (by rw [List.length_set]), rfl, rfl, rfl, rfl, rfl, rfl, rfl, rfl, rfl, rfl, trivial⟩, ⟨g0, g1 (by decide) (g1 (by decide) g0), trivial⟩, ⟨om, by rw [List.length_set]; exact hl1, hd1.set _ om, om, by split <;> omega, ?_, by rw [take_set_le om]; exact ht1, by rw [drop_set_lt om]; exact drop_more hp1 om, om⟩, by show vs.length - (i + 1) < vs.length - i; omega⟩
   rw [hpe]
   exact submul_step he1 om (by rw [← hpe, ← hue, hde]; split <;> omega)
  refine Wn <| WC.cF rfl <| WC.exits <| loopR_exit <| after_exit rfl ?_
  have hi' : i = vs.length := by omega
  subst hi'
  rw [List.take_of_length_le (Nat.le_refl _)] at he1
  obtain ⟨u, hue⟩ : ∃ u, u = us1.getD (k - 1 + vs.length) default := ⟨_, rfl⟩
  have hul1 : u < 4294967296 := by rw [hue]; exact getD_lt hd1 om
  obtain ⟨d, hde⟩ : ∃ d, d = (u + 4294967296 - c - b) % 4294967296 := ⟨_, rfl⟩
  have hd4 : d < 4294967296 := by omega
  refine Rg 12 rfl <| Um rfl rfl <| Um rfl rfl <| Um rfl rfl <| WO.U (cI (((k - 1 + vs.length : Nat) : Int)) (oAdd64 rfl rfl om) om) rfl <| WO.U (oIxR (j := k - 1 + vs.length) rfl rfl rfl rfl om om rfl) rfl <| WO.U (oLdO (f := d32) (us := us1) (j := k - 1 + vs.length) rfl rfl g0 (fun _ => rfl) rfl (by decide) om rfl) rfl <| WO.U (cI ((u : Int)) (oCnv rfl rfl rfl) (by rw [IntKind.wrap_u64]; omega)) rfl <| Um rfl rfl <| WO.U (oSubU rfl rfl) rfl <| Um rfl rfl <| WO.U (cI (((((u + 18446744073709551616 - c - b) % 18446744073709551616) : Nat) : Int)) (oSubU rfl rfl) om) rfl <| Ua rfl rfl <| Nk [6,7,8,9,10,11,13,21] rfl <| Rg 8 rfl <| Um rfl rfl <| Um rfl rfl <| Um rfl rfl <| WO.U (cI (((k - 1 + vs.length : Nat) : Int)) (oAdd64 rfl rfl om) om) rfl <| Um rfl rfl <| WO.U (cI ((d : Int)) (oCnv rfl rfl rfl) (by rw [IntKind.wrap_u32]; omega)) rfl <| WO.U (oIxR (j := k - 1 + vs.length) rfl rfl rfl rfl om om rfl) rfl <| WO.S0 (oStO (f := d32) (us := us1) d rfl rfl rfl g0 (fun _ => rfl) rfl rfl om rfl) ?_
  refine Nk [6,7,8,9,10,11,13,21] rfl <| WC.assoc <| Rg 3 rfl <| Um rfl rfl <| WO.U (cI (((if u < c + b then 1 else 0 : Nat) : Int)) (oShrU (s := 63) rfl rfl om) (by split <;> omega)) rfl <| WO.U (oEql rfl rfl) rfl <| WO.D (fun h184 => ?_) (fun h184 => ?_)
  rotate_left
  ·have hneg : c + b ≤ u := by
    rcases Nat.lt_or_ge u (c + b) with h | h
    ·rw [if_pos h] at h184; simp at h184
    ·exact h
   have hs2 := sub_last (o := 0) (d := d) he1 om (by rw [← hue]; omega)
   rw [Nat.mul_zero, Nat.add_zero] at hs2
   refine Wn <| WC.cF rfl <| WC.skips ?_
   have hlF : (us1.set (k - 1 + vs.length) d).length = us.length := by rw [List.length_set]; exact hl1
   have hdF : Dg 4294967296 (us1.set (k - 1 + vs.length) d) := hd1.set _ hd4
   have hltF := long_end0 (by decide) hV0 om om (by rw [take_set_le om]; exact ht1) hs2 hG2
   have hUF := long_next (qs := qs) (j := k - 1) om (by rw [show k - 1 + 1 = k by omega]; exact hU) hs2
   refine WC.reg1z (z := 6) rfl <| Um rfl rfl <| Um rfl rfl <| Um rfl rfl <| WO.U (cI ((q1 : Int)) (oCnv rfl rfl rfl) (by rw [IntKind.wrap_u32]; omega)) rfl <| WO.U (oIxR (j := k - 1) rfl rfl rfl rfl om om rfl) rfl <| WO.S0 (oStO (f := d32) (us := qs) q1 rfl rfl rfl (g1 (by decide) (g1 (by decide) g0)) (fun _ => rfl) rfl rfl om rfl) <| Wn <| after_normal <| Ck [6,7,8,9,10,11] rfl <| WC.reg1z (z := 3) rfl <| Um rfl rfl <| WO.U (cI (((k - 1 : Nat) : Int) - 1) (oSub64 rfl rfl om) om) rfl <| Ua rfl rfl <| Wn <| loopR_normal <| ⟨⟨k - 1, (us1.set (k - 1 + vs.length) d), qs.set (k - 1) q1⟩, ⟨rfl, congrArg some (by rw [List.length_set]), rfl, rfl, congrArg some (by rw [List.length_set]), rfl, trivial⟩, ⟨g1 (by decide) g0, g0, trivial⟩, ⟨by rw [hlF]; omega, by rw [hlF]; exact hul, by rw [List.length_set]; exact hql0, hdF, hqd.set _ om, hUF, hltF, om⟩, by show k - 1 < k; omega⟩
  have hneg : u < c + b := by
   rcases Nat.lt_or_ge u (c + b) with h | h
   ·exact h
   ·rw [if_neg om] at h184; simp at h184
  have hs2 := sub_last (o := 1) (d := d) he1 om (by rw [← hue]; omega)
  have hlT : (us1.set (k - 1 + vs.length) d).length = us.length := by rw [List.length_set]; exact hl1
  have hdT : Dg 4294967296 (us1.set (k - 1 + vs.length) d) := hd1.set _ hd4
  have htT : (us1.set (k - 1 + vs.length) d).take (k - 1) = us.take (k - 1) := by rw [take_set_le om]; exact ht1
  have hpT : (us1.set (k - 1 + vs.length) d).drop (k - 1 + vs.length + 1) = us.drop (k - 1 + vs.length + 1) := by rw [drop_set_lt om]; exact drop_more hp1 om
  obtain ⟨hgt, hq1p⟩ := neg_gt (by decide) hdT om hlT hRB hpT htT hs2
  refine Wn <| WC.cT rfl <| WC.assoc <| Rg 3 rfl <| Um rfl rfl <| WO.U (cI (((q1 - 1 : Nat) : Int)) (oSubU rfl rfl) om) rfl <| Ua rfl rfl <| Wn <| WC.assoc <| Rg 1 rfl <| Ua rfl rfl <| Wn <| WC.assoc <| WC.assoc <| Rg 3 rfl <| Um rfl rfl <| WO.U (oLenM rfl rfl) rfl <| Um rfl rfl <| Nk [6,7,8,9,10,11,13,22,187,188,189] rfl <| WC.block <| WC.loopV (α := Nat × Nat × (List Nat)) (fun ⟨i2, c2, us3⟩ => [(6, .v (.int .i64 (sh : Int))), (7, .ref (0 + 2 + 8 + 2) 1 0 us3.length), (8, .sl 1 (vs.map d32)), (9, .v (.int .i64 (vs.length : Int))), (10, .ref (0 + 2 + 8 + 9 + 3 + 4) 1 0 qs.length), (11, .v (.int .i64 ((k : Int) - 1))), (13, .v (.int .u64 ((q1 - 1 : Nat) : Int))), (22, .v (.int .u32 (c2 : Int))), (187, .sl 1 (vs.map d32)), (188, .v (.int .i64 (vs.length : Int))), (189, .v (.int .i64 (i2 : Int)))]) (fun ⟨i2, c2, us3⟩ => [((0 + 2 + 8 + 2), { cells := (us3.map d32).flatten, sz := 1, elem := 145, st := 0 }), ((0 + 2 + 8 + 9 + 3 + 4), { cells := (qs.map d32).flatten, sz := 1, elem := 145, st := 0 })]) (fun ⟨i2, c2, us3⟩ n => i2 ≤ vs.length ∧ us3.length = us.length ∧ Dg 4294967296 us3 ∧ c2 ≤ 1 ∧ val 4294967296 us3 + 4294967296 ^ (k - 1 + i2) * c2 = val 4294967296 (us1.set (k - 1 + vs.length) d) + 4294967296 ^ (k - 1) * val 4294967296 (vs.take i2) ∧ us3.take (k - 1) = us.take (k - 1) ∧ us3.drop (k - 1 + vs.length) = (us1.set (k - 1 + vs.length) d).drop (k - 1 + vs.length) ∧ 30 ≤ n) (fun ⟨i2, c2, us3⟩ => vs.length - i2) (0, 0, (us1.set (k - 1 + vs.length) d)) ⟨rfl, congrArg some (by rw [List.length_set]), rfl, rfl, rfl, rfl, rfl, rfl, rfl, rfl, rfl, trivial⟩ ⟨g0, g1 (by decide) (g1 (by decide) g0), trivial⟩ ⟨Nat.zero_le _, hlT, hdT, by decide, by simp [val], htT, rfl, om⟩ ?_
  rintro ⟨i2, c2, us3⟩ n hM
  change WC _ _ _ _ _ (_ :: _) (_ :: _) n _
  obtain ⟨hi2, hl3, hd3, hc3, he3, ht3, hp3, hn33⟩ := hM
  refine Rg 1 rfl <| WO.U (oLss rfl rfl) rfl <| WO.D (fun h190 => ?_) (fun h190 => ?_)
  ·refine Wn <| WC.cT rfl <| WC.skips <| WC.block <| Rg 5 rfl <| Um rfl rfl <| WO.U (oIxM rfl rfl rfl rfl rfl om rfl) rfl <| WO.U (oLd rfl rfl rfl) rfl <| Ua rfl rfl <| Ua rfl rfl <| Nk [6,7,8,9,10,11,13,22,23,24,187,188,189] rfl ?_
   have hu3 : us3.getD (k - 1 + i2) default < 4294967296 := getD_lt hd3 om
   have hv3 : vs.getD i2 default < 4294967296 := getD_lt hvd om
   refine WC.reg1z (z := 19) rfl <| Um rfl rfl <| Um rfl rfl <| Um rfl rfl <| WO.U (cI (((k - 1 + i2 : Nat) : Int)) (oAdd64 rfl rfl om) om) rfl <| Um rfl rfl <| Um rfl rfl <| Um rfl rfl <| WO.U (cI (((k - 1 + i2 : Nat) : Int)) (oAdd64 rfl rfl om) om) rfl <| WO.U (oIxR (j := k - 1 + i2) rfl rfl rfl rfl om om rfl) rfl <| WO.U (oLdO (f := d32) (us := us3) (j := k - 1 + i2) rfl rfl g0 (fun _ => rfl) rfl (by decide) om rfl) rfl <| Um rfl rfl <| Um rfl rfl <| WO.U (oCall rfl (add32_run (us3.getD (k - 1 + i2) default) (vs.getD i2 default) c2 hu3 hv3 hc3) (by simp)) rfl <| Um rfl rfl <| WO.U (oEx rfl rfl) rfl <| WO.U (oEx rfl rfl) rfl <| WO.U (oIxR (j := k - 1 + i2) rfl rfl rfl rfl om om rfl) rfl <| WO.S0 (oStO (f := d32) (us := us3) ((us3.getD (k - 1 + i2) default + vs.getD i2 default + c2) % 4294967296) rfl rfl rfl g0 (fun _ => rfl) rfl rfl om rfl) <| Ua rfl rfl <| Wn <| after_normal <| Ck [6,7,8,9,10,11,13,22,187,188,189] rfl <| WC.reg1z (z := 2) rfl ?_
   refine WO.U (cI (((i2 + 1 : Nat) : Int)) (oAdd64 rfl rfl om) om) rfl <| Um rfl rfl <| Wn <| loopR_normal <| ⟨⟨i2 + 1, _, us3.set (k - 1 + i2) ((us3.getD (k - 1 + i2) default + vs.getD i2 default + c2) % 4294967296)⟩, ⟨rfl, congrArg some (by rw [List.length_set]), rfl, rfl, rfl, rfl, rfl, rfl, rfl, rfl, rfl, trivial⟩, ⟨g0, g1 (by decide) (g1 (by decide) g0), trivial⟩, ⟨om, by rw [List.length_set]; exact hl3, hd3.set _ om, om, addback_step he3 om, by rw [take_set_le om]; exact ht3, by rw [drop_set_lt om]; exact hp3, om⟩, by show vs.length - (i2 + 1) < vs.length - i2; omega⟩
  refine Wn <| WC.cF rfl <| WC.exits <| loopR_exit <| after_exit rfl ?_
  have hi' : i2 = vs.length := by omega
  subst hi'
  rw [List.take_of_length_le (Nat.le_refl _)] at he3
  have hu3 : us3.getD (k - 1 + vs.length) default < 4294967296 := getD_lt hd3 om
  refine Rg 10 rfl <| Um rfl rfl <| Um rfl rfl <| Um rfl rfl <| WO.U (cI (((k - 1 + vs.length : Nat) : Int)) (oAdd64 rfl rfl om) om) rfl <| WO.U (oIxR (j := k - 1 + vs.length) rfl rfl rfl rfl om om rfl) rfl <| WO.U (oLdO (f := d32) (us := us3) (j := k - 1 + vs.length) rfl rfl g0 (fun _ => rfl) rfl (by decide) om rfl) rfl <| Um rfl rfl <| WO.U (cI ((((us3.getD (k - 1 + vs.length) default + c2) % 4294967296 : Nat) : Int)) (oAdd32 rfl rfl) om) rfl <| WO.U (oIxR (j := k - 1 + vs.length) rfl rfl rfl rfl om om rfl) rfl <| WO.S0 (oStO (f := d32) (us := us3) ((us3.getD (k - 1 + vs.length) default + c2) % 4294967296) rfl rfl rfl g0 (fun _ => rfl) rfl rfl om rfl) <| Nk [6,7,8,9,10,11,13] rfl ?_
  have hlF : (us3.set (k - 1 + vs.length) ((us3.getD (k - 1 + vs.length) default + c2) % 4294967296)).length = us.length := by rw [List.length_set]; exact hl3
  have hdF : Dg 4294967296 (us3.set (k - 1 + vs.length) ((us3.getD (k - 1 + vs.length) default + c2) % 4294967296)) := hd3.set _ om
  have h4 := addback_last he3 om
  obtain ⟨hs4, hltF⟩ := back_end (by decide) hV0 hdF om hlF hRB (by rw [drop_set_lt om]; exact (drop_more hp3 om).trans hpT) (by rw [take_set_le om]; exact ht3) hs2 h4 hG2 hq1p hqo hgt om
  have hUF := long_next (qs := qs) (j := k - 1) om (by rw [show k - 1 + 1 = k by omega]; exact hU) hs4
  refine WC.reg1z (z := 6) rfl <| Um rfl rfl <| Um rfl rfl <| Um rfl rfl <| WO.U (cI (((q1 - 1 : Nat) : Int)) (oCnv rfl rfl rfl) (by rw [IntKind.wrap_u32]; omega)) rfl <| WO.U (oIxR (j := k - 1) rfl rfl rfl rfl om om rfl) rfl <| WO.S0 (oStO (f := d32) (us := qs) (q1 - 1) rfl rfl rfl (g1 (by decide) (g1 (by decide) g0)) (fun _ => rfl) rfl rfl om rfl) <| Wn <| after_normal <| WC.reg1z (z := 3) rfl <| Um rfl rfl <| WO.U (cI (((k - 1 : Nat) : Int) - 1) (oSub64 rfl rfl om) om) rfl <| Ua rfl rfl <| Wn <| loopR_normal <| ⟨⟨k - 1, (us3.set (k - 1 + vs.length) ((us3.getD (k - 1 + vs.length) default + c2) % 4294967296)), qs.set (k - 1) (q1 - 1)⟩, ⟨rfl, congrArg some (by rw [List.length_set]), rfl, rfl, congrArg some (by rw [List.length_set]), rfl, trivial⟩, ⟨g1 (by decide) g0, g0, trivial⟩, ⟨by rw [hlF]; omega, by rw [hlF]; exact hul, by rw [List.length_set]; exact hql0, hdF, hqd.set _ om, hUF, hltF, om⟩, by show k - 1 < k; omega⟩
 refine Dm rfl rfl <| WD.Ug rfl (oMv rfl) rfl <| WD.Ug rfl (oMv rfl) rfl <| WD.Ug rfl (oMv rfl) rfl <| WD.Ug rfl (oSub64 rfl rfl om) rfl <| WD.Ug rfl (oIxM (j := vs.length - 2) rfl rfl rfl rfl om om rfl) rfl <| WD.Ug rfl (oLd rfl rfl rfl) rfl <| WD.Ug rfl (cI ((v2 : Int)) (oCnv rfl rfl rfl) (by rw [IntKind.wrap_u64]; omega)) rfl <| WD.Ug rfl (cI (((qh * v2 : Nat) : Int)) (oMulU rfl rfl) (by rw [← Int.natCast_mul]; have := mul_dig (a := qh) (b := v2) om om; omega)) rfl <| WD.Ug rfl (oMv rfl) rfl <| WD.Ug rfl (cI (((rh * 4294967296 : Nat) : Int)) (oShlU (s := 32) rfl rfl om) om) rfl <| WD.Ug rfl (oMv rfl) rfl <| WD.Ug rfl (oMv rfl) rfl <| WD.Ug rfl (oMv rfl) rfl <| WD.Ug rfl (cI (((k - 1 + vs.length : Nat) : Int)) (oAdd64 rfl rfl om) om) rfl <| WD.Ug rfl (oSub64 rfl rfl om) rfl <| WD.Ug rfl (oIxR (j := k - 1 + vs.length - 2) rfl rfl rfl rfl om om rfl) rfl <| WD.Ug rfl (oLdO (f := d32) (us := us) (j := k - 1 + vs.length - 2) rfl rfl g0 (fun _ => rfl) rfl (by decide) om rfl) rfl <| WD.Ug rfl (cI ((u2 : Int)) (oCnv rfl rfl rfl) (by rw [IntKind.wrap_u64]; omega)) rfl <| WD.Ug rfl (oBin (v := .int .u64 ((rh * 4294967296 + u2 : Nat) : Int)) rfl rfl (or_hi om om)) rfl <| WD.Ug rfl (oGtr rfl rfl) rfl <| WD.D (fun h112 => ?_) (fun h112 => ?_)
 rotate_left
 ·refine WD.U (oPkF rfl rfl) rfl <| WD.nil (drawOk_of (by kernel_rfl)) rfl <| Ck [6,7,8,9,10,11,13,14,93,94,95,96,97,98,99,100,101,102,103,104,105,106,107,108,109,110,111,112,113] rfl <| WC.cF rfl <| WC.exits <| loopR_exit <| after_exit rfl <| Ck [6,7,8,9,10,11,13,93,94,95,96,97,98,99,100,101,102,103,104,105,106,107,108,109,110,111,112] rfl ?_
  have hqo := lq_ok LQh hG1 (show qh < 4294967296 by omega) om
  have hql : qh < 4294967296 := by omega
  obtain ⟨q1, hq1⟩ : ∃ q1, q1 = qh := ⟨_, rfl⟩
  rw [← hq1] at hqo hql hG2 ⊢
  refine Rg 2 rfl <| Ua rfl rfl <| Ua rfl rfl <| Nk [6,7,8,9,10,11,13,15,16,93,94,95,96,97,98,99,100,101,102,103,104,105,106,107,108,109,110,111,112] rfl <| WC.assoc <| Rg 3 rfl <| Um rfl rfl <| WO.U (oLenM rfl rfl) rfl <| Um rfl rfl <| Nk [6,7,8,9,10,11,13,15,16,93,94,95,96,97,98,99,100,101,102,103,104,105,106,107,108,109,110,111,112,126,127,128] rfl <| WC.block ?_
  refine WC.loopV (α := Nat × Nat × Nat × (List Nat)) (fun ⟨i, c, b, us1⟩ => [(6, .v (.int .i64 (sh : Int))), (7, .ref (0 + 2 + 8 + 2) 1 0 us1.length), (8, .sl 1 (vs.map d32)), (9, .v (.int .i64 (vs.length : Int))), (10, .ref (0 + 2 + 8 + 9 + 3 + 4) 1 0 qs.length), (11, .v (.int .i64 ((k : Int) - 1))), (13, .v (.int .u64 (q1 : Int))), (15, .v (.int .u64 (b : Int))), (16, .v (.int .u64 (c : Int))), (126, .sl 1 (vs.map d32)), (127, .v (.int .i64 (vs.length : Int))), (128, .v (.int .i64 (i : Int)))]) (fun ⟨i, c, b, us1⟩ => [((0 + 2 + 8 + 2), { cells := (us1.map d32).flatten, sz := 1, elem := 145, st := 0 }), ((0 + 2 + 8 + 9 + 3 + 4), { cells := (qs.map d32).flatten, sz := 1, elem := 145, st := 0 })]) (fun ⟨i, c, b, us1⟩ n => i ≤ vs.length ∧ us1.length = us.length ∧ Dg 4294967296 us1 ∧ c < 4294967296 ∧ b ≤ 1 ∧ val 4294967296 us1 + 4294967296 ^ (k - 1) * (q1 * val 4294967296 (vs.take i)) = val 4294967296 us + 4294967296 ^ (k - 1 + i) * (c + b) ∧ us1.take (k - 1) = us.take (k - 1) ∧ us1.drop (k - 1 + i) = us.drop (k - 1 + i) ∧ 30 ≤ n) (fun ⟨i, c, b, us1⟩ => vs.length - i) (0, 0, 0, us) ⟨rfl, rfl, rfl, rfl, rfl, rfl, rfl, rfl, rfl, rfl, rfl, rfl, trivial⟩ ⟨g0, g1 (by decide) g0, trivial⟩ ⟨Nat.zero_le _, rfl, hud, by decide, by decide, by simp [val], rfl, rfl, om⟩ ?_
  rintro ⟨i, c, b, us1⟩ n hL
  change WC _ _ _ _ _ (_ :: _) (_ :: _) n _
  obtain ⟨hi, hl1, hd1, hc1, hb1, he1, ht1, hp1, hn32⟩ := hL
  refine Rg 1 rfl <| WO.U (oLss rfl rfl) rfl <| WO.D (fun h129 => ?_) (fun h129 => ?_)
  ·refine Wn <| WC.cT rfl <| WC.skips <| WC.block ?_
   have hvi : vs.getD i default < 4294967296 := getD_lt hvd om
   have hui : us1.getD (k - 1 + i) default < 4294967296 := getD_lt hd1 om
   have hqv := mul_dig hql hvi
   obtain ⟨p, hpe⟩ : ∃ p, p = q1 * vs.getD i default + c := ⟨_, rfl⟩
   obtain ⟨u, hue⟩ : ∃ u, u = us1.getD (k - 1 + i) default := ⟨_, rfl⟩
   have hpb : p < 18446744073709551616 := by omega
   obtain ⟨d, hde⟩ : ∃ d, d = (u + 4294967296 - p % 4294967296 - b) % 4294967296 := ⟨_, rfl⟩
   refine Rg 5 rfl <| Um rfl rfl <| WO.U (oIxM rfl rfl rfl rfl rfl om rfl) rfl <| WO.U (oLd rfl rfl rfl) rfl <| Ua rfl rfl <| Ua rfl rfl <| Nk [6,7,8,9,10,11,13,15,16,17,18,126,127,128] rfl <| Rg 7 rfl <| Um rfl rfl <| Um rfl rfl <| WO.U (cI ((vs.getD i default : Int)) (oCnv rfl rfl rfl) (by rw [IntKind.wrap_u64]; omega)) rfl <| WO.U (cI (((q1 * vs.getD i default : Nat) : Int)) (oMulU rfl rfl) (by rw [← Int.natCast_mul]; omega)) rfl <| Um rfl rfl <| WO.U (cI ((p : Int)) (oAddU rfl rfl) om) rfl <| Ua rfl rfl <| Nk [6,7,8,9,10,11,13,15,17,19,126,127,128] rfl <| Rg 3 rfl <| Um rfl rfl <| WO.U (cI (((p / 4294967296 : Nat) : Int)) (oShrU (s := 32) rfl rfl om) om) rfl <| Ua rfl rfl <| Nk [6,7,8,9,10,11,13,15,16,17,19,126,127,128] rfl ?_
   refine Rg 14 rfl <| Um rfl rfl <| Um rfl rfl <| Um rfl rfl <| WO.U (cI (((k - 1 + i : Nat) : Int)) (oAdd64 rfl rfl om) om) rfl <| WO.U (oIxR (j := k - 1 + i) rfl rfl rfl rfl om om rfl) rfl <| WO.U (oLdO (f := d32) (us := us1) (j := k - 1 + i) rfl rfl g0 (fun _ => rfl) rfl (by decide) om rfl) rfl <| WO.U (cI ((u : Int)) (oCnv rfl rfl rfl) (by rw [IntKind.wrap_u64]; omega)) rfl <| Um rfl rfl <| WO.U (cI (((p % 4294967296 : Nat) : Int)) (oCnv rfl rfl rfl) (by rw [IntKind.wrap_u32]; omega)) rfl <| WO.U (cI (((p % 4294967296 : Nat) : Int)) (oCnv rfl rfl rfl) (by rw [IntKind.wrap_u64]; omega)) rfl <| WO.U (oSubU rfl rfl) rfl <| Um rfl rfl <| WO.U (cI (((((u + 18446744073709551616 - p % 4294967296 - b) % 18446744073709551616) : Nat) : Int)) (oSubU rfl rfl) om) rfl <| Ua rfl rfl <| Nk [6,7,8,9,10,11,13,16,17,20,126,127,128] rfl <| Rg 8 rfl <| Um rfl rfl <| Um rfl rfl <| Um rfl rfl <| WO.U (cI (((k - 1 + i : Nat) : Int)) (oAdd64 rfl rfl om) om) rfl <| Um rfl rfl <| WO.U (cI ((d : Int)) (oCnv rfl rfl rfl) (by rw [IntKind.wrap_u32]; omega)) rfl ?_
   refine WO.U (oIxR (j := k - 1 + i) rfl rfl rfl rfl om om rfl) rfl <| WO.S0 (oStO (f := d32) (us := us1) d rfl rfl rfl g0 (fun _ => rfl) rfl rfl om rfl) <| Nk [6,7,8,9,10,11,13,16,20,126,127,128] rfl <| WC.reg1z (z := 3) rfl <| Um rfl rfl <| WO.U (cI (((if u < p % 4294967296 + b then 1 else 0 : Nat) : Int)) (oShrU (s := 63) rfl rfl om) (by split <;> omega)) rfl <| Ua rfl rfl <| Wn <| after_normal <| Ck [6,7,8,9,10,11,13,15,16,126,127,128] rfl <| WC.reg1z (z := 2) rfl <| WO.U (cI (((i + 1 : Nat) : Int)) (oAdd64 rfl rfl om) om) rfl <| Um rfl rfl <| Wn <| loopR_normal <| ⟨⟨i + 1, p / 4294967296, if u < p % 4294967296 + b then 1 else 0, us1.set (k - 1 + i) d⟩, ⟨rfl, congrArg some (by rw [List.length_set]), rfl, rfl, rfl, rfl, rfl, rfl, rfl, rfl, rfl, rfl, trivial⟩, ⟨g0, g1 (by decide) (g1 (by decide) g0), trivial⟩, ⟨om, by rw [List.length_set]; exact hl1, hd1.set _ om, om, by split <;> omega, ?_, by rw [take_set_le om]; exact ht1, by rw [drop_set_lt om]; exact drop_more hp1 om, om⟩, by show vs.length - (i + 1) < vs.length - i; omega⟩
   rw [hpe]
   exact submul_step he1 om (by rw [← hpe, ← hue, hde]; split <;> omega)
  refine Wn <| WC.cF rfl <| WC.exits <| loopR_exit <| after_exit rfl ?_
  have hi' : i = vs.length := by omega
  subst hi'
  rw [List.take_of_length_le (Nat.le_refl _)] at he1
  obtain ⟨u, hue⟩ : ∃ u, u = us1.getD (k - 1 + vs.length) default := ⟨_, rfl⟩
  have hul1 : u < 4294967296 := by rw [hue]; exact getD_lt hd1 om
  obtain ⟨d, hde⟩ : ∃ d, d = (u + 4294967296 - c - b) % 4294967296 := ⟨_, rfl⟩
  have hd4 : d < 4294967296 := by omega
  refine Rg 12 rfl <| Um rfl rfl <| Um rfl rfl <| Um rfl rfl <| WO.U (cI (((k - 1 + vs.length : Nat) : Int)) (oAdd64 rfl rfl om) om) rfl <| WO.U (oIxR (j := k - 1 + vs.length) rfl rfl rfl rfl om om rfl) rfl <| WO.U (oLdO (f := d32) (us := us1) (j := k - 1 + vs.length) rfl rfl g0 (fun _ => rfl) rfl (by decide) om rfl) rfl <| WO.U (cI ((u : Int)) (oCnv rfl rfl rfl) (by rw [IntKind.wrap_u64]; omega)) rfl <| Um rfl rfl <| WO.U (oSubU rfl rfl) rfl <| Um rfl rfl <| WO.U (cI (((((u + 18446744073709551616 - c - b) % 18446744073709551616) : Nat) : Int)) (oSubU rfl rfl) om) rfl <| Ua rfl rfl <| Nk [6,7,8,9,10,11,13,21] rfl <| Rg 8 rfl <| Um rfl rfl <| Um rfl rfl <| Um rfl rfl <| WO.U (cI (((k - 1 + vs.length : Nat) : Int)) (oAdd64 rfl rfl om) om) rfl <| Um rfl rfl <| WO.U (cI ((d : Int)) (oCnv rfl rfl rfl) (by rw [IntKind.wrap_u32]; omega)) rfl <| WO.U (oIxR (j := k - 1 + vs.length) rfl rfl rfl rfl om om rfl) rfl <| WO.S0 (oStO (f := d32) (us := us1) d rfl rfl rfl g0 (fun _ => rfl) rfl rfl om rfl) ?_
  refine Nk [6,7,8,9,10,11,13,21] rfl <| WC.assoc <| Rg 3 rfl <| Um rfl rfl <| WO.U (cI (((if u < c + b then 1 else 0 : Nat) : Int)) (oShrU (s := 63) rfl rfl om) (by split <;> omega)) rfl <| WO.U (oEql rfl rfl) rfl <| WO.D (fun h184 => ?_) (fun h184 => ?_)
  rotate_left
  ·have hneg : c + b ≤ u := by
    rcases Nat.lt_or_ge u (c + b) with h | h
    ·rw [if_pos h] at h184; simp at h184
    ·exact h
   have hs2 := sub_last (o := 0) (d := d) he1 om (by rw [← hue]; omega)
   rw [Nat.mul_zero, Nat.add_zero] at hs2
   refine Wn <| WC.cF rfl <| WC.skips ?_
   have hlF : (us1.set (k - 1 + vs.length) d).length = us.length := by rw [List.length_set]; exact hl1
   have hdF : Dg 4294967296 (us1.set (k - 1 + vs.length) d) := hd1.set _ hd4
   have hltF := long_end0 (by decide) hV0 om om (by rw [take_set_le om]; exact ht1) hs2 hG2
   have hUF := long_next (qs := qs) (j := k - 1) om (by rw [show k - 1 + 1 = k by omega]; exact hU) hs2
   refine WC.reg1z (z := 6) rfl <| Um rfl rfl <| Um rfl rfl <| Um rfl rfl <| WO.U (cI ((q1 : Int)) (oCnv rfl rfl rfl) (by rw [IntKind.wrap_u32]; omega)) rfl <| WO.U (oIxR (j := k - 1) rfl rfl rfl rfl om om rfl) rfl <| WO.S0 (oStO (f := d32) (us := qs) q1 rfl rfl rfl (g1 (by decide) (g1 (by decide) g0)) (fun _ => rfl) rfl rfl om rfl) <| Wn <| after_normal <| Ck [6,7,8,9,10,11] rfl <| WC.reg1z (z := 3) rfl <| Um rfl rfl <| WO.U (cI (((k - 1 : Nat) : Int) - 1) (oSub64 rfl rfl om) om) rfl <| Ua rfl rfl <| Wn <| loopR_normal <| ⟨⟨k - 1, (us1.set (k - 1 + vs.length) d), qs.set (k - 1) q1⟩, ⟨rfl, congrArg some (by rw [List.length_set]), rfl, rfl, congrArg some (by rw [List.length_set]), rfl, trivial⟩, ⟨g1 (by decide) g0, g0, trivial⟩, ⟨by rw [hlF]; omega, by rw [hlF]; exact hul, by rw [List.length_set]; exact hql0, hdF, hqd.set _ om, hUF, hltF, om⟩, by show k - 1 < k; omega⟩
  have hneg : u < c + b := by
   rcases Nat.lt_or_ge u (c + b) with h | h
   ·exact h
   ·rw [if_neg om] at h184; simp at h184
  have hs2 := sub_last (o := 1) (d := d) he1 om (by rw [← hue]; omega)
  have hlT : (us1.set (k - 1 + vs.length) d).length = us.length := by rw [List.length_set]; exact hl1
  have hdT : Dg 4294967296 (us1.set (k - 1 + vs.length) d) := hd1.set _ hd4
  have htT : (us1.set (k - 1 + vs.length) d).take (k - 1) = us.take (k - 1) := by rw [take_set_le om]; exact ht1
  have hpT : (us1.set (k - 1 + vs.length) d).drop (k - 1 + vs.length + 1) = us.drop (k - 1 + vs.length + 1) := by rw [drop_set_lt om]; exact drop_more hp1 om
  obtain ⟨hgt, hq1p⟩ := neg_gt (by decide) hdT om hlT hRB hpT htT hs2
  refine Wn <| WC.cT rfl <| WC.assoc <| Rg 3 rfl <| Um rfl rfl <| WO.U (cI (((q1 - 1 : Nat) : Int)) (oSubU rfl rfl) om) rfl <| Ua rfl rfl <| Wn <| WC.assoc <| Rg 1 rfl <| Ua rfl rfl <| Wn <| WC.assoc <| WC.assoc <| Rg 3 rfl <| Um rfl rfl <| WO.U (oLenM rfl rfl) rfl <| Um rfl rfl <| Nk [6,7,8,9,10,11,13,22,187,188,189] rfl <| WC.block <| WC.loopV (α := Nat × Nat × (List Nat)) (fun ⟨i2, c2, us3⟩ => [(6, .v (.int .i64 (sh : Int))), (7, .ref (0 + 2 + 8 + 2) 1 0 us3.length), (8, .sl 1 (vs.map d32)), (9, .v (.int .i64 (vs.length : Int))), (10, .ref (0 + 2 + 8 + 9 + 3 + 4) 1 0 qs.length), (11, .v (.int .i64 ((k : Int) - 1))), (13, .v (.int .u64 ((q1 - 1 : Nat) : Int))), (22, .v (.int .u32 (c2 : Int))), (187, .sl 1 (vs.map d32)), (188, .v (.int .i64 (vs.length : Int))), (189, .v (.int .i64 (i2 : Int)))]) (fun ⟨i2, c2, us3⟩ => [((0 + 2 + 8 + 2), { cells := (us3.map d32).flatten, sz := 1, elem := 145, st := 0 }), ((0 + 2 + 8 + 9 + 3 + 4), { cells := (qs.map d32).flatten, sz := 1, elem := 145, st := 0 })]) (fun ⟨i2, c2, us3⟩ n => i2 ≤ vs.length ∧ us3.length = us.length ∧ Dg 4294967296 us3 ∧ c2 ≤ 1 ∧ val 4294967296 us3 + 4294967296 ^ (k - 1 + i2) * c2 = val 4294967296 (us1.set (k - 1 + vs.length) d) + 4294967296 ^ (k - 1) * val 4294967296 (vs.take i2) ∧ us3.take (k - 1) = us.take (k - 1) ∧ us3.drop (k - 1 + vs.length) = (us1.set (k - 1 + vs.length) d).drop (k - 1 + vs.length) ∧ 30 ≤ n) (fun ⟨i2, c2, us3⟩ => vs.length - i2) (0, 0, (us1.set (k - 1 + vs.length) d)) ⟨rfl, congrArg some (by rw [List.length_set]), rfl, rfl, rfl, rfl, rfl, rfl, rfl, rfl, rfl, trivial⟩ ⟨g0, g1 (by decide) (g1 (by decide) g0), trivial⟩ ⟨Nat.zero_le _, hlT, hdT, by decide, by simp [val], htT, rfl, om⟩ ?_
  rintro ⟨i2, c2, us3⟩ n hM
  change WC _ _ _ _ _ (_ :: _) (_ :: _) n _
  obtain ⟨hi2, hl3, hd3, hc3, he3, ht3, hp3, hn33⟩ := hM
  refine Rg 1 rfl <| WO.U (oLss rfl rfl) rfl <| WO.D (fun h190 => ?_) (fun h190 => ?_)
  ·refine Wn <| WC.cT rfl <| WC.skips <| WC.block <| Rg 5 rfl <| Um rfl rfl <| WO.U (oIxM rfl rfl rfl rfl rfl om rfl) rfl <| WO.U (oLd rfl rfl rfl) rfl <| Ua rfl rfl <| Ua rfl rfl <| Nk [6,7,8,9,10,11,13,22,23,24,187,188,189] rfl ?_
   have hu3 : us3.getD (k - 1 + i2) default < 4294967296 := getD_lt hd3 om
   have hv3 : vs.getD i2 default < 4294967296 := getD_lt hvd om
   refine WC.reg1z (z := 19) rfl <| Um rfl rfl <| Um rfl rfl <| Um rfl rfl <| WO.U (cI (((k - 1 + i2 : Nat) : Int)) (oAdd64 rfl rfl om) om) rfl <| Um rfl rfl <| Um rfl rfl <| Um rfl rfl <| WO.U (cI (((k - 1 + i2 : Nat) : Int)) (oAdd64 rfl rfl om) om) rfl <| WO.U (oIxR (j := k - 1 + i2) rfl rfl rfl rfl om om rfl) rfl <| WO.U (oLdO (f := d32) (us := us3) (j := k - 1 + i2) rfl rfl g0 (fun _ => rfl) rfl (by decide) om rfl) rfl <| Um rfl rfl <| Um rfl rfl <| WO.U (oCall rfl (add32_run (us3.getD (k - 1 + i2) default) (vs.getD i2 default) c2 hu3 hv3 hc3) (by simp)) rfl <| Um rfl rfl <| WO.U (oEx rfl rfl) rfl <| WO.U (oEx rfl rfl) rfl <| WO.U (oIxR (j := k - 1 + i2) rfl rfl rfl rfl om om rfl) rfl <| WO.S0 (oStO (f := d32) (us := us3) ((us3.getD (k - 1 + i2) default + vs.getD i2 default + c2) % 4294967296) rfl rfl rfl g0 (fun _ => rfl) rfl rfl om rfl) <| Ua rfl rfl <| Wn <| after_normal <| Ck [6,7,8,9,10,11,13,22,187,188,189] rfl <| WC.reg1z (z := 2) rfl ?_
   refine WO.U (cI (((i2 + 1 : Nat) : Int)) (oAdd64 rfl rfl om) om) rfl <| Um rfl rfl <| Wn <| loopR_normal <| ⟨⟨i2 + 1, _, us3.set (k - 1 + i2) ((us3.getD (k - 1 + i2) default + vs.getD i2 default + c2) % 4294967296)⟩, ⟨rfl, congrArg some (by rw [List.length_set]), rfl, rfl, rfl, rfl, rfl, rfl, rfl, rfl, rfl, trivial⟩, ⟨g0, g1 (by decide) (g1 (by decide) g0), trivial⟩, ⟨om, by rw [List.length_set]; exact hl3, hd3.set _ om, om, addback_step he3 om, by rw [take_set_le om]; exact ht3, by rw [drop_set_lt om]; exact hp3, om⟩, by show vs.length - (i2 + 1) < vs.length - i2; omega⟩
  refine Wn <| WC.cF rfl <| WC.exits <| loopR_exit <| after_exit rfl ?_
  have hi' : i2 = vs.length := by omega
  subst hi'
  rw [List.take_of_length_le (Nat.le_refl _)] at he3
  have hu3 : us3.getD (k - 1 + vs.length) default < 4294967296 := getD_lt hd3 om
  refine Rg 10 rfl <| Um rfl rfl <| Um rfl rfl <| Um rfl rfl <| WO.U (cI (((k - 1 + vs.length : Nat) : Int)) (oAdd64 rfl rfl om) om) rfl <| WO.U (oIxR (j := k - 1 + vs.length) rfl rfl rfl rfl om om rfl) rfl <| WO.U (oLdO (f := d32) (us := us3) (j := k - 1 + vs.length) rfl rfl g0 (fun _ => rfl) rfl (by decide) om rfl) rfl <| Um rfl rfl <| WO.U (cI ((((us3.getD (k - 1 + vs.length) default + c2) % 4294967296 : Nat) : Int)) (oAdd32 rfl rfl) om) rfl <| WO.U (oIxR (j := k - 1 + vs.length) rfl rfl rfl rfl om om rfl) rfl <| WO.S0 (oStO (f := d32) (us := us3) ((us3.getD (k - 1 + vs.length) default + c2) % 4294967296) rfl rfl rfl g0 (fun _ => rfl) rfl rfl om rfl) <| Nk [6,7,8,9,10,11,13] rfl ?_
  have hlF : (us3.set (k - 1 + vs.length) ((us3.getD (k - 1 + vs.length) default + c2) % 4294967296)).length = us.length := by rw [List.length_set]; exact hl3
  have hdF : Dg 4294967296 (us3.set (k - 1 + vs.length) ((us3.getD (k - 1 + vs.length) default + c2) % 4294967296)) := hd3.set _ om
  have h4 := addback_last he3 om
  obtain ⟨hs4, hltF⟩ := back_end (by decide) hV0 hdF om hlF hRB (by rw [drop_set_lt om]; exact (drop_more hp3 om).trans hpT) (by rw [take_set_le om]; exact ht3) hs2 h4 hG2 hq1p hqo hgt om
  have hUF := long_next (qs := qs) (j := k - 1) om (by rw [show k - 1 + 1 = k by omega]; exact hU) hs4
  refine WC.reg1z (z := 6) rfl <| Um rfl rfl <| Um rfl rfl <| Um rfl rfl <| WO.U (cI (((q1 - 1 : Nat) : Int)) (oCnv rfl rfl rfl) (by rw [IntKind.wrap_u32]; omega)) rfl <| WO.U (oIxR (j := k - 1) rfl rfl rfl rfl om om rfl) rfl <| WO.S0 (oStO (f := d32) (us := qs) (q1 - 1) rfl rfl rfl (g1 (by decide) (g1 (by decide) g0)) (fun _ => rfl) rfl rfl om rfl) <| Wn <| after_normal <| WC.reg1z (z := 3) rfl <| Um rfl rfl <| WO.U (cI (((k - 1 : Nat) : Int) - 1) (oSub64 rfl rfl om) om) rfl <| Ua rfl rfl <| Wn <| loopR_normal <| ⟨⟨k - 1, (us3.set (k - 1 + vs.length) ((us3.getD (k - 1 + vs.length) default + c2) % 4294967296)), qs.set (k - 1) (q1 - 1)⟩, ⟨rfl, congrArg some (by rw [List.length_set]), rfl, rfl, congrArg some (by rw [List.length_set]), rfl, trivial⟩, ⟨g1 (by decide) g0, g0, trivial⟩, ⟨by rw [hlF]; omega, by rw [hlF]; exact hul, by rw [List.length_set]; exact hql0, hdF, hqd.set _ om, hUF, hltF, om⟩, by show k - 1 < k; omega⟩
 refine WD.U (oPkF rfl rfl) rfl <| WD.nil (drawOk_of (by kernel_rfl)) rfl <| Ck [6,7,8,9,10,11,13,14,93,94,95,96,97,98,99,100,101,102,103,104,105,106,107,108,109,110,111,112,113] rfl <| WC.cT rfl <| WC.skips <| WC.block1 ?_
 obtain ⟨hdc1, hdc2⟩ := lq_dec LQh hG1 hG2 (by first | exact .inl om | exact .inr om)
 refine Rg 3 rfl <| Um rfl rfl <| WO.U (cI (((qh - 1 : Nat) : Int)) (oSubU rfl rfl) om) rfl <| Ua rfl rfl <| Nk [6,7,8,9,10,11,13,14,93,94,95,96,97,98,99,100,101,102,103,104,105,106,107,108,109,110,111,112] rfl <| Rg 9 rfl <| Um rfl rfl <| Um rfl rfl <| Um rfl rfl <| WO.U (oSub64 rfl rfl om) rfl <| WO.U (oIxM (j := vs.length - 1) rfl rfl rfl rfl om om rfl) rfl <| WO.U (oLd rfl rfl rfl) rfl <| WO.U (cI ((v1 : Int)) (oCnv rfl rfl rfl) (by rw [IntKind.wrap_u64]; omega)) rfl <| WO.U (cI (((rh + v1 : Nat) : Int)) (oAddU rfl rfl) om) rfl <| Ua rfl rfl <| Nk [6,7,8,9,10,11,13,14,93,94,95,96,97,98,99,100,101,102,103,104,105,106,107,108,109,110,111,112] rfl <| Rg 2 rfl <| Um rfl rfl <| WO.U (oGeq rfl rfl) rfl <| WO.D (fun h125 => ?_) (fun h125 => ?_)
 rotate_left
 ·refine Nk [6,7,8,9,10,11,13,14,93,94,95,96,97,98,99,100,101,102,103,104,105,106,107,108,109,110,111,112,125] rfl <| WC.cF1 rfl <| WC.skip <| after0_normal <| loopR_normal <| ⟨⟨qh - 1, rh + v1⟩, ⟨rfl, rfl, rfl, rfl, rfl, rfl, rfl, rfl, trivial⟩, ⟨g0, g1 (by decide) g0, trivial⟩, ⟨dec_eq hG1 hdc1, hdc2, om, om, om⟩, by show qh - 1 < qh; omega⟩
 refine Nk [6,7,8,9,10,11,13,14,93,94,95,96,97,98,99,100,101,102,103,104,105,106,107,108,109,110,111,112,125] rfl <| WC.cT1 rfl <| WC.exit <| after0_exitF rfl <| loopR_exit <| after_exit rfl <| Ck [6,7,8,9,10,11,13,93,94,95,96,97,98,99,100,101,102,103,104,105,106,107,108,109,110,111,112] rfl ?_
 obtain ⟨hql, hqo⟩ := lq_break LQh hG1 hdc1 hG4 om hG3
 replace hG2 := hdc2
 obtain ⟨q1, hq1⟩ : ∃ q1, q1 = qh - 1 := ⟨_, rfl⟩
 rw [← hq1] at hqo hql hG2 ⊢
 refine Rg 2 rfl <| Ua rfl rfl <| Ua rfl rfl <| Nk [6,7,8,9,10,11,13,15,16,93,94,95,96,97,98,99,100,101,102,103,104,105,106,107,108,109,110,111,112] rfl <| WC.assoc <| Rg 3 rfl <| Um rfl rfl <| WO.U (oLenM rfl rfl) rfl <| Um rfl rfl <| Nk [6,7,8,9,10,11,13,15,16,93,94,95,96,97,98,99,100,101,102,103,104,105,106,107,108,109,110,111,112,126,127,128] rfl <| WC.block ?_
 refine WC.loopV (α := Nat × Nat × Nat × (List Nat)) (fun ⟨i, c, b, us1⟩ => [(6, .v (.int .i64 (sh : Int))), (7, .ref (0 + 2 + 8 + 2) 1 0 us1.length), (8, .sl 1 (vs.map d32)), (9, .v (.int .i64 (vs.length : Int))), (10, .ref (0 + 2 + 8 + 9 + 3 + 4) 1 0 qs.length), (11, .v (.int .i64 ((k : Int) - 1))), (13, .v (.int .u64 (q1 : Int))), (15, .v (.int .u64 (b : Int))), (16, .v (.int .u64 (c : Int))), (126, .sl 1 (vs.map d32)), (127, .v (.int .i64 (vs.length : Int))), (128, .v (.int .i64 (i : Int)))]) (fun ⟨i, c, b, us1⟩ => [((0 + 2 + 8 + 2), { cells := (us1.map d32).flatten, sz := 1, elem := 145, st := 0 }), ((0 + 2 + 8 + 9 + 3 + 4), { cells := (qs.map d32).flatten, sz := 1, elem := 145, st := 0 })]) (fun ⟨i, c, b, us1⟩ n => i ≤ vs.length ∧ us1.length = us.length ∧ Dg 4294967296 us1 ∧ c < 4294967296 ∧ b ≤ 1 ∧ val 4294967296 us1 + 4294967296 ^ (k - 1) * (q1 * val 4294967296 (vs.take i)) = val 4294967296 us + 4294967296 ^ (k - 1 + i) * (c + b) ∧ us1.take (k - 1) = us.take (k - 1) ∧ us1.drop (k - 1 + i) = us.drop (k - 1 + i) ∧ 30 ≤ n) (fun ⟨i, c, b, us1⟩ => vs.length - i) (0, 0, 0, us) ⟨rfl, rfl, rfl, rfl, rfl, rfl, rfl, rfl, rfl, rfl, rfl, rfl, trivial⟩ ⟨g0, g1 (by decide) g0, trivial⟩ ⟨Nat.zero_le _, rfl, hud, by decide, by decide, by simp [val], rfl, rfl, om⟩ ?_
 rintro ⟨i, c, b, us1⟩ n hL
 change WC _ _ _ _ _ (_ :: _) (_ :: _) n _
 obtain ⟨hi, hl1, hd1, hc1, hb1, he1, ht1, hp1, hn32⟩ := hL
 refine Rg 1 rfl <| WO.U (oLss rfl rfl) rfl <| WO.D (fun h129 => ?_) (fun h129 => ?_)
 ·refine Wn <| WC.cT rfl <| WC.skips <| WC.block ?_
  have hvi : vs.getD i default < 4294967296 := getD_lt hvd om
  have hui : us1.getD (k - 1 + i) default < 4294967296 := getD_lt hd1 om
  have hqv := mul_dig hql hvi
  obtain ⟨p, hpe⟩ : ∃ p, p = q1 * vs.getD i default + c := ⟨_, rfl⟩
  obtain ⟨u, hue⟩ : ∃ u, u = us1.getD (k - 1 + i) default := ⟨_, rfl⟩
  have hpb : p < 18446744073709551616 := by omega
  obtain ⟨d, hde⟩ : ∃ d, d = (u + 4294967296 - p % 4294967296 - b) % 4294967296 := ⟨_, rfl⟩
  refine Rg 5 rfl <| Um rfl rfl <| WO.U (oIxM rfl rfl rfl rfl rfl om rfl) rfl <| WO.U (oLd rfl rfl rfl) rfl <| Ua rfl rfl <| Ua rfl rfl <| Nk [6,7,8,9,10,11,13,15,16,17,18,126,127,128] rfl <| Rg 7 rfl <| Um rfl rfl <| Um rfl rfl <| WO.U (cI ((vs.getD i default : Int)) (oCnv rfl rfl rfl) (by rw [IntKind.wrap_u64]; omega)) rfl <| WO.U (cI (((q1 * vs.getD i default : Nat) : Int)) (oMulU rfl rfl) (by rw [← Int.natCast_mul]; omega)) rfl <| Um rfl rfl <| WO.U (cI ((p : Int)) (oAddU rfl rfl) om) rfl <| Ua rfl rfl <| Nk [6,7,8,9,10,11,13,15,17,19,126,127,128] rfl <| Rg 3 rfl <| Um rfl rfl <| WO.U (cI (((p / 4294967296 : Nat) : Int)) (oShrU (s := 32) rfl rfl om) om) rfl <| Ua rfl rfl <| Nk [6,7,8,9,10,11,13,15,16,17,19,126,127,128] rfl ?_
  refine Rg 14 rfl <| Um rfl rfl <| Um rfl rfl <| Um rfl rfl <| WO.U (cI (((k - 1 + i : Nat) : Int)) (oAdd64 rfl rfl om) om) rfl <| WO.U (oIxR (j := k - 1 + i) rfl rfl rfl rfl om om rfl) rfl <| WO.U (oLdO (f := d32) (us := us1) (j := k - 1 + i) rfl rfl g0 (fun _ => rfl) rfl (by decide) om rfl) rfl <| WO.U (cI ((u : Int)) (oCnv rfl rfl rfl) (by rw [IntKind.wrap_u64]; omega)) rfl <| Um rfl rfl <| WO.U (cI (((p % 4294967296 : Nat) : Int)) (oCnv rfl rfl rfl) (by rw [IntKind.wrap_u32]; omega)) rfl <| WO.U (cI (((p % 4294967296 : Nat) : Int)) (oCnv rfl rfl rfl) (by rw [IntKind.wrap_u64]; omega)) rfl <| WO.U (oSubU rfl rfl) rfl <| Um rfl rfl <| WO.U (cI (((((u + 18446744073709551616 - p % 4294967296 - b) % 18446744073709551616) : Nat) : Int)) (oSubU rfl rfl) om) rfl <| Ua rfl rfl <| Nk [6,7,8,9,10,11,13,16,17,20,126,127,128] rfl <| Rg 8 rfl <| Um rfl rfl <| Um rfl rfl <| Um rfl rfl <| WO.U (cI (((k - 1 + i : Nat) : Int)) (oAdd64 rfl rfl om) om) rfl <| Um rfl rfl <| WO.U (cI ((d : Int)) (oCnv rfl rfl rfl) (by rw [IntKind.wrap_u32]; omega)) rfl ?_
  refine WO.U (oIxR (j := k - 1 + i) rfl rfl rfl rfl om om rfl) rfl <| WO.S0 (oStO (f := d32) (us := us1) d rfl rfl rfl g0 (fun _ => rfl) rfl rfl om rfl) <| Nk [6,7,8,9,10,11,13,16,20,126,127,128] rfl <| WC.reg1z (z := 3) rfl <| Um rfl rfl <| WO.U (cI (((if u < p % 4294967296 + b then 1 else 0 : Nat) : Int)) (oShrU (s := 63) rfl rfl om) (by split <;> omega)) rfl <| Ua rfl rfl <| Wn <| after_normal <| Ck [6,7,8,9,10,11,13,15,16,126,127,128] rfl <| WC.reg1z (z := 2) rfl <| WO.U (cI (((i + 1 : Nat) : Int)) (oAdd64 rfl rfl om) om) rfl <| Um rfl rfl <| Wn <| loopR_normal <| ⟨⟨i + 1, p / 4294967296, if u < p % 4294967296 + b then 1 else 0, us1.set (k - 1 + i) d⟩, ⟨rfl, congrArg some (by rw [List.length_set]), rfl, rfl, rfl, rfl, rfl, rfl, rfl, rfl, rfl, rfl, trivial⟩, ⟨g0, g1 (by decide) (g1 (by decide) g0), trivial⟩, ⟨om, by rw [List.length_set]; exact hl1, hd1.set _ om, om, by split <;> omega, ?_, by rw [take_set_le om]; exact ht1, by rw [drop_set_lt om]; exact drop_more hp1 om, om⟩, by show vs.length - (i + 1) < vs.length - i; omega⟩
  rw [hpe]
  exact submul_step he1 om (by rw [← hpe, ← hue, hde]; split <;> omega)
 refine Wn <| WC.cF rfl <| WC.exits <| loopR_exit <| after_exit rfl ?_
 have hi' : i = vs.length := by omega
 subst hi'
 rw [List.take_of_length_le (Nat.le_refl _)] at he1
 obtain ⟨u, hue⟩ : ∃ u, u = us1.getD (k - 1 + vs.length) default := ⟨_, rfl⟩
 have hul1 : u < 4294967296 := by rw [hue]; exact getD_lt hd1 om
 obtain ⟨d, hde⟩ : ∃ d, d = (u + 4294967296 - c - b) % 4294967296 := ⟨_, rfl⟩
 have hd4 : d < 4294967296 := by omega
 refine Rg 12 rfl <| Um rfl rfl <| Um rfl rfl <| Um rfl rfl <| WO.U (cI (((k - 1 + vs.length : Nat) : Int)) (oAdd64 rfl rfl om) om) rfl <| WO.U (oIxR (j := k - 1 + vs.length) rfl rfl rfl rfl om om rfl) rfl <| WO.U (oLdO (f := d32) (us := us1) (j := k - 1 + vs.length) rfl rfl g0 (fun _ => rfl) rfl (by decide) om rfl) rfl <| WO.U (cI ((u : Int)) (oCnv rfl rfl rfl) (by rw [IntKind.wrap_u64]; omega)) rfl <| Um rfl rfl <| WO.U (oSubU rfl rfl) rfl <| Um rfl rfl <| WO.U (cI (((((u + 18446744073709551616 - c - b) % 18446744073709551616) : Nat) : Int)) (oSubU rfl rfl) om) rfl <| Ua rfl rfl <| Nk [6,7,8,9,10,11,13,21] rfl <| Rg 8 rfl <| Um rfl rfl <| Um rfl rfl <| Um rfl rfl <| WO.U (cI (((k - 1 + vs.length : Nat) : Int)) (oAdd64 rfl rfl om) om) rfl <| Um rfl rfl <| WO.U (cI ((d : Int)) (oCnv rfl rfl rfl) (by rw [IntKind.wrap_u32]; omega)) rfl <| WO.U (oIxR (j := k - 1 + vs.length) rfl rfl rfl rfl om om rfl) rfl <| WO.S0 (oStO (f := d32) (us := us1) d rfl rfl rfl g0 (fun _ => rfl) rfl rfl om rfl) ?_
 refine Nk [6,7,8,9,10,11,13,21] rfl <| WC.assoc <| Rg 3 rfl <| Um rfl rfl <| WO.U (cI (((if u < c + b then 1 else 0 : Nat) : Int)) (oShrU (s := 63) rfl rfl om) (by split <;> omega)) rfl <| WO.U (oEql rfl rfl) rfl <| WO.D (fun h184 => ?_) (fun h184 => ?_)
 rotate_left
 ·have hneg : c + b ≤ u := by
   rcases Nat.lt_or_ge u (c + b) with h | h
   ·rw [if_pos h] at h184; simp at h184
   ·exact h
  have hs2 := sub_last (o := 0) (d := d) he1 om (by rw [← hue]; omega)
  rw [Nat.mul_zero, Nat.add_zero] at hs2
  refine Wn <| WC.cF rfl <| WC.skips ?_
  have hlF : (us1.set (k - 1 + vs.length) d).length = us.length := by rw [List.length_set]; exact hl1
  have hdF : Dg 4294967296 (us1.set (k - 1 + vs.length) d) := hd1.set _ hd4
  have hltF := long_end0 (by decide) hV0 om om (by rw [take_set_le om]; exact ht1) hs2 hG2
  have hUF := long_next (qs := qs) (j := k - 1) om (by rw [show k - 1 + 1 = k by omega]; exact hU) hs2
  refine WC.reg1z (z := 6) rfl <| Um rfl rfl <| Um rfl rfl <| Um rfl rfl <| WO.U (cI ((q1 : Int)) (oCnv rfl rfl rfl) (by rw [IntKind.wrap_u32]; omega)) rfl <| WO.U (oIxR (j := k - 1) rfl rfl rfl rfl om om rfl) rfl <| WO.S0 (oStO (f := d32) (us := qs) q1 rfl rfl rfl (g1 (by decide) (g1 (by decide) g0)) (fun _ => rfl) rfl rfl om rfl) <| Wn <| after_normal <| Ck [6,7,8,9,10,11] rfl <| WC.reg1z (z := 3) rfl <| Um rfl rfl <| WO.U (cI (((k - 1 : Nat) : Int) - 1) (oSub64 rfl rfl om) om) rfl <| Ua rfl rfl <| Wn <| loopR_normal <| ⟨⟨k - 1, (us1.set (k - 1 + vs.length) d), qs.set (k - 1) q1⟩, ⟨rfl, congrArg some (by rw [List.length_set]), rfl, rfl, congrArg some (by rw [List.length_set]), rfl, trivial⟩, ⟨g1 (by decide) g0, g0, trivial⟩, ⟨by rw [hlF]; omega, by rw [hlF]; exact hul, by rw [List.length_set]; exact hql0, hdF, hqd.set _ om, hUF, hltF, om⟩, by show k - 1 < k; omega⟩
 have hneg : u < c + b := by
  rcases Nat.lt_or_ge u (c + b) with h | h
  ·exact h
  ·rw [if_neg om] at h184; simp at h184
 have hs2 := sub_last (o := 1) (d := d) he1 om (by rw [← hue]; omega)
 have hlT : (us1.set (k - 1 + vs.length) d).length = us.length := by rw [List.length_set]; exact hl1
 have hdT : Dg 4294967296 (us1.set (k - 1 + vs.length) d) := hd1.set _ hd4
 have htT : (us1.set (k - 1 + vs.length) d).take (k - 1) = us.take (k - 1) := by rw [take_set_le om]; exact ht1
 have hpT : (us1.set (k - 1 + vs.length) d).drop (k - 1 + vs.length + 1) = us.drop (k - 1 + vs.length + 1) := by rw [drop_set_lt om]; exact drop_more hp1 om
 obtain ⟨hgt, hq1p⟩ := neg_gt (by decide) hdT om hlT hRB hpT htT hs2
 refine Wn <| WC.cT rfl <| WC.assoc <| Rg 3 rfl <| Um rfl rfl <| WO.U (cI (((q1 - 1 : Nat) : Int)) (oSubU rfl rfl) om) rfl <| Ua rfl rfl <| Wn <| WC.assoc <| Rg 1 rfl <| Ua rfl rfl <| Wn <| WC.assoc <| WC.assoc <| Rg 3 rfl <| Um rfl rfl <| WO.U (oLenM rfl rfl) rfl <| Um rfl rfl <| Nk [6,7,8,9,10,11,13,22,187,188,189] rfl <| WC.block <| WC.loopV (α := Nat × Nat × (List Nat)) (fun ⟨i2, c2, us3⟩ => [(6, .v (.int .i64 (sh : Int))), (7, .ref (0 + 2 + 8 + 2) 1 0 us3.length), (8, .sl 1 (vs.map d32)), (9, .v (.int .i64 (vs.length : Int))), (10, .ref (0 + 2 + 8 + 9 + 3 + 4) 1 0 qs.length), (11, .v (.int .i64 ((k : Int) - 1))), (13, .v (.int .u64 ((q1 - 1 : Nat) : Int))), (22, .v (.int .u32 (c2 : Int))), (187, .sl 1 (vs.map d32)), (188, .v (.int .i64 (vs.length : Int))), (189, .v (.int .i64 (i2 : Int)))]) (fun ⟨i2, c2, us3⟩ => [((0 + 2 + 8 + 2), { cells := (us3.map d32).flatten, sz := 1, elem := 145, st := 0 }), ((0 + 2 + 8 + 9 + 3 + 4), { cells := (qs.map d32).flatten, sz := 1, elem := 145, st := 0 })]) (fun ⟨i2, c2, us3⟩ n => i2 ≤ vs.length ∧ us3.length = us.length ∧ Dg 4294967296 us3 ∧ c2 ≤ 1 ∧ val 4294967296 us3 + 4294967296 ^ (k - 1 + i2) * c2 = val 4294967296 (us1.set (k - 1 + vs.length) d) + 4294967296 ^ (k - 1) * val 4294967296 (vs.take i2) ∧ us3.take (k - 1) = us.take (k - 1) ∧ us3.drop (k - 1 + vs.length) = (us1.set (k - 1 + vs.length) d).drop (k - 1 + vs.length) ∧ 30 ≤ n) (fun ⟨i2, c2, us3⟩ => vs.length - i2) (0, 0, (us1.set (k - 1 + vs.length) d)) ⟨rfl, congrArg some (by rw [List.length_set]), rfl, rfl, rfl, rfl, rfl, rfl, rfl, rfl, rfl, trivial⟩ ⟨g0, g1 (by decide) (g1 (by decide) g0), trivial⟩ ⟨Nat.zero_le _, hlT, hdT, by decide, by simp [val], htT, rfl, om⟩ ?_
 rintro ⟨i2, c2, us3⟩ n hM
 change WC _ _ _ _ _ (_ :: _) (_ :: _) n _
 obtain ⟨hi2, hl3, hd3, hc3, he3, ht3, hp3, hn33⟩ := hM
 refine Rg 1 rfl <| WO.U (oLss rfl rfl) rfl <| WO.D (fun h190 => ?_) (fun h190 => ?_)
 ·refine Wn <| WC.cT rfl <| WC.skips <| WC.block <| Rg 5 rfl <| Um rfl rfl <| WO.U (oIxM rfl rfl rfl rfl rfl om rfl) rfl <| WO.U (oLd rfl rfl rfl) rfl <| Ua rfl rfl <| Ua rfl rfl <| Nk [6,7,8,9,10,11,13,22,23,24,187,188,189] rfl ?_
  have hu3 : us3.getD (k - 1 + i2) default < 4294967296 := getD_lt hd3 om
  have hv3 : vs.getD i2 default < 4294967296 := getD_lt hvd om
  refine WC.reg1z (z := 19) rfl <| Um rfl rfl <| Um rfl rfl <| Um rfl rfl <| WO.U (cI (((k - 1 + i2 : Nat) : Int)) (oAdd64 rfl rfl om) om) rfl <| Um rfl rfl <| Um rfl rfl <| Um rfl rfl <| WO.U (cI (((k - 1 + i2 : Nat) : Int)) (oAdd64 rfl rfl om) om) rfl <| WO.U (oIxR (j := k - 1 + i2) rfl rfl rfl rfl om om rfl) rfl <| WO.U (oLdO (f := d32) (us := us3) (j := k - 1 + i2) rfl rfl g0 (fun _ => rfl) rfl (by decide) om rfl) rfl <| Um rfl rfl <| Um rfl rfl <| WO.U (oCall rfl (add32_run (us3.getD (k - 1 + i2) default) (vs.getD i2 default) c2 hu3 hv3 hc3) (by simp)) rfl <| Um rfl rfl <| WO.U (oEx rfl rfl) rfl <| WO.U (oEx rfl rfl) rfl <| WO.U (oIxR (j := k - 1 + i2) rfl rfl rfl rfl om om rfl) rfl <| WO.S0 (oStO (f := d32) (us := us3) ((us3.getD (k - 1 + i2) default + vs.getD i2 default + c2) % 4294967296) rfl rfl rfl g0 (fun _ => rfl) rfl rfl om rfl) <| Ua rfl rfl <| Wn <| after_normal <| Ck [6,7,8,9,10,11,13,22,187,188,189] rfl <| WC.reg1z (z := 2) rfl ?_
  refine WO.U (cI (((i2 + 1 : Nat) : Int)) (oAdd64 rfl rfl om) om) rfl <| Um rfl rfl <| Wn <| loopR_normal <| ⟨⟨i2 + 1, _, us3.set (k - 1 + i2) ((us3.getD (k - 1 + i2) default + vs.getD i2 default + c2) % 4294967296)⟩, ⟨rfl, congrArg some (by rw [List.length_set]), rfl, rfl, rfl, rfl, rfl, rfl, rfl, rfl, rfl, trivial⟩, ⟨g0, g1 (by decide) (g1 (by decide) g0), trivial⟩, ⟨om, by rw [List.length_set]; exact hl3, hd3.set _ om, om, addback_step he3 om, by rw [take_set_le om]; exact ht3, by rw [drop_set_lt om]; exact hp3, om⟩, by show vs.length - (i2 + 1) < vs.length - i2; omega⟩
 refine Wn <| WC.cF rfl <| WC.exits <| loopR_exit <| after_exit rfl ?_
 have hi' : i2 = vs.length := by omega
 subst hi'
 rw [List.take_of_length_le (Nat.le_refl _)] at he3
 have hu3 : us3.getD (k - 1 + vs.length) default < 4294967296 := getD_lt hd3 om
 refine Rg 10 rfl <| Um rfl rfl <| Um rfl rfl <| Um rfl rfl <| WO.U (cI (((k - 1 + vs.length : Nat) : Int)) (oAdd64 rfl rfl om) om) rfl <| WO.U (oIxR (j := k - 1 + vs.length) rfl rfl rfl rfl om om rfl) rfl <| WO.U (oLdO (f := d32) (us := us3) (j := k - 1 + vs.length) rfl rfl g0 (fun _ => rfl) rfl (by decide) om rfl) rfl <| Um rfl rfl <| WO.U (cI ((((us3.getD (k - 1 + vs.length) default + c2) % 4294967296 : Nat) : Int)) (oAdd32 rfl rfl) om) rfl <| WO.U (oIxR (j := k - 1 + vs.length) rfl rfl rfl rfl om om rfl) rfl <| WO.S0 (oStO (f := d32) (us := us3) ((us3.getD (k - 1 + vs.length) default + c2) % 4294967296) rfl rfl rfl g0 (fun _ => rfl) rfl rfl om rfl) <| Nk [6,7,8,9,10,11,13] rfl ?_
 have hlF : (us3.set (k - 1 + vs.length) ((us3.getD (k - 1 + vs.length) default + c2) % 4294967296)).length = us.length := by rw [List.length_set]; exact hl3
 have hdF : Dg 4294967296 (us3.set (k - 1 + vs.length) ((us3.getD (k - 1 + vs.length) default + c2) % 4294967296)) := hd3.set _ om
 have h4 := addback_last he3 om
 obtain ⟨hs4, hltF⟩ := back_end (by decide) hV0 hdF om hlF hRB (by rw [drop_set_lt om]; exact (drop_more hp3 om).trans hpT) (by rw [take_set_le om]; exact ht3) hs2 h4 hG2 hq1p hqo hgt om
 have hUF := long_next (qs := qs) (j := k - 1) om (by rw [show k - 1 + 1 = k by omega]; exact hU) hs4
 refine WC.reg1z (z := 6) rfl <| Um rfl rfl <| Um rfl rfl <| Um rfl rfl <| WO.U (cI (((q1 - 1 : Nat) : Int)) (oCnv rfl rfl rfl) (by rw [IntKind.wrap_u32]; omega)) rfl <| WO.U (oIxR (j := k - 1) rfl rfl rfl rfl om om rfl) rfl <| WO.S0 (oStO (f := d32) (us := qs) (q1 - 1) rfl rfl rfl (g1 (by decide) (g1 (by decide) g0)) (fun _ => rfl) rfl rfl om rfl) <| Wn <| after_normal <| WC.reg1z (z := 3) rfl <| Um rfl rfl <| WO.U (cI (((k - 1 : Nat) : Int) - 1) (oSub64 rfl rfl om) om) rfl <| Ua rfl rfl <| Wn <| loopR_normal <| ⟨⟨k - 1, (us3.set (k - 1 + vs.length) ((us3.getD (k - 1 + vs.length) default + c2) % 4294967296)), qs.set (k - 1) (q1 - 1)⟩, ⟨rfl, congrArg some (by rw [List.length_set]), rfl, rfl, congrArg some (by rw [List.length_set]), rfl, trivial⟩, ⟨g1 (by decide) g0, g0, trivial⟩, ⟨by rw [hlF]; omega, by rw [hlF]; exact hul, by rw [List.length_set]; exact hql0, hdF, hqd.set _ om, hUF, hltF, om⟩, by show k - 1 < k; omega⟩
end Go.Proofs.YthpnlndhebcngaaGreat
set_option linter.unusedVariables false
set_option linter.unusedSimpArgs false
set_option maxRecDepth 100000
set_option maxHeartbeats 1000000
namespace Go.Proofs.YthpnlndhebcngaaGreat
open Go.Ab Go.RowKit
theorem quo_run (v w : Int) (hw0 : w ≠ 0) (hv : len32 v < 549755813888) (hw : len32 w < 549755813888) : Run Tryz.prog T E0 (.call 125 [lvI v, lvI w] (.tup [lvI (v.tdiv w), lvI (v.tmod w)])) := by
 obtain ⟨xs, hxs, dv, qv, tv, lxv⟩ := xs_of v
 obtain ⟨ys, hys, dw, qw, tw, lyw⟩ := xs_of w
 have bv := ia_bd v
 have bw := ia_bd w
 have hwa : 0 < w.natAbs := by omega
 have hyl : 0 < ys.length := by
  rcases Nat.eq_zero_or_pos ys.length with h | h
  ·rw [List.length_eq_zero_iff.1 h] at dw; simp [val] at dw; omega
  ·exact h
 refine mkcall Tryz.func125 rfl rfl (Nat.le_of_ble_eq_true rfl) ?_
 have J3 : ∀  (n : Nat) , WC Tryz.prog T E0 Tryz.f125.ntmps (codeR (codeR (codeOf Tryz.f125))) [(2, .ptr 0 0), (3, .ptr 1 0), (4, .ptr 2 0), (5, .ptr 3 0)] [(3, { cells := [.v (.int .i64 0), .sl 0 []], sz := 2, elem := 109, st := 0 }), (2, { cells := [.v (.int .i64 0), .sl 0 []], sz := 2, elem := 109, st := 0 }), (1, { cells := (lvI w).cells, sz := 2, elem := 109, st := 0 }), (0, { cells := (lvI v).cells, sz := 2, elem := 109, st := 0 })] n (Post T Tryz.f125.results.toList (.tup [lvI (v.tdiv w), lvI (v.tmod w)])) := by
  intro  n
  refine Rg 7 rfl <| WO.U (oLdP (l := .agg [_, _]) rfl rfl rfl rfl rfl) rfl <| WO.U (oCall rfl ((hxs ▸ digits_run v)) (by simp)) rfl <| Um rfl rfl <| WO.U (oEx rfl rfl) rfl <| WO.U (oEx rfl rfl) rfl <| Ua rfl rfl <| Ua rfl rfl <| Wn <| Rg 7 rfl <| WO.U (oLdP (l := .agg [_, _]) rfl rfl rfl rfl rfl) rfl <| WO.U (oCall rfl ((hys ▸ digits_run w)) (by simp)) rfl <| Um rfl rfl <| WO.U (oEx rfl rfl) rfl <| WO.U (oEx rfl rfl) rfl <| Ua rfl rfl <| Ua rfl rfl <| Nk [2,4,5,6,7,8,9] rfl <| WC.assoc <| Rg 4 rfl <| Um rfl rfl <| Um rfl rfl <| WO.U (oCall rfl (compare_run 1 1 xs ys qv qw tv tw om om) (by simp)) rfl ?_
  refine WO.U (oLss rfl rfl) rfl <| WO.D (fun h47 => ?_) (fun h47 => ?_)
  ·refine Wn <| WC.cT rfl <| WC.assoc <| WC.draw (z := 4) rfl (by kernel_rfl) <| WD.U (oBd (cs := [_, _]) rfl rfl rfl rfl rfl) rfl <| WD.U (oLdP (l := .agg [_, _]) rfl rfl rfl rfl rfl) rfl <| WD.S0 (oSt (cs' := [_, _]) rfl rfl rfl rfl rfl rfl rfl rfl) <| WD.S0 (oSt (cs' := [_, _]) rfl rfl rfl rfl rfl rfl rfl rfl) <| WD.nil (drawOk_of (by kernel_rfl)) rfl <| WC.rets <| post (n := 0) (.inr rfl) rfl ?_ (by simp)
   obtain ⟨e1, e2⟩ := quo_small (v := v) (w := w) (by have := Int.sign_neg_iff.1 (show ((val 4294967296 xs : Int) - val 4294967296 ys).sign < 0 from h47); omega)
   rw [e1, e2]; rfl
  refine Wn <| WC.cF rfl <| WC.skips <| WC.assoc ?_
  have hge : val 4294967296 ys ≤ val 4294967296 xs := by
   rcases Nat.lt_or_ge (val 4294967296 xs) (val 4294967296 ys) with h | h
   ·exact absurd (Int.sign_neg_iff.2 (show (val 4294967296 xs : Int) - val 4294967296 ys < 0 by omega)) h47
   ·exact h
  have hv0 : v ≠ 0 := by omega
  have hpm := sign_pm hv0 hw0
  have hp1 := sign_1 hv0
  have hll : ys.length ≤ xs.length := by
   rcases Nat.lt_or_ge xs.length ys.length with h | h
   ·have := val_lt_len (by decide) qv tw h; omega
   ·exact h
  obtain ⟨σ, hσ⟩ : ∃ σ, σ = v.sign * w.sign := ⟨_, rfl⟩
  rw [← hσ] at hpm
  refine Rg 3 rfl <| Um rfl rfl <| WO.U (oLenM rfl rfl) rfl <| WO.U (oEql rfl rfl) rfl <| WO.D (fun h52 => ?_) (fun h52 => ?_)
  rotate_left
  ·refine Wn <| WC.cF rfl <| WC.skips ?_
   have hy2 : 2 ≤ ys.length := by omega
   obtain ⟨r, hr, qs, rs, rfl, hqd, hrd, hval, hrest, hql, hrl⟩ := long_run 1 1 xs ys qv qw tw hy2 hll om
   obtain ⟨hq1, hq2⟩ := quo_law (v := v) (w := w) (q := val 4294967296 qs) (r := val 4294967296 rs) (by rw [← dw, ← dv]; exact hval) (by rw [← dw]; exact hrest)
   refine Rg 8 rfl <| Um rfl rfl <| Um rfl rfl <| WO.U (oCall rfl (hr) (by simp)) rfl <| Um rfl rfl <| WO.U (oEx rfl rfl) rfl <| WO.U (oEx rfl rfl) rfl <| Ua rfl rfl <| Ua rfl rfl <| Nk [4,5,6,8,12,13] rfl <| Rg 10 rfl <| Um rfl rfl <| Um rfl rfl <| WO.U (cI σ (oMul64 rfl rfl (by rw [← hσ]; omega)) hσ.symm) rfl <| Um rfl rfl <| WO.U (oCall rfl (made_run σ 1 qs om (.inl rfl) hqd om) (by simp)) rfl <| Um rfl rfl <| Um rfl rfl <| WO.U (oCall rfl (made_run v.sign 1 rs om (.inl rfl) hrd om) (by simp)) rfl <| WO.S0 (oSt (cs' := [_, _]) rfl rfl rfl rfl rfl rfl rfl rfl) <| WO.S0 (oSt (cs' := [_, _]) rfl rfl rfl rfl rfl rfl rfl rfl) <| Wn <| WC.ret ?_
   refine post (n := 0) (.inr rfl) rfl ?_ (by simp)
   rw [hq1, hq2, ← hσ]; rfl
  refine Wn <| WC.cT rfl <| WC.assoc ?_
  have hy1 : ys.length = 1 := by omega
  have hyv : val 4294967296 ys = ys.getD 0 default := by
   obtain ⟨y, rfl⟩ := List.length_eq_one_iff.1 hy1
   simp [val]
  have hyb : ys.getD 0 default < 4294967296 := getD_lt qw om
  obtain ⟨r, hr, ds, rest, rfl, hdd, hrest, hval, hlen⟩ := short_run 1 xs (ys.getD 0 default) qv om hyb om
  obtain ⟨hq1, hq2⟩ := quo_law (v := v) (w := w) (q := val 4294967296 ds) (r := rest) (by rw [← dw, ← dv, hyv]; exact hval) (by rw [← dw, hyv]; exact hrest)
  have hrd : Dg 4294967296 [rest] := by intro d hd; simp at hd; omega
  refine Rg 10 rfl <| Um rfl rfl <| Um rfl rfl <| WO.U (oIxM (j := 0) rfl rfl rfl rfl om om rfl) rfl <| WO.U (oLd rfl rfl rfl) rfl <| WO.U (oCall rfl (hr) (by simp)) rfl <| Um rfl rfl <| WO.U (oEx rfl rfl) rfl <| WO.U (oEx rfl rfl) rfl <| Ua rfl rfl <| Ua rfl rfl <| Nk [4,5,6,8,10,11] rfl <| WC.assoc <| Rg 11 rfl <| Um rfl rfl <| Um rfl rfl <| WO.U (cI σ (oMul64 rfl rfl (by rw [← hσ]; omega)) hσ.symm) rfl <| Um rfl rfl <| WO.U (oCall rfl (made_run σ 1 ds om (.inl rfl) hdd om) (by simp)) rfl <| Um rfl rfl <| Um rfl rfl <| WO.U (oBs' (cs := [_]) (rows := [[_]]) rfl rfl (by decide) rfl rfl rfl) rfl <| WO.U (oCall rfl (made_run v.sign 2 [rest] om (.inr rfl) hrd (by simp)) (by simp)) rfl ?_
  refine WO.S0 (oSt (cs' := [_, _]) rfl rfl rfl rfl rfl rfl rfl rfl) <| WO.S0 (oSt (cs' := [_, _]) rfl rfl rfl rfl rfl rfl rfl rfl) <| Nk [4,5] rfl <| WC.rets <| post (n := 0) (.inr rfl) rfl ?_ (by simp)
  rw [hq1, hq2, ← hσ]; exact congrArg (fun z => LV.tup [lvI (σ * (val 4294967296 ds : Int)), lvI (v.sign * z)]) (by simp [val])
 refine Rg 4 rfl <| WO.S (oBx rfl rfl) rfl <| WO.S (oBx rfl rfl) rfl <| WO.S (oAl rfl) rfl <| WO.S (oAl rfl) rfl <| Wn <| WC.assoc <| Rg 8 rfl <| WO.U (oFaP rfl rfl rfl rfl rfl) rfl <| WO.U (oLdP rfl rfl rfl rfl rfl) rfl <| WO.U (oNilE rfl rfl) rfl <| WO.B (fun h16 => ?_) (fun h16 => ?_)
 rotate_left
 ·refine Um rfl rfl <| K1 rfl rfl <| K1 rfl rfl <| K1 rfl rfl <| WO.U (oPkF rfl rfl) rfl <| Wn <| WC.cF rfl <| WC.skips <| Ck [2,3,4,5] rfl ?_
  exact J3 _
 refine Um rfl rfl <| WO.Ug rfl (oFaP rfl rfl rfl rfl rfl) rfl <| WO.Ug rfl (oLdP rfl rfl rfl rfl rfl) rfl <| WO.Ug rfl (oNilE rfl rfl) rfl <| WO.B (fun h20 => ?_) (fun h20 => ?_)
 rotate_left
 ·refine WO.U (oPkT rfl rfl) rfl <| Wn <| WC.cF rfl <| WC.skips <| Ck [2,3,4,5] rfl ?_
  exact J3 _
 refine WO.U (oPkT rfl rfl) rfl <| Wn <| WC.cT rfl <| WC.assoc ?_
 have hia := ia_small (ik_eq.1 h16)
 have hiw := ia_small (ik_eq.1 h20)
 have sv := ik_eq.1 h16
 have b1 : (v.tdiv w).natAbs ≤ v.natAbs := by rw [Int.natAbs_tdiv]; exact Nat.div_le_self _ _
 have b2 : (v.tmod w).natAbs ≤ v.natAbs := by rw [Int.natAbs_tmod]; exact Nat.mod_le _ _
 unfold small at sv
 refine WC.draw (z := 14) rfl (by kernel_rfl) <| WD.U (oFaP rfl rfl rfl rfl rfl) rfl <| WD.U (cI v (oLdP rfl rfl rfl rfl rfl) hia) rfl <| WD.U (oFaP rfl rfl rfl rfl rfl) rfl <| WD.U (cI w (oLdP rfl rfl rfl rfl rfl) hiw) rfl <| WD.U (oQuo64 rfl rfl hw0 om) rfl <| WD.U (oBd (cs := [_, _]) rfl rfl rfl rfl rfl) rfl <| WD.U (oFaP rfl rfl rfl rfl rfl) rfl <| WD.U (cI v (oLdP rfl rfl rfl rfl rfl) hia) rfl <| WD.U (oFaP rfl rfl rfl rfl rfl) rfl <| WD.U (cI w (oLdP rfl rfl rfl rfl rfl) hiw) rfl <| WD.U (oRem rfl rfl hw0) rfl <| WD.U (oBd (cs := [_, _]) rfl rfl rfl rfl rfl) rfl <| WD.S0 (oSt (cs' := [_, _]) rfl rfl rfl rfl rfl rfl rfl rfl) <| WD.S0 (oSt (cs' := [_, _]) rfl rfl rfl rfl rfl rfl rfl rfl) <| WD.nil (drawOk_of (by kernel_rfl)) rfl <| Ck [4,5] rfl <| WC.rets <| post (n := 0) (.inr rfl) rfl ?_ (by simp)
 rw [lvI_small (v := v.tdiv w) (by unfold small; omega), lvI_small (v := v.tmod w) (by unfold small; omega)]; rfl
theorem gcd_run (v w : Int) (hv : len32 v < 549755813888) (hw : len32 w < 549755813888) : Run Tryz.prog T E0 (.call 101 [lvI v, lvI w] (lvI (v.gcd w : Nat))) := by
 refine mkcall Tryz.func101 rfl rfl (Nat.le_of_ble_eq_true rfl) <| Rg 3 rfl <| WO.S (oBx rfl rfl) rfl <| WO.S (oBx rfl rfl) rfl <| WO.S (oAl rfl) rfl <| Wn <| WC.draw (z := 6) rfl (by kernel_rfl) <| WD.U (oLdP (l := .agg [_, _]) rfl rfl rfl rfl rfl) rfl <| WD.U (oCall rfl (abs_run _) (by simp)) rfl <| WD.U (oLdP (l := .agg [_, _]) rfl rfl rfl rfl rfl) rfl <| WD.U (oCall rfl (abs_run _) (by simp)) rfl <| WD.S0 (oSt (cs' := [_, _]) rfl rfl rfl rfl rfl rfl rfl rfl) <| WD.S0 (oSt (cs' := [_, _]) rfl rfl rfl rfl rfl rfl rfl rfl) <| WD.nil (drawOk_of (by kernel_rfl)) rfl <| WC.block <| WC.loopV (α := Nat × Nat) (fun ⟨a, b⟩ => [(2, .ptr 0 0), (3, .ptr 1 0), (4, .ptr 2 0)]) (fun ⟨a, b⟩ => [(0, { cells := (lvI (a : Int)).cells, sz := 2, elem := 109, st := 0 }), (1, { cells := (lvI (b : Int)).cells, sz := 2, elem := 109, st := 0 }), (2, { cells := [.v (.int .i64 0), .sl 0 []], sz := 2, elem := 109, st := 0 })]) (fun ⟨a, b⟩ n => Nat.gcd a b = v.gcd w ∧ len32 (a : Int) < 549755813888 ∧ len32 (b : Int) < 549755813888 ∧ 3 ≤ n) (fun ⟨a, b⟩ => b) (v.natAbs, w.natAbs) ⟨rfl, rfl, rfl, trivial⟩ ⟨rfl, rfl, rfl, trivial⟩ ⟨rfl, by rw [len32_nat]; exact hv, by rw [len32_nat]; exact hw, om⟩ ?_
 rintro ⟨a, b⟩ n hF
 change WC _ _ _ _ _ (_ :: _) (_ :: _) n _
 obtain ⟨hg, hla, hlb, hn3⟩ := hF
 refine WC.assoc <| Rg 3 rfl <| WO.U (oLdP (l := .agg [_, _]) rfl rfl rfl rfl rfl) rfl <| WO.U (oCall rfl (sign_run _) (by simp)) rfl <| WO.U (oNeq rfl rfl) rfl <| WO.D (fun h13 => ?_) (fun h13 => ?_)
 rotate_left
 ·refine Wn <| WC.cF rfl <| WC.exits <| loopR_exit <| after_exit rfl <| Rg 2 rfl <| WO.U (oLdP (l := .agg [_, _]) rfl rfl rfl rfl rfl) rfl <| WO.S0 (oSt (cs' := [_, _]) rfl rfl rfl rfl rfl rfl rfl rfl) <| Wn <| WC.ret <| post (n := 0) (.inr rfl) rfl ?_ (by simp)
  have hb0 : b = 0 := by
   have := Int.sign_eq_zero_iff_zero (a := (b : Int)); omega
  subst hb0
  rw [Nat.gcd_zero_right] at hg
  rw [← hg]; rfl
 refine Wn <| WC.cT rfl <| WC.skips <| WC.block1 ?_
 have hb0 : 0 < b := by
  rcases Nat.eq_zero_or_pos b with h | h
  ·subst h; simp at h13
  ·exact h
 have hm : (a : Int).tmod b = ((a % b : Nat) : Int) := by rw [Int.tmod_eq_emod_of_nonneg om]; simp
 have hlm : len32 ((a % b : Nat) : Int) < 549755813888 := by rw [← hm]; have := len32_tmod (a : Int) (b : Int); omega
 refine Rg 10 rfl <| WO.U (oLdP (l := .agg [_, _]) rfl rfl rfl rfl rfl) rfl <| WO.U (oLdP (l := .agg [_, _]) rfl rfl rfl rfl rfl) rfl <| WO.U (oCall rfl (quo_run (a : Int) (b : Int) om hla hlb) (by simp)) rfl <| Um rfl rfl <| WO.U (oEx rfl rfl) rfl <| WO.U (OP.cast (b := lvI ((a % b : Nat) : Int)) (oEx rfl rfl) (by rw [hm])) rfl <| WO.S (oAl rfl) rfl <| WO.S (oAl rfl) rfl <| WO.S0 (oSt (cs' := [_, _]) rfl rfl rfl (g1 om g0) rfl rfl rfl rfl) <| WO.S0 (oSt (cs' := [_, _]) rfl rfl rfl (g1 om g0) rfl rfl rfl rfl) <| Wn <| WC.draw1z (z := 4) rfl (by kernel_rfl) <| WD.U (oLdP (l := .agg [_, _]) rfl rfl (g1 om (g1 om (g1 om (g1 om (g1 (by decide) g0))))) rfl rfl) rfl <| WD.U (oLdP (l := .agg [_, _]) rfl rfl g0 rfl rfl) rfl <| WD.S0 (oSt (cs' := [_, _]) rfl rfl rfl (g1 om (g1 om (g1 om (g1 om g0)))) rfl rfl rfl rfl) <| WD.S0 (oSt (cs' := [_, _]) rfl rfl rfl (g1 (by decide) (g1 om (g1 om (g1 om (g1 om (g1 (by decide) g0)))))) rfl rfl rfl rfl) <| WD.nil (drawOk_of (by kernel_rfl)) rfl <| after0_normal <| loopR_normal <| ⟨⟨b, a % b⟩, ⟨rfl, rfl, rfl, trivial⟩, ⟨g1 (by decide) g0, g0, g1 (by decide) (g1 (by decide) (g1 om (g1 om (g1 om (g1 om (g1 (by decide) (g1 (by decide) g0))))))), trivial⟩, ⟨by rw [← hg, Nat.gcd_comm b, ← Nat.gcd_rec b a, Nat.gcd_comm], hlb, hlm, om⟩, Nat.mod_lt _ hb0⟩
theorem ratio_run (v w : Int) (hw0 : w ≠ 0) (hv : len32 v < 549755813888) (hw : len32 w < 549755813888) : Run Tryz.prog T E0 (.call 106 [lvI v, lvI w] (lvX (Rat.divInt v w, false))) := by
 have hgp : 0 < v.gcd w := Int.gcd_pos_of_ne_zero_right _ hw0
 obtain ⟨hL1, hL2⟩ := ratio_law (a := v) hw0
 have hlg : len32 ((v.gcd w : Nat) : Int) < 549755813888 := by
  have h1 : v.gcd w ≤ w.natAbs := Nat.le_of_dvd om (Nat.gcd_dvd_right _ _)
  have := len32_mono (v := ((v.gcd w : Nat) : Int)) (w := w) (by simpa using h1)
  omega
 obtain ⟨g, hg⟩ : ∃ g : Int, g = (v.gcd w : Nat) := ⟨_, rfl⟩
 rw [← hg] at hL1 hL2 hlg
 refine mkcall Tryz.func106 rfl rfl (Nat.le_of_ble_eq_true rfl) ?_
 have J5 : ∀ (a b : Int) (ha : a = v.tdiv g) (hb : b = w.tdiv g) (n : Nat) , WC Tryz.prog T E0 Tryz.f106.ntmps (codeR (codeR (codeOf Tryz.f106))) [(2, .ptr 0 0), (3, .ptr 1 0), (4, .ptr 2 0)] [(0, { cells := (lvI a).cells, sz := 2, elem := 109, st := 0 }), (1, { cells := (lvI b).cells, sz := 2, elem := 109, st := 0 }), (2, { cells := [.v (.int .i64 0), .sl 0 [], .v (.int .i64 0), .sl 0 []], sz := 4, elem := 111, st := 0 })] n (Post T Tryz.f106.results.toList (lvX (Rat.divInt v w, false))) := by
  intro a b ha hb n
  subst ha hb
  refine WC.assoc <| Rg 3 rfl <| WO.U (oLdP (l := .agg [_, _]) rfl rfl rfl rfl rfl) rfl <| WO.U (oCall rfl (sign_run _) (by simp)) rfl <| WO.U (oLss rfl rfl) rfl <| WO.D (fun h31 => ?_) (fun h31 => ?_)
  rotate_left
  ·refine Wn <| WC.cF rfl <| WC.skips <| Rg 4 rfl <| WO.U (oLdP (l := .agg [_, _]) rfl rfl rfl rfl rfl) rfl <| WO.U (oLdP (l := .agg [_, _]) rfl rfl rfl rfl rfl) rfl <| WO.U (oBd (cs := [_, _, _, _]) rfl rfl rfl rfl rfl) rfl <| WO.S0 (oSt (cs' := [_, _, _, _]) rfl rfl rfl rfl rfl rfl rfl rfl) <| Wn <| WC.ret <| post (n := 0) (.inr rfl) rfl ?_ (by simp)
   obtain ⟨h1, h2⟩ := hL2 (by have := @Int.sign_neg_iff (w.tdiv g); omega)
   rw [lvX_f, ← h1, ← h2]; rfl
  refine Wn <| WC.cT rfl <| WC.draw (z := 6) rfl (by kernel_rfl) <| WD.U (oLdP (l := .agg [_, _]) rfl rfl rfl rfl rfl) rfl <| WD.U (oCall rfl (neg_run _) (by simp)) rfl <| WD.U (oLdP (l := .agg [_, _]) rfl rfl rfl rfl rfl) rfl <| WD.U (oCall rfl (neg_run _) (by simp)) rfl <| WD.S0 (oSt (cs' := [_, _]) rfl rfl rfl rfl rfl rfl rfl rfl) <| WD.S0 (oSt (cs' := [_, _]) rfl rfl rfl rfl rfl rfl rfl rfl) <| WD.nil (drawOk_of (by kernel_rfl)) rfl <| Rg 4 rfl <| WO.U (oLdP (l := .agg [_, _]) rfl rfl rfl rfl rfl) rfl <| WO.U (oLdP (l := .agg [_, _]) rfl rfl rfl rfl rfl) rfl <| WO.U (oBd (cs := [_, _, _, _]) rfl rfl rfl rfl rfl) rfl <| WO.S0 (oSt (cs' := [_, _, _, _]) rfl rfl rfl rfl rfl rfl rfl rfl) <| Wn <| WC.ret <| post (n := 0) (.inr rfl) rfl ?_ (by simp)
  obtain ⟨h1, h2⟩ := hL1 (Int.sign_neg_iff.1 h31)
  rw [lvX_f, ← h1, ← h2]; rfl
 refine Rg 3 rfl <| WO.S (oBx rfl rfl) rfl <| WO.S (oBx rfl rfl) rfl <| WO.S (oAl rfl) rfl <| Wn <| WC.assoc <| Rg 5 rfl <| WO.U (oLdP (l := .agg [_, _]) rfl rfl rfl rfl rfl) rfl <| WO.U (oLdP (l := .agg [_, _]) rfl rfl rfl rfl rfl) rfl <| WO.U (oCall rfl (hg ▸ gcd_run v w hv hw) (by simp)) rfl <| WO.S (oAl rfl) rfl <| WO.S0 (oSt (cs' := [_, _]) rfl rfl rfl rfl rfl rfl rfl rfl) <| Wn <| WC.assoc <| Rg 8 rfl <| WO.U (oFaP rfl rfl rfl rfl rfl) rfl <| WO.U (oLdP rfl rfl rfl rfl rfl) rfl <| WO.U (oNeq rfl rfl) rfl <| WO.D (fun h11 => ?_) (fun h11 => ?_)
 ·refine Um rfl rfl <| K1 rfl rfl <| K1 rfl rfl <| K1 rfl rfl <| WO.U (oPkT rfl rfl) rfl <| Nk [2,3,4,5,16] rfl <| WC.cT rfl <| WC.assoc <| Rg 7 rfl <| WO.U (oLdP (l := .agg [_, _]) rfl rfl rfl rfl rfl) rfl <| WO.U (oLdP (l := .agg [_, _]) rfl rfl rfl rfl rfl) rfl <| WO.U (oCall rfl (quo_run v g om hv hlg) (by simp)) rfl <| Um rfl rfl <| WO.U (oEx rfl rfl) rfl <| WO.U (oEx rfl rfl) rfl <| WO.S0 (oSt (cs' := [_, _]) rfl rfl rfl rfl rfl rfl rfl rfl) <| Wn <| Rg 7 rfl <| WO.U (oLdP (l := .agg [_, _]) rfl rfl rfl rfl rfl) rfl <| WO.U (oLdP (l := .agg [_, _]) rfl rfl rfl rfl rfl) rfl <| WO.U (oCall rfl (quo_run w g om hw hlg) (by simp)) rfl <| Um rfl rfl <| WO.U (oEx rfl rfl) rfl ?_
  refine WO.U (oEx rfl rfl) rfl <| WO.S0 (oSt (cs' := [_, _]) rfl rfl rfl rfl rfl rfl rfl rfl) <| Nk [2,3,4] rfl <| Ck [2,3,4] rfl <| WC.weakM _ ?_ (J5 _ _ rfl rfl _)
  exact ⟨rfl, rfl, rfl, trivial⟩
 refine Um rfl rfl <| WO.Ug rfl (oFaP rfl rfl rfl rfl rfl) rfl <| WO.Ug rfl (oLdP rfl rfl rfl rfl rfl) rfl <| WO.Ug rfl (oNilN rfl rfl) rfl <| WO.B (fun h15 => ?_) (fun h15 => ?_)
 rotate_left
 ·refine WO.U (oPkF rfl rfl) rfl <| Nk [2,3,4,5,16] rfl <| WC.cF rfl <| WC.skips <| Ck [2,3,4] rfl ?_
  have h1 : g = 1 := by
   have := ia_small (ik_ne'.1 h15); omega
  have e1 : v = v.tdiv g := by rw [h1]; simp
  have e2 : w = w.tdiv g := by rw [h1]; simp
  refine WC.weakM _ ?_ (J5 _ _ e1 e2 _)
  exact ⟨rfl, rfl, rfl, trivial⟩
 refine WO.U (oPkF rfl rfl) rfl <| Nk [2,3,4,5,16] rfl <| WC.cT rfl <| WC.assoc <| Rg 7 rfl <| WO.U (oLdP (l := .agg [_, _]) rfl rfl rfl rfl rfl) rfl <| WO.U (oLdP (l := .agg [_, _]) rfl rfl rfl rfl rfl) rfl <| WO.U (oCall rfl (quo_run v g om hv hlg) (by simp)) rfl <| Um rfl rfl <| WO.U (oEx rfl rfl) rfl <| WO.U (oEx rfl rfl) rfl <| WO.S0 (oSt (cs' := [_, _]) rfl rfl rfl rfl rfl rfl rfl rfl) <| Wn <| Rg 7 rfl <| WO.U (oLdP (l := .agg [_, _]) rfl rfl rfl rfl rfl) rfl <| WO.U (oLdP (l := .agg [_, _]) rfl rfl rfl rfl rfl) rfl <| WO.U (oCall rfl (quo_run w g om hw hlg) (by simp)) rfl <| Um rfl rfl <| WO.U (oEx rfl rfl) rfl <| WO.U (oEx rfl rfl) rfl <| WO.S0 (oSt (cs' := [_, _]) rfl rfl rfl rfl rfl rfl rfl rfl) <| Nk [2,3,4] rfl ?_
 refine Ck [2,3,4] rfl <| WC.weakM _ ?_ (J5 _ _ rfl rfl _)
 exact ⟨rfl, rfl, rfl, trivial⟩
theorem isw_run (x : X) : Run Tryz.prog T E0 (.call 104 [lvX x] (.v (.bool (xw x)))) := by
 refine mkcall Tryz.func104 rfl rfl (Nat.le_of_ble_eq_true rfl) <| Rg 2 rfl <| WO.S (oBx rfl rfl) rfl <| Ua rfl rfl <| Wn <| Rg 11 rfl <| WO.U (oFaP rfl rfl rfl rfl rfl) rfl <| WO.U (oFaP rfl rfl rfl rfl rfl) rfl <| WO.U (oLdP rfl rfl rfl rfl rfl) rfl <| WO.U (oNilE rfl rfl) rfl <| WO.B (fun h6 => ?_) (fun h6 => ?_)
 ·refine Um rfl rfl <| WO.Ug rfl (oFaP rfl rfl rfl rfl rfl) rfl <| WO.Ug rfl (oFaP rfl rfl rfl rfl rfl) rfl <| WO.Ug rfl (oLdP rfl rfl rfl rfl rfl) rfl <| WO.Ug rfl (oLeq rfl rfl) rfl <| WO.U (oPkT rfl rfl) rfl <| Ua rfl rfl <| Wn <| WC.ret <| post (n := 0) (.inr rfl) rfl ?_ (by simp)
  have h1 : decide (ia (xlow x) ≤ 1) = xw x := by
   rw [ia_small (ik_eq.1 h6)]; exact decide_eq_decide.2 (xlow_one x)
  exact congrArg (fun z => LV.v (.bool z)) h1
 refine Um rfl rfl <| K1 rfl rfl <| K1 rfl rfl <| K1 rfl rfl <| K1 rfl rfl <| WO.U (oPkF rfl rfl) rfl <| Ua rfl rfl <| Wn <| WC.ret <| post (n := 0) (.inr rfl) rfl ?_ (by simp)
 have h1 : false = xw x := by
  have h2 := ik_ne.1 h6
  have h3 := xlow_one x
  have h4 : ¬ x.1.den = 1 := fun k => h2 (by have := h3.2 k; have := xlow_nonneg x; unfold small; omega)
  unfold xw; rw [decide_eq_false h4]
 exact congrArg (fun z => LV.v (.bool z)) h1
theorem low_run (x : X) : Run Tryz.prog T E0 (.call 108 [lvX x] (lvI (x.1.den : Int))) := by
 refine mkcall Tryz.func108 rfl rfl (Nat.le_of_ble_eq_true rfl) <| Rg 2 rfl <| WO.S (oBx rfl rfl) rfl <| WO.S (oAl rfl) rfl <| Wn <| WC.assoc <| Rg 4 rfl <| WO.U (oFaP rfl rfl rfl rfl rfl) rfl <| WO.U (oLdP (l := .agg [_, _]) rfl rfl rfl rfl rfl) rfl <| WO.U (oCall rfl (sign_run _) (by simp)) rfl <| WO.U (oEql rfl rfl) rfl <| WO.D (fun h6 => ?_) (fun h6 => ?_)
 ·refine Wn <| WC.cT rfl <| WC.assoc <| Rg 2 rfl <| WO.U (oCall rfl (one_run) (by simp)) rfl <| WO.S0 (oSt (cs' := [_, _]) rfl rfl rfl rfl rfl rfl rfl rfl) <| Wn <| WC.rets <| post (n := 0) (.inr rfl) rfl ?_ (by simp)
  rw [xlow_zero (Int.sign_eq_zero_iff_zero.1 h6)]; rfl
 refine Wn <| WC.cF rfl <| WC.skips <| Rg 3 rfl <| WO.U (oFaP rfl rfl rfl rfl rfl) rfl <| WO.U (oLdP (l := .agg [_, _]) rfl rfl rfl rfl rfl) rfl <| WO.S0 (oSt (cs' := [_, _]) rfl rfl rfl rfl rfl rfl rfl rfl) <| Wn <| WC.ret <| post (n := 0) (.inr rfl) rfl ?_ (by simp)
 rw [← xlow_ne (fun k => h6 (by rw [k]; rfl))]; rfl
theorem rsign_run (x : X) : Run Tryz.prog T E0 (.call 110 [lvX x] (.v (.int .i64 x.1.num.sign))) := by
 refine mkcall Tryz.func110 rfl rfl (Nat.le_of_ble_eq_true rfl) <| Rg 2 rfl <| WO.S (oBx rfl rfl) rfl <| Ua rfl rfl <| Wn <| Rg 4 rfl <| WO.U (oFaP rfl rfl rfl rfl rfl) rfl <| WO.U (oLdP (l := .agg [_, _]) rfl rfl rfl rfl rfl) rfl <| WO.U (oCall rfl (sign_run x.1.num) (by simp)) rfl <| Ua rfl rfl <| Wn <| WC.ret ?_
 exact post (n := 0) (.inr rfl) rfl rfl (by simp)
theorem rneg_run (x : X) : Run Tryz.prog T E0 (.call 134 [lvX x] (lvX (xneg x))) := by
 refine mkcall Tryz.func134 rfl rfl (Nat.le_of_ble_eq_true rfl) <| Rg 2 rfl <| WO.S (oBx rfl rfl) rfl <| WO.S (oAl rfl) rfl <| Wn <| WC.draw (z := 7) rfl (by kernel_rfl) <| WD.U (oFaP rfl rfl rfl rfl rfl) rfl <| WD.U (oLdP (l := .agg [_, _]) rfl rfl rfl rfl rfl) rfl <| WD.U (oCall rfl (neg_run x.1.num) (by simp)) rfl <| WD.U (oFaP rfl rfl rfl rfl rfl) rfl <| WD.U (oLdP (l := .agg [_, _]) rfl rfl rfl rfl rfl) rfl <| WD.U (oBd (cs := [_, _, _, _]) rfl rfl rfl rfl rfl) rfl <| WD.S0 (oSt (cs' := [_, _, _, _]) rfl rfl rfl rfl rfl rfl rfl rfl) <| WD.nil (drawOk_of (by kernel_rfl)) rfl <| WC.ret <| post (n := 0) (.inr rfl) rfl ?_ (by simp)
 rw [lvX_neg]; rfl
theorem whole_run (v : Int) (hv : I64 v) : Run Tryz.prog T E0 (.call 86 [.v (.int .i64 v)] (lvX (xint v))) := by
 unfold I64 at hv
 refine mkcall Tryz.func86 rfl rfl (Nat.le_of_ble_eq_true rfl) <| Rg 1 rfl <| WO.S (oAl rfl) rfl <| Wn <| Rg 4 rfl <| Um rfl rfl <| WO.U (oCall rfl (of_run _ om) (by simp)) rfl <| WO.U (oBd (cs := [_, _, _, _]) rfl rfl rfl rfl rfl) rfl <| WO.S0 (oSt (cs' := [_, _, _, _]) rfl rfl rfl rfl rfl rfl rfl rfl) <| Wn <| WC.ret <| post (n := 0) (.inr rfl) rfl ?_ (by simp)
 rw [lvX_int]; rfl
theorem radd_run (x y : X) (hx : Bd 68719476736 x.1) (hy : Bd 68719476736 y.1) : Run Tryz.prog T E0 (.call 83 [lvX x, lvX y] (lvX (xadd x y))) := by
 obtain ⟨hx1, hx2⟩ := hx
 obtain ⟨hy1, hy2⟩ := hy
 have m1 := len32_mul x.1.num y.1.den
 have m2 := len32_mul y.1.num x.1.den
 have m3 := len32_add (x.1.num * y.1.den) (y.1.num * x.1.den)
 have m4 := len32_mul x.1.den y.1.den
 refine mkcall Tryz.func83 rfl rfl (Nat.le_of_ble_eq_true rfl) <| Rg 3 rfl <| WO.S (oBx rfl rfl) rfl <| WO.S (oBx rfl rfl) rfl <| WO.S (oAl rfl) rfl <| Wn <| WC.assoc <| Rg 6 rfl <| WO.U (oLdP (l := .agg [_, _, _, _]) rfl rfl rfl rfl rfl) rfl <| WO.U (oCall rfl (isw_run x) (by simp)) rfl <| WO.B (fun h6 => ?_) (fun h6 => ?_)
 rotate_left
 ·refine Um rfl rfl <| K1 rfl rfl <| K1 rfl rfl <| WO.U (oPkF rfl rfl) rfl <| Wn <| WC.cF rfl <| WC.skips <| WC.draw (z := 18) rfl (by kernel_rfl) <| WD.U (oFaP rfl rfl rfl rfl rfl) rfl <| WD.U (oLdP (l := .agg [_, _]) rfl rfl rfl rfl rfl) rfl <| WD.U (oLdP (l := .agg [_, _, _, _]) rfl rfl rfl rfl rfl) rfl <| WD.U (oCall rfl (low_run y) (by simp)) rfl <| WD.U (oCall rfl (mul_run x.1.num y.1.den om om) (by simp)) rfl <| WD.U (oFaP rfl rfl rfl rfl rfl) rfl <| WD.U (oLdP (l := .agg [_, _]) rfl rfl rfl rfl rfl) rfl <| WD.U (oLdP (l := .agg [_, _, _, _]) rfl rfl rfl rfl rfl) rfl <| WD.U (oCall rfl (low_run x) (by simp)) rfl <| WD.U (oCall rfl (mul_run y.1.num x.1.den om om) (by simp)) rfl <| WD.U (oCall rfl (add_run (x.1.num * y.1.den) (y.1.num * x.1.den) om om) (by simp)) rfl <| WD.U (oLdP (l := .agg [_, _, _, _]) rfl rfl rfl rfl rfl) rfl <| WD.U (oCall rfl (low_run x) (by simp)) rfl <| WD.U (oLdP (l := .agg [_, _, _, _]) rfl rfl rfl rfl rfl) rfl <| WD.U (oCall rfl (low_run y) (by simp)) rfl <| WD.U (oCall rfl (mul_run x.1.den y.1.den om om) (by simp)) rfl ?_
  refine WD.U (oCall rfl (ratio_run (x.1.num * y.1.den + y.1.num * x.1.den) (x.1.den * y.1.den) (Int.mul_ne_zero (den_ne _) (den_ne _)) om om) (by simp)) rfl <| WD.S0 (oSt (cs' := [_, _, _, _]) rfl rfl rfl rfl rfl rfl rfl rfl) <| WD.nil (drawOk_of (by kernel_rfl)) rfl <| Ck [4] rfl <| WC.ret <| post (n := 0) (.inr rfl) rfl ?_ (by simp)
  rw [xadd_f (by rw [h6]; rfl)]; rfl
 refine Um rfl rfl <| WO.Ug rfl (oLdP (l := .agg [_, _, _, _]) rfl rfl rfl rfl rfl) rfl <| WO.Ug rfl (oCall rfl (isw_run y) (by simp)) rfl <| WO.B (fun h9 => ?_) (fun h9 => ?_)
 ·refine WO.U (oPkT rfl rfl) rfl <| Wn <| WC.cT rfl <| WC.assoc <| Rg 7 rfl <| WO.U (oFaP rfl rfl rfl rfl rfl) rfl <| WO.U (oLdP (l := .agg [_, _]) rfl rfl rfl rfl rfl) rfl <| WO.U (oFaP rfl rfl rfl rfl rfl) rfl <| WO.U (oLdP (l := .agg [_, _]) rfl rfl rfl rfl rfl) rfl <| WO.U (oCall rfl (add_run x.1.num y.1.num om om) (by simp)) rfl <| WO.U (oBd (cs := [_, _, _, _]) rfl rfl rfl rfl rfl) rfl <| WO.S0 (oSt (cs' := [_, _, _, _]) rfl rfl rfl rfl rfl rfl rfl rfl) <| Nk [4] rfl <| WC.rets <| post (n := 0) (.inr rfl) rfl ?_ (by simp)
  rw [xadd_w h6 h9]; rfl
 refine WO.U (oPkT rfl rfl) rfl <| Wn <| WC.cF rfl <| WC.skips <| WC.draw (z := 18) rfl (by kernel_rfl) <| WD.U (oFaP rfl rfl rfl rfl rfl) rfl <| WD.U (oLdP (l := .agg [_, _]) rfl rfl rfl rfl rfl) rfl <| WD.U (oLdP (l := .agg [_, _, _, _]) rfl rfl rfl rfl rfl) rfl <| WD.U (oCall rfl (low_run y) (by simp)) rfl <| WD.U (oCall rfl (mul_run x.1.num y.1.den om om) (by simp)) rfl <| WD.U (oFaP rfl rfl rfl rfl rfl) rfl <| WD.U (oLdP (l := .agg [_, _]) rfl rfl rfl rfl rfl) rfl <| WD.U (oLdP (l := .agg [_, _, _, _]) rfl rfl rfl rfl rfl) rfl <| WD.U (oCall rfl (low_run x) (by simp)) rfl <| WD.U (oCall rfl (mul_run y.1.num x.1.den om om) (by simp)) rfl <| WD.U (oCall rfl (add_run (x.1.num * y.1.den) (y.1.num * x.1.den) om om) (by simp)) rfl <| WD.U (oLdP (l := .agg [_, _, _, _]) rfl rfl rfl rfl rfl) rfl <| WD.U (oCall rfl (low_run x) (by simp)) rfl <| WD.U (oLdP (l := .agg [_, _, _, _]) rfl rfl rfl rfl rfl) rfl <| WD.U (oCall rfl (low_run y) (by simp)) rfl <| WD.U (oCall rfl (mul_run x.1.den y.1.den om om) (by simp)) rfl <| WD.U (oCall rfl (ratio_run (x.1.num * y.1.den + y.1.num * x.1.den) (x.1.den * y.1.den) (Int.mul_ne_zero (den_ne _) (den_ne _)) om om) (by simp)) rfl <| WD.S0 (oSt (cs' := [_, _, _, _]) rfl rfl rfl rfl rfl rfl rfl rfl) <| WD.nil (drawOk_of (by kernel_rfl)) rfl ?_
 refine Ck [4] rfl <| WC.ret <| post (n := 0) (.inr rfl) rfl ?_ (by simp)
 rw [xadd_f (by rw [h6, h9]; rfl)]; rfl
theorem nrat_run (a : NM) (h1 : I64 a.1) (h2 : I64 a.2) (h0 : a.2 ≠ 0) : Run Tryz.prog T E0 (.call 84 [lvM a] (lvX (Rat.divInt a.1 a.2, false))) := by
 unfold I64 at h1 h2
 have m1 := len32_small (v := a.1) om
 have m2 := len32_small (v := a.2) om
 refine mkcall Tryz.func84 rfl rfl (Nat.le_of_ble_eq_true rfl) <| Rg 2 rfl <| WO.S (oBx rfl rfl) rfl <| WO.S (oAl rfl) rfl <| Wn <| WC.draw (z := 8) rfl (by kernel_rfl) <| WD.U (oFaP rfl rfl rfl rfl rfl) rfl <| WD.U (oLdP rfl rfl rfl rfl rfl) rfl <| WD.U (oCall rfl (of_run _ om) (by simp)) rfl <| WD.U (oFaP rfl rfl rfl rfl rfl) rfl <| WD.U (oLdP rfl rfl rfl rfl rfl) rfl <| WD.U (oCall rfl (of_run _ om) (by simp)) rfl <| WD.U (oCall rfl (ratio_run a.1 a.2 h0 om om) (by simp)) rfl <| WD.S0 (oSt (cs' := [_, _, _, _]) rfl rfl rfl rfl rfl rfl rfl rfl) <| WD.nil (drawOk_of (by kernel_rfl)) rfl <| WC.ret <| post (n := 0) (.inr rfl) rfl ?_ (by simp)
 rfl
theorem nvalid_run (a : NM) (h1 : I64 a.1) (h2 : I64 a.2) : Run Tryz.prog T E0 (.call 82 [lvM a] (.v (.bool (decide (VN a))))) := by
 unfold I64 at h1 h2
 have m1 := len32_small (v := a.1) om
 have m2 := len32_small (v := a.2) om
 refine mkcall Tryz.func82 rfl rfl (Nat.le_of_ble_eq_true rfl) <| Rg 2 rfl <| WO.S (oBx rfl rfl) rfl <| Ua rfl rfl <| Wn <| WC.assoc <| Rg 18 rfl <| WO.U (oFaP rfl rfl rfl rfl rfl) rfl <| WO.U (oLdP rfl rfl rfl rfl rfl) rfl <| WO.U (oLss rfl rfl) rfl <| WO.D (fun h7 => ?_) (fun h7 => ?_)
 ·refine Um rfl rfl <| K1 rfl rfl <| K1 rfl rfl <| K1 rfl rfl <| WO.U (oPkT rfl rfl) rfl <| Um rfl rfl <| K1 rfl rfl <| K1 rfl rfl <| K1 rfl rfl <| WO.U (oPkT rfl rfl) rfl <| Um rfl rfl <| K1 rfl rfl <| K1 rfl rfl <| K1 rfl rfl <| WO.U (oPkT rfl rfl) rfl <| Nk [1,22] rfl <| WC.cT rfl <| WC.assoc ?_
  have hV : ¬ VN a := by unfold VN; omega
  refine Rg 1 rfl <| Ua rfl rfl <| Wn <| WC.rets <| post (n := 0) (.inr rfl) rfl ?_ (by simp)
  exact congrArg (fun z => LV.v (.bool z)) (decide_eq_false hV).symm
 refine Um rfl rfl <| WO.Ug rfl (oFaP rfl rfl rfl rfl rfl) rfl <| WO.Ug rfl (oLdP rfl rfl rfl rfl rfl) rfl <| WO.Ug rfl (oGtr rfl rfl) rfl <| WO.D (fun h11 => ?_) (fun h11 => ?_)
 ·refine WO.U (oPkF rfl rfl) rfl <| Um rfl rfl <| K1 rfl rfl <| K1 rfl rfl <| K1 rfl rfl <| WO.U (oPkT rfl rfl) rfl <| Um rfl rfl <| K1 rfl rfl <| K1 rfl rfl <| K1 rfl rfl <| WO.U (oPkT rfl rfl) rfl <| Nk [1,22] rfl <| WC.cT rfl <| WC.assoc ?_
  have hV : ¬ VN a := by unfold VN; omega
  refine Rg 1 rfl <| Ua rfl rfl <| Wn <| WC.rets <| post (n := 0) (.inr rfl) rfl ?_ (by simp)
  exact congrArg (fun z => LV.v (.bool z)) (decide_eq_false hV).symm
 refine WO.U (oPkF rfl rfl) rfl <| Um rfl rfl <| WO.Ug rfl (oFaP rfl rfl rfl rfl rfl) rfl <| WO.Ug rfl (oLdP rfl rfl rfl rfl rfl) rfl <| WO.Ug rfl (oGtr rfl rfl) rfl <| WO.D (fun h16 => ?_) (fun h16 => ?_)
 ·refine WO.U (oPkF rfl rfl) rfl <| Um rfl rfl <| K1 rfl rfl <| K1 rfl rfl <| K1 rfl rfl <| WO.U (oPkT rfl rfl) rfl <| Nk [1,22] rfl <| WC.cT rfl <| WC.assoc ?_
  have hV : ¬ VN a := by unfold VN; omega
  refine Rg 1 rfl <| Ua rfl rfl <| Wn <| WC.rets <| post (n := 0) (.inr rfl) rfl ?_ (by simp)
  exact congrArg (fun z => LV.v (.bool z)) (decide_eq_false hV).symm
 refine WO.U (oPkF rfl rfl) rfl <| Um rfl rfl <| WO.Ug rfl (oFaP rfl rfl rfl rfl rfl) rfl <| WO.Ug rfl (oLdP rfl rfl rfl rfl rfl) rfl <| WO.Ug rfl (oLss rfl rfl) rfl <| WO.D (fun h21 => ?_) (fun h21 => ?_)
 ·refine WO.U (oPkF rfl rfl) rfl <| Nk [1,22] rfl <| WC.cT rfl <| WC.assoc ?_
  have hV : ¬ VN a := by unfold VN; omega
  refine Rg 1 rfl <| Ua rfl rfl <| Wn <| WC.rets <| post (n := 0) (.inr rfl) rfl ?_ (by simp)
  exact congrArg (fun z => LV.v (.bool z)) (decide_eq_false hV).symm
 refine WO.U (oPkF rfl rfl) rfl <| Nk [1,22] rfl <| WC.cF rfl <| WC.skips ?_
 have hg1 : a.1.gcd a.2 ≤ a.2.natAbs := Nat.le_of_dvd om (Nat.gcd_dvd_right _ _)
 refine WC.draw (z := 13) rfl (by kernel_rfl) <| WD.U (oFaP rfl rfl rfl rfl rfl) rfl <| WD.U (oLdP rfl rfl rfl rfl rfl) rfl <| WD.U (oCall rfl (of_run _ om) (by simp)) rfl <| WD.U (oFaP rfl rfl rfl rfl rfl) rfl <| WD.U (oLdP rfl rfl rfl rfl rfl) rfl <| WD.U (oCall rfl (of_run _ om) (by simp)) rfl <| WD.U (oCall rfl (gcd_run a.1 a.2 om om) (by simp)) rfl <| WD.U (oCall rfl (int_run (a.1.gcd a.2 : Nat) 1152921504606846976 om) (by simp)) rfl <| Dm rfl rfl <| WD.U (oEx rfl rfl) rfl <| WD.U (oEx rfl rfl) rfl <| WD.U (oAs rfl) rfl <| WD.U (oAs rfl) rfl <| WD.nil (drawOk_of (by kernel_rfl)) rfl <| Ck [3] rfl <| Rg 3 rfl <| Um rfl rfl <| WO.U (oEql rfl rfl) rfl <| Ua rfl rfl <| Wn <| WC.ret <| post (n := 0) (.inr rfl) rfl ?_ (by simp)
 have hV : (decide ((if -1152921504606846976 ≤ ((a.1.gcd a.2 : Nat) : Int) ∧ ((a.1.gcd a.2 : Nat) : Int) ≤ 1152921504606846976 then ((a.1.gcd a.2 : Nat) : Int) else 0) = 1)) = decide (VN a) := by
  rw [if_pos om]; apply decide_eq_decide.2; unfold VN; omega
 exact congrArg (fun z => LV.v (.bool z)) hV
end Go.Proofs.YthpnlndhebcngaaGreat
set_option linter.unusedVariables false
set_option linter.unusedSimpArgs false
set_option maxRecDepth 100000
set_option maxHeartbeats 1000000
namespace Go.Proofs.YthpnlndhebcngaaGreat
open Go.Ab Go.RowKit
theorem nof_run (v : Int) (hv : I64 v) : Run Tryz.prog T E0 (.call 89 [.v (.int .i64 v)] (lvN v)) := by
 unfold I64 at hv
 refine mkcall Tryz.func89 rfl rfl (Nat.le_of_ble_eq_true rfl) <| Rg 1 rfl <| WO.S (oAl rfl) rfl <| Wn <| WC.assoc <| Rg 6 rfl <| Um rfl rfl <| WO.U (oGtr rfl rfl) rfl <| WO.D (fun h7 => ?_) (fun h7 => ?_)
 rotate_left
 ·refine Um rfl rfl <| K1 rfl rfl <| K1 rfl rfl <| WO.U (oPkF rfl rfl) rfl <| Wn <| WC.cF rfl <| WC.skips ?_
  have hns : ¬ smallN v := by unfold smallN; omega
  have hm1 : 2305843009213693952 ≤ v.natAbs := by unfold smallN at hns; omega
  have hm2 : v.natAbs ≤ 9223372036854775808 := by omega
  have hdg := of_big hm1 hm2
  have e1 : v.tmod 1073741824 = v.sign * ((v.natAbs % 1073741824 : Nat) : Int) ∧ v.tdiv 1073741824 = v.sign * ((v.natAbs / 1073741824 : Nat) : Int) := by
   have := quo_law (v := v) (w := 1073741824) (q := v.natAbs / 1073741824) (r := v.natAbs % 1073741824) (by simp; omega) (by simp; omega)
   refine ⟨this.2, ?_⟩
   rw [this.1, show Int.sign 1073741824 = 1 from rfl, Int.mul_one]
  obtain ⟨σ, hσ⟩ : ∃ σ, σ = v.sign := ⟨_, rfl⟩
  have hs1 : σ = 1 ∨ σ = -1 := by rw [hσ]; exact sign_1 om
  rw [← hσ] at e1
  obtain ⟨d0, hd0⟩ : ∃ d, d = v.natAbs % 1073741824 := ⟨_, rfl⟩
  obtain ⟨m1, hm1'⟩ : ∃ d, d = v.natAbs / 1073741824 := ⟨_, rfl⟩
  rw [← hd0, ← hm1'] at e1 hdg
  refine Rg 6 rfl <| Um rfl rfl <| WO.U (cI (σ * (d0 : Int)) (oRem rfl rfl (by decide)) e1.1) rfl <| Um rfl rfl <| WO.U (cI (σ * (m1 : Int)) (oQuo64 rfl rfl (by decide) (by rw [e1.2]; rcases hs1 with h | h <;> rw [h] <;> omega)) e1.2) rfl <| Ua rfl rfl <| Ua rfl rfl <| Wn <| Rg 6 rfl <| Um rfl rfl <| Um rfl rfl <| WO.U (oNeg64 rfl (by rcases hs1 with h | h <;> rw [h] <;> omega)) rfl <| WO.U (cI ((d0 : Int)) (oMax rfl rfl) (by rcases hs1 with h | h <;> rw [h] <;> split <;> omega)) rfl <| WO.U (oBs' (cs := [_]) (rows := [[_]]) rfl rfl (by decide) rfl rfl rfl) rfl <| Ua rfl rfl <| Nk [0,2,4,5] rfl <| WC.block <| WC.unroll <| WC.assoc <| Rg 2 rfl <| Um rfl rfl <| WO.U (oNeq rfl rfl) rfl <| WO.D (fun h24 => ?_) (fun h24 => ?_)
  rotate_left
  ·rcases hs1 with h | h <;> rw [h] at h24 <;> omega
  refine Wn <| WC.cT rfl <| WC.skips <| WC.block1 ?_
  have e2 : (σ * (m1 : Int)).tmod 1073741824 = σ * ((m1 % 1073741824 : Nat) : Int) ∧ (σ * (m1 : Int)).tdiv 1073741824 = σ * ((m1 / 1073741824 : Nat) : Int) := by
   rcases hs1 with rfl | rfl
   ·simp only [Int.one_mul]; rw [Int.tmod_eq_emod_of_nonneg om, Int.tdiv_eq_ediv_of_nonneg om]; exact ⟨by simp, by simp⟩
   ·simp only [Int.neg_mul, Int.one_mul, Int.neg_tmod, Int.neg_tdiv]; rw [Int.tmod_eq_emod_of_nonneg om, Int.tdiv_eq_ediv_of_nonneg om]; exact ⟨by simp, by simp⟩
  obtain ⟨d1, hd1⟩ : ∃ d, d = m1 % 1073741824 := ⟨_, rfl⟩
  obtain ⟨m2, hm2'⟩ : ∃ d, d = m1 / 1073741824 := ⟨_, rfl⟩
  rw [← hd1, ← hm2'] at e2 hdg
  refine Rg 6 rfl <| Um rfl rfl <| WO.U (cI (σ * (d1 : Int)) (oRem rfl rfl (by decide)) e2.1) rfl <| Um rfl rfl <| WO.U (cI (σ * (m2 : Int)) (oQuo64 rfl rfl (by decide) (by rw [e2.2]; rcases hs1 with h | h <;> rw [h] <;> omega)) e2.2) rfl <| Ua rfl rfl <| Ua rfl rfl <| Wn <| WC.reg1z (z := 8) rfl <| Um rfl rfl <| Um rfl rfl <| Um rfl rfl <| WO.U (oNeg64 rfl (by rcases hs1 with h | h <;> rw [h] <;> omega)) rfl <| WO.U (cI ((d1 : Int)) (oMax rfl rfl) (by rcases hs1 with h | h <;> rw [h] <;> split <;> omega)) rfl <| WO.U (oBs' (cs := [_]) (rows := [[_]]) rfl rfl (by decide) rfl rfl rfl) rfl <| WO.S (oApS (xs := [d64 d0]) (rows := [d64 d1]) rfl rfl rfl rfl rfl (by decide) (by intro r hr; simp at hr; subst hr; rfl) (by intro r hr; simp at hr; subst hr; rfl) (Nat.lt_succ_self 0) (by show (2 * (1 + 1) + 256) * 8 ≤ 2 ^ 48; decide) (by show 1 + 1 < 2 ^ 62; decide)) rfl <| Ua rfl rfl <| Wn <| after0_normal <| unr_normal <| WC.unroll <| WC.assoc <| Rg 2 rfl <| Um rfl rfl ?_
  refine WO.U (oNeq rfl rfl) rfl <| WO.D (fun h24 => ?_) (fun h24 => ?_)
  rotate_left
  ·rcases hs1 with h | h <;> rw [h] at h24 <;> omega
  refine Nk [0,2,4,5,24] rfl <| WC.cT rfl <| WC.skips <| WC.block1 ?_
  have e3 : (σ * (m2 : Int)).tmod 1073741824 = σ * (m2 : Int) ∧ (σ * (m2 : Int)).tdiv 1073741824 = 0 := by
   have hb : m2 < 1073741824 := by omega
   rcases hs1 with rfl | rfl
   ·simp only [Int.one_mul]; rw [Int.tmod_eq_emod_of_nonneg om, Int.tdiv_eq_ediv_of_nonneg om]; omega
   ·simp only [Int.neg_mul, Int.one_mul, Int.neg_tmod, Int.neg_tdiv]; rw [Int.tmod_eq_emod_of_nonneg om, Int.tdiv_eq_ediv_of_nonneg om]; omega
  refine Rg 6 rfl <| Um rfl rfl <| WO.U (cI (σ * (m2 : Int)) (oRem rfl rfl (by decide)) e3.1) rfl <| Um rfl rfl <| WO.U (cI 0 (oQuo64 rfl rfl (by decide) (by rw [e3.2]; omega)) e3.2) rfl <| Ua rfl rfl <| Ua rfl rfl <| Wn <| WC.reg1z (z := 8) rfl <| Um rfl rfl <| Um rfl rfl <| Um rfl rfl <| WO.U (oNeg64 rfl (by rcases hs1 with h | h <;> rw [h] <;> omega)) rfl <| WO.U (cI ((m2 : Int)) (oMax rfl rfl) (by rcases hs1 with h | h <;> rw [h] <;> split <;> omega)) rfl <| WO.U (oBs' (cs := [_]) (rows := [[_]]) rfl rfl (by decide) rfl rfl rfl) rfl <| WO.S (oApM (f := d64) (us := [d0, d1]) (u := m2) rfl rfl rfl rfl rfl (fun _ => rfl) (by decide) g0 (by show (2 * (2 + 1) + 256) * 8 ≤ 2 ^ 48; decide) (by show 2 + 1 < 2 ^ 62; decide)) rfl <| Ua rfl rfl <| Wn <| after0_normal <| unr_normal <| WC.unroll <| WC.assoc <| Rg 2 rfl <| Um rfl rfl ?_
  refine WO.U (oNeq rfl rfl) rfl <| WO.D (fun h24 => ?_) (fun h24 => ?_)
  ·exact absurd rfl h24
  refine Nk [0,2,4,5,24] rfl <| WC.cF rfl <| WC.exits <| unr_exit <| after_exit rfl <| Rg 5 rfl <| Um rfl rfl <| WO.U (oLss rfl rfl) rfl <| Um rfl rfl <| WO.U (oBd (cs := [_, _, _]) rfl rfl rfl rfl rfl) rfl <| WO.S0 (oSt (cs' := [_, _, _]) rfl rfl rfl rfl rfl rfl rfl rfl) <| Wn <| WC.ret ?_
  have hr : lvN v = .agg [.v (.int .i64 0), .v (.bool (decide (v < 0))), .sl 1 [d64 d0, d64 d1, d64 m2]] := by rw [lvN_big hns, hdg]; rfl
  rw [hr]
  exact postRef3 (n := 0) [d64 d0, d64 d1, d64 m2] (.inr rfl) rfl rfl (g1 (by decide) g0) (by show (0 : Nat) ≠ 2; decide) rfl (by decide) rfl (by intro r hr; simp at hr; rcases hr with rfl | rfl | rfl <;> rfl) (by simp [d64])
 refine Um rfl rfl <| WO.Ug rfl (oMv rfl) rfl <| WO.Ug rfl (oLss rfl rfl) rfl <| WO.D (fun h10 => ?_) (fun h10 => ?_)
 ·refine WO.U (oPkT rfl rfl) rfl <| Wn <| WC.cT rfl <| WC.assoc <| Rg 3 rfl <| Um rfl rfl <| WO.U (oBd (cs := [_, _, _]) rfl rfl rfl rfl rfl) rfl <| WO.S0 (oSt (cs' := [_, _, _]) rfl rfl rfl rfl rfl rfl rfl rfl) <| Wn <| WC.rets <| post (n := 0) (.inr rfl) rfl ?_ (by simp)
  rw [lvN_small (by unfold smallN; omega)]; rfl
 refine WO.U (oPkT rfl rfl) rfl <| Wn <| WC.cF rfl <| WC.skips ?_
 have hns : ¬ smallN v := by unfold smallN; omega
 have hm1 : 2305843009213693952 ≤ v.natAbs := by unfold smallN at hns; omega
 have hm2 : v.natAbs ≤ 9223372036854775808 := by omega
 have hdg := of_big hm1 hm2
 have e1 : v.tmod 1073741824 = v.sign * ((v.natAbs % 1073741824 : Nat) : Int) ∧ v.tdiv 1073741824 = v.sign * ((v.natAbs / 1073741824 : Nat) : Int) := by
  have := quo_law (v := v) (w := 1073741824) (q := v.natAbs / 1073741824) (r := v.natAbs % 1073741824) (by simp; omega) (by simp; omega)
  refine ⟨this.2, ?_⟩
  rw [this.1, show Int.sign 1073741824 = 1 from rfl, Int.mul_one]
 obtain ⟨σ, hσ⟩ : ∃ σ, σ = v.sign := ⟨_, rfl⟩
 have hs1 : σ = 1 ∨ σ = -1 := by rw [hσ]; exact sign_1 om
 rw [← hσ] at e1
 obtain ⟨d0, hd0⟩ : ∃ d, d = v.natAbs % 1073741824 := ⟨_, rfl⟩
 obtain ⟨m1, hm1'⟩ : ∃ d, d = v.natAbs / 1073741824 := ⟨_, rfl⟩
 rw [← hd0, ← hm1'] at e1 hdg
 refine Rg 6 rfl <| Um rfl rfl <| WO.U (cI (σ * (d0 : Int)) (oRem rfl rfl (by decide)) e1.1) rfl <| Um rfl rfl <| WO.U (cI (σ * (m1 : Int)) (oQuo64 rfl rfl (by decide) (by rw [e1.2]; rcases hs1 with h | h <;> rw [h] <;> omega)) e1.2) rfl <| Ua rfl rfl <| Ua rfl rfl <| Wn <| Rg 6 rfl <| Um rfl rfl <| Um rfl rfl <| WO.U (oNeg64 rfl (by rcases hs1 with h | h <;> rw [h] <;> omega)) rfl <| WO.U (cI ((d0 : Int)) (oMax rfl rfl) (by rcases hs1 with h | h <;> rw [h] <;> split <;> omega)) rfl <| WO.U (oBs' (cs := [_]) (rows := [[_]]) rfl rfl (by decide) rfl rfl rfl) rfl <| Ua rfl rfl <| Nk [0,2,4,5] rfl <| WC.block <| WC.unroll <| WC.assoc <| Rg 2 rfl <| Um rfl rfl <| WO.U (oNeq rfl rfl) rfl <| WO.D (fun h24 => ?_) (fun h24 => ?_)
 rotate_left
 ·rcases hs1 with h | h <;> rw [h] at h24 <;> omega
 refine Wn <| WC.cT rfl <| WC.skips <| WC.block1 ?_
 have e2 : (σ * (m1 : Int)).tmod 1073741824 = σ * ((m1 % 1073741824 : Nat) : Int) ∧ (σ * (m1 : Int)).tdiv 1073741824 = σ * ((m1 / 1073741824 : Nat) : Int) := by
  rcases hs1 with rfl | rfl
  ·simp only [Int.one_mul]; rw [Int.tmod_eq_emod_of_nonneg om, Int.tdiv_eq_ediv_of_nonneg om]; exact ⟨by simp, by simp⟩
  ·simp only [Int.neg_mul, Int.one_mul, Int.neg_tmod, Int.neg_tdiv]; rw [Int.tmod_eq_emod_of_nonneg om, Int.tdiv_eq_ediv_of_nonneg om]; exact ⟨by simp, by simp⟩
 obtain ⟨d1, hd1⟩ : ∃ d, d = m1 % 1073741824 := ⟨_, rfl⟩
 obtain ⟨m2, hm2'⟩ : ∃ d, d = m1 / 1073741824 := ⟨_, rfl⟩
 rw [← hd1, ← hm2'] at e2 hdg
 refine Rg 6 rfl <| Um rfl rfl <| WO.U (cI (σ * (d1 : Int)) (oRem rfl rfl (by decide)) e2.1) rfl <| Um rfl rfl <| WO.U (cI (σ * (m2 : Int)) (oQuo64 rfl rfl (by decide) (by rw [e2.2]; rcases hs1 with h | h <;> rw [h] <;> omega)) e2.2) rfl <| Ua rfl rfl <| Ua rfl rfl <| Wn <| WC.reg1z (z := 8) rfl <| Um rfl rfl <| Um rfl rfl <| Um rfl rfl <| WO.U (oNeg64 rfl (by rcases hs1 with h | h <;> rw [h] <;> omega)) rfl <| WO.U (cI ((d1 : Int)) (oMax rfl rfl) (by rcases hs1 with h | h <;> rw [h] <;> split <;> omega)) rfl <| WO.U (oBs' (cs := [_]) (rows := [[_]]) rfl rfl (by decide) rfl rfl rfl) rfl <| WO.S (oApS (xs := [d64 d0]) (rows := [d64 d1]) rfl rfl rfl rfl rfl (by decide) (by intro r hr; simp at hr; subst hr; rfl) (by intro r hr; simp at hr; subst hr; rfl) (Nat.lt_succ_self 0) (by show (2 * (1 + 1) + 256) * 8 ≤ 2 ^ 48; decide) (by show 1 + 1 < 2 ^ 62; decide)) rfl <| Ua rfl rfl <| Wn <| after0_normal <| unr_normal <| WC.unroll <| WC.assoc <| Rg 2 rfl <| Um rfl rfl ?_
 refine WO.U (oNeq rfl rfl) rfl <| WO.D (fun h24 => ?_) (fun h24 => ?_)
 rotate_left
 ·rcases hs1 with h | h <;> rw [h] at h24 <;> omega
 refine Nk [0,2,4,5,24] rfl <| WC.cT rfl <| WC.skips <| WC.block1 ?_
 have e3 : (σ * (m2 : Int)).tmod 1073741824 = σ * (m2 : Int) ∧ (σ * (m2 : Int)).tdiv 1073741824 = 0 := by
  have hb : m2 < 1073741824 := by omega
  rcases hs1 with rfl | rfl
  ·simp only [Int.one_mul]; rw [Int.tmod_eq_emod_of_nonneg om, Int.tdiv_eq_ediv_of_nonneg om]; omega
  ·simp only [Int.neg_mul, Int.one_mul, Int.neg_tmod, Int.neg_tdiv]; rw [Int.tmod_eq_emod_of_nonneg om, Int.tdiv_eq_ediv_of_nonneg om]; omega
 refine Rg 6 rfl <| Um rfl rfl <| WO.U (cI (σ * (m2 : Int)) (oRem rfl rfl (by decide)) e3.1) rfl <| Um rfl rfl <| WO.U (cI 0 (oQuo64 rfl rfl (by decide) (by rw [e3.2]; omega)) e3.2) rfl <| Ua rfl rfl <| Ua rfl rfl <| Wn <| WC.reg1z (z := 8) rfl <| Um rfl rfl <| Um rfl rfl <| Um rfl rfl <| WO.U (oNeg64 rfl (by rcases hs1 with h | h <;> rw [h] <;> omega)) rfl <| WO.U (cI ((m2 : Int)) (oMax rfl rfl) (by rcases hs1 with h | h <;> rw [h] <;> split <;> omega)) rfl <| WO.U (oBs' (cs := [_]) (rows := [[_]]) rfl rfl (by decide) rfl rfl rfl) rfl <| WO.S (oApM (f := d64) (us := [d0, d1]) (u := m2) rfl rfl rfl rfl rfl (fun _ => rfl) (by decide) g0 (by show (2 * (2 + 1) + 256) * 8 ≤ 2 ^ 48; decide) (by show 2 + 1 < 2 ^ 62; decide)) rfl <| Ua rfl rfl <| Wn <| after0_normal <| unr_normal <| WC.unroll <| WC.assoc <| Rg 2 rfl <| Um rfl rfl ?_
 refine WO.U (oNeq rfl rfl) rfl <| WO.D (fun h24 => ?_) (fun h24 => ?_)
 ·exact absurd rfl h24
 refine Nk [0,2,4,5,24] rfl <| WC.cF rfl <| WC.exits <| unr_exit <| after_exit rfl <| Rg 5 rfl <| Um rfl rfl <| WO.U (oLss rfl rfl) rfl <| Um rfl rfl <| WO.U (oBd (cs := [_, _, _]) rfl rfl rfl rfl rfl) rfl <| WO.S0 (oSt (cs' := [_, _, _]) rfl rfl rfl rfl rfl rfl rfl rfl) <| Wn <| WC.ret ?_
 have hr : lvN v = .agg [.v (.int .i64 0), .v (.bool (decide (v < 0))), .sl 1 [d64 d0, d64 d1, d64 m2]] := by rw [lvN_big hns, hdg]; rfl
 rw [hr]
 exact postRef3 (n := 0) [d64 d0, d64 d1, d64 m2] (.inr rfl) rfl rfl (g1 (by decide) g0) (by show (0 : Nat) ≠ 2; decide) rfl (by decide) rfl (by intro r hr; simp at hr; rcases hr with rfl | rfl | rfl <;> rfl) (by simp [d64])
theorem ntrim_run (k : Nat) (ds : List Nat) (hk : k ≤ 2) (hl : ds.length < 4611686018427387904) : Run Tryz.prog T E0 (.call 143 [.sl k (ds.map d64)] (.sl (if k = 0 then 0 else 1) ((trim ds).map d64))) := by
 refine mkcall Tryz.func143 rfl rfl (Nat.le_of_ble_eq_true rfl) <| Rg 1 rfl <| Ua rfl rfl <| Wn <| WC.block <| WC.loopV (α := Nat × (List Nat)) (fun ⟨k1, es⟩ => [(0, .sl k1 (es.map d64))]) (fun ⟨k1, es⟩ => []) (fun ⟨k1, es⟩ n => (k1 = k ∨ k = 2 ∧ k1 = 1) ∧ trim es = trim ds ∧ es.length < 4611686018427387904) (fun ⟨k1, es⟩ => es.length) (k, ds) ⟨rfl, trivial⟩ trivial ⟨.inl rfl, rfl, hl⟩ ?_
 rintro ⟨k1, es⟩ n hF
 change WC _ _ _ _ _ (_ :: _) ([]) n _
 obtain ⟨hk1, hds, hel⟩ := hF
 refine WC.assoc <| Rg 12 rfl <| Um rfl rfl <| WO.U (oLenM rfl rfl) rfl <| WO.U (oGtr rfl rfl) rfl <| WO.D (fun h5 => ?_) (fun h5 => ?_)
 rotate_left
 ·refine Um rfl rfl <| K1 rfl rfl <| K1 rfl rfl <| K1 rfl rfl <| K1 rfl rfl <| K1 rfl rfl <| K1 rfl rfl <| K1 rfl rfl <| WO.U (oPkF rfl rfl) rfl <| Wn <| WC.cF rfl <| WC.exits <| loopR_exit <| after_exit rfl <| Rg 2 rfl <| Um rfl rfl <| Ua rfl rfl <| Nk [2] rfl <| WC.ret <| postW (n := 0) (.inr rfl) rfl ?_ (by simp)
  have ht : trim es = es := trim_done om
  rw [← hds, ht]
  rcases hk1 with rfl | ⟨rfl, rfl⟩
  ·have : k1 = 0 ∨ k1 = 1 ∨ k1 = 2 := by omega
   rcases this with rfl | rfl | rfl
   ·exact .same _
   ·exact .same _
   ·exact .two _
  ·exact .same _
 refine Um rfl rfl <| WO.Ug rfl (oMv rfl) rfl <| WO.Ug rfl (oMv rfl) rfl <| WO.Ug rfl (oLenM rfl rfl) rfl <| WO.Ug rfl (oSub64 rfl rfl om) rfl <| WO.Ug rfl (oIxM (j := es.length - 1) rfl rfl rfl rfl om om rfl) rfl <| WO.Ug rfl (oLd rfl rfl rfl) rfl <| WO.Ug rfl (oEql rfl rfl) rfl <| WO.D (fun h13 => ?_) (fun h13 => ?_)
 ·refine WO.U (oPkT rfl rfl) rfl <| Wn <| WC.cT rfl <| WC.skips <| WC.block1 <| WC.reg1z (z := 6) rfl <| Um rfl rfl <| Um rfl rfl <| WO.U (oLenM rfl rfl) rfl <| WO.U (oSub64 rfl rfl om) rfl <| WO.U (oSlH (j := es.length - 1) rfl rfl rfl rows_d64 rfl om (by simp)) rfl <| Ua rfl rfl <| Wn <| after0_normal <| loopR_normal <| ⟨⟨if k1 = 2 then 1 else k1, es.take (es.length - 1)⟩, ⟨congrArg some ?_, trivial⟩, trivial, ⟨?_, ?_, ?_⟩, ?_⟩
  ·have h9 : es.length - 1 < es.length := by omega
   simp [h9]
  ·split <;> omega
  ·rw [trim_step om om]; exact hds
  ·simp; omega
  ·simp; omega
 refine WO.U (oPkT rfl rfl) rfl <| Wn <| WC.cF rfl <| WC.exits <| loopR_exit <| after_exit rfl <| Rg 2 rfl <| Um rfl rfl <| Ua rfl rfl <| Nk [2] rfl <| WC.ret <| postW (n := 0) (.inr rfl) rfl ?_ (by simp)
 have ht : trim es = es := trim_done om
 rw [← hds, ht]
 rcases hk1 with rfl | ⟨rfl, rfl⟩
 ·have : k1 = 0 ∨ k1 = 1 ∨ k1 = 2 := by omega
  rcases this with rfl | rfl | rfl
  ·exact .same _
  ·exact .same _
  ·exact .two _
 ·exact .same _
theorem nlist_run (v : Int) : Run Tryz.prog T E0 (.call 117 [lvN v] (.sl (if (dgs 1073741824 v.natAbs).length = 0 then 0 else 1) ((dgs 1073741824 v.natAbs).map d64))) := by
 have hb := na_bd v
 refine mkcall Tryz.func117 rfl rfl (Nat.le_of_ble_eq_true rfl) <| Rg 2 rfl <| WO.S (oBx rfl rfl) rfl <| Ua rfl rfl <| Wn <| WC.assoc <| Rg 4 rfl <| WO.U (oFaP rfl rfl rfl rfl rfl) rfl <| WO.U (oLdP rfl rfl rfl rfl rfl) rfl <| WO.U (oLenM rfl rfl) rfl <| WO.U (oGtr rfl rfl) rfl <| WO.D (fun h8 => ?_) (fun h8 => ?_)
 ·refine Wn <| WC.cT rfl <| WC.assoc <| Rg 3 rfl <| WO.U (oFaP rfl rfl rfl rfl rfl) rfl <| WO.U (oLdP rfl rfl rfl rfl rfl) rfl <| Ua rfl rfl <| Wn <| WC.rets <| post (n := 0) (.inr rfl) rfl ?_ (by simp)
  have hs : ¬ smallN v := ndg_pos.1 h8
  have h1 : ¬ (dgs 1073741824 v.natAbs).length = 0 := by rw [← ndg_big hs]; omega
  rw [if_neg h1, ndg_big hs, nk_big hs]; rfl
 refine Wn <| WC.cF rfl <| WC.skips <| Rg 1 rfl <| Ua rfl rfl <| Wn <| WC.assoc ?_
 have hs : smallN v := ndg_len.1 om
 have hna := na_small hs
 unfold smallN at hs
 refine Rg 7 rfl <| WO.U (oFaP rfl rfl rfl rfl rfl) rfl <| WO.U (oLdP rfl rfl rfl rfl rfl) rfl <| WO.U (oFaP rfl rfl rfl rfl rfl) rfl <| WO.U (oLdP rfl rfl rfl rfl rfl) rfl <| WO.U (oNeg64 rfl om) rfl <| WO.U (cI (((v.natAbs : Nat) : Int)) (oMax rfl rfl) (by rw [hna]; split <;> omega)) rfl <| Ua rfl rfl <| Nk [3,4] rfl <| WC.block <| WC.loopV (α := Nat × Nat × (List Nat)) (fun ⟨m, q, ds⟩ => [(3, outV q 1 (ds.map d64)), (4, .v (.int .i64 (m : Int)))]) (fun ⟨m, q, ds⟩ => outH q 1 3 (ds.map d64) []) (fun ⟨m, q, ds⟩ n => dgs 1073741824 v.natAbs = ds ++ dgs 1073741824 m ∧ m < 2305843009213693952 ∧ ds.length ≤ 3 ∧ m * 1073741824 ^ ds.length ≤ 2305843009213693952) (fun ⟨m, q, ds⟩ => m) (v.natAbs, 0, []) ⟨rfl, rfl, trivial⟩ trivial ⟨rfl, om, by simp, by simp; omega⟩ ?_
 rintro ⟨m, q, ds⟩ n hF
 change WC _ _ _ _ _ (_ :: _) (outH _ _ _ _ _) n _
 obtain ⟨hds, hm, hdl, hml⟩ := hF
 refine WC.assoc <| Rg 2 rfl <| Um rfl rfl <| WO.U (oGtr rfl rfl) rfl <| WO.D (fun h18 => ?_) (fun h18 => ?_)
 rotate_left
 ·refine Wn <| WC.cF rfl <| WC.exits <| loopR_exit <| after_exit rfl <| Rg 2 rfl <| Um rfl rfl <| Ua rfl rfl <| Wn <| WC.ret ?_
  have h0 : m = 0 := by omega
  subst h0
  rw [dgs_zero, List.append_nil] at hds
  rw [hds, ← outR_map]
  exact postOut (n := 0) (.inr rfl) rfl (by decide) rows_d64 data_rows_d64
 refine Wn <| WC.cT rfl <| WC.skips <| WC.block <| WC.reg1z (z := 6) rfl <| Um rfl rfl <| Um rfl rfl <| WO.U (oRemN (b := 1073741824) rfl rfl (by decide)) rfl <| WO.U (oBs' (cs := [_]) (rows := [[_]]) rfl rfl (by decide) rfl rfl rfl) rfl <| WO.apM (te := ti3) (f := d64) (q := q) (us := ds) rfl rfl rfl rfl rfl (fun _ => rfl) (by decide) (by show (2 * (ds.length + 1) + 256) * 8 ≤ _; omega) om rfl rfl rfl <| Ua rfl rfl <| Wn <| after_normal <| WC.reg1z (z := 3) rfl <| Um rfl rfl <| WO.U (oQuoN (b := 1073741824) rfl rfl (by decide) om) rfl <| Ua rfl rfl <| Wn <| loopR_normal <| ⟨⟨m / 1073741824, _, ds ++ [m % 1073741824]⟩, ⟨rfl, rfl, trivial⟩, subsM_out, ⟨list_step (by decide) hds om, om, by have := list_len hml om; simp; omega, by rw [List.length_append, List.length_singleton]; exact list_bd hml⟩, by show m / 1073741824 < m; omega⟩
theorem nmade_run (b : Bool) (k : Nat) (ds : List Nat) (hk : k = 1 ∨ k = 0 ∧ ds.length = 0) (hd : Dg 1073741824 ds) (hl : ds.length < 4611686018427387904) : Run Tryz.prog T E0 (.call 118 [.v (.bool b), .sl k (ds.map d64)] (lvN (if b = true then -(val 1073741824 ds : Int) else val 1073741824 ds))) := by
 refine mkcall Tryz.func118 rfl rfl (Nat.le_of_ble_eq_true rfl) <| Rg 1 rfl <| WO.S (oAl rfl) rfl <| Wn <| WC.block <| WC.loopV (α := Nat × (List Nat)) (fun ⟨k1, es⟩ => [(0, .v (.bool b)), (1, .sl k1 (es.map d64)), (4, .ptr (0 + 0) 0)]) (fun ⟨k1, es⟩ => [(0, { cells := [.v (.int .i64 0), .v (.bool false), .sl 0 []], sz := 3, elem := 96, st := 0 })]) (fun ⟨k1, es⟩ n => k1 = k ∧ trim es = trim ds ∧ es.length ≤ ds.length) (fun ⟨k1, es⟩ => es.length) (k, ds) ⟨rfl, rfl, rfl, trivial⟩ ⟨rfl, trivial⟩ ⟨rfl, rfl, Nat.le_refl _⟩ ?_
 rintro ⟨k1, es⟩ n hF
 change WC _ _ _ _ _ (_ :: _) (_ :: _) n _
 obtain ⟨hk1, hds, hel⟩ := hF
 refine WC.assoc <| Rg 12 rfl <| Um rfl rfl <| WO.U (oLenM rfl rfl) rfl <| WO.U (oGtr rfl rfl) rfl <| WO.D (fun h9 => ?_) (fun h9 => ?_)
 rotate_left
 ·refine Um rfl rfl <| K1 rfl rfl <| K1 rfl rfl <| K1 rfl rfl <| K1 rfl rfl <| K1 rfl rfl <| K1 rfl rfl <| K1 rfl rfl <| WO.U (oPkF rfl rfl) rfl <| Nk [0,1,4,11,12,13,14,15,16,17,18] rfl <| WC.cF rfl <| WC.exits <| loopR_exit <| after_exit rfl <| WC.assoc ?_
  have hte : trim es = es := trim_done om
  have hed : Dg 1073741824 es := by rw [← hte, hds]; exact trim_dg hd
  have hev : val 1073741824 es = val 1073741824 ds := by rw [← hte, hds, trim_val]
  have het : Trm es := by rw [← hte]; exact trim_tr _
  refine Rg 14 rfl <| Um rfl rfl <| WO.U (oLenM rfl rfl) rfl <| WO.U (oGtr rfl rfl) rfl <| WO.D (fun h26 => ?_) (fun h26 => ?_)
  ·refine Um rfl rfl <| K1 rfl rfl <| K1 rfl rfl <| K1 rfl rfl <| K1 rfl rfl <| K1 rfl rfl <| K1 rfl rfl <| K1 rfl rfl <| K1 rfl rfl <| K1 rfl rfl <| WO.U (oPkT rfl rfl) rfl <| Nk [0,1,4,37] rfl <| WC.cT rfl <| WC.assoc ?_
   have hbig := made_big het om
   refine Rg 4 rfl <| Um rfl rfl <| Um rfl rfl <| WO.U (oBd (cs := [_, _, _]) rfl rfl rfl rfl rfl) rfl <| WO.S0 (oSt (cs' := [_, _, _]) rfl rfl rfl rfl rfl rfl rfl rfl) <| Wn <| WC.rets ?_
   have hr : lvN (if b = true then -(val 1073741824 ds : Int) else val 1073741824 ds) = .agg [.v (.int .i64 0), .v (.bool b), .sl 1 (es.map d64)] := by
    rw [← hev, lvN_made hed hbig, hte]
   have hk2 : k1 = 1 := by omega
   subst hk2
   refine post (n := 0) (.inr rfl) rfl ?_ (by simp)
   rw [hr]; rfl
  refine Um rfl rfl <| WO.Ug rfl (oMv rfl) rfl <| WO.Ug rfl (oLenM rfl rfl) rfl <| WO.Ug rfl (oEql rfl rfl) rfl <| WO.D (fun h30 => ?_) (fun h30 => ?_)
  rotate_left
  ·refine WO.Ug rfl (oMv rfl) rfl <| K1 rfl rfl <| K1 rfl rfl <| K1 rfl rfl <| K1 rfl rfl <| WO.Ug rfl (oPkF rfl rfl) rfl <| WO.U (oPkF rfl rfl) rfl <| Nk [0,1,4,37] rfl <| WC.cF rfl <| WC.skips ?_
   have hsm := made_small hed om
   refine Rg 1 rfl <| Ua rfl rfl <| Wn <| WC.assoc <| Rg 4 rfl <| Um rfl rfl <| WO.U (oLenM rfl rfl) rfl <| WO.U (oSub64 rfl rfl om) rfl <| Ua rfl rfl <| Wn <| WC.block <| WC.loopV (α := Nat × Nat) (fun ⟨j, m⟩ => [(0, .v (.bool b)), (1, .sl k1 (es.map d64)), (4, .ptr (0 + 0) 0), (5, .v (.int .i64 (m : Int))), (6, .v (.int .i64 ((j : Int) - 1)))]) (fun ⟨j, m⟩ => [(0, { cells := [.v (.int .i64 0), .v (.bool false), .sl 0 []], sz := 3, elem := 96, st := 0 })]) (fun ⟨j, m⟩ n => j ≤ es.length ∧ m = val 1073741824 (es.drop j)) (fun ⟨j, m⟩ => j) (es.length, 0) ⟨rfl, rfl, rfl, rfl, rfl, trivial⟩ ⟨rfl, trivial⟩ ⟨Nat.le_refl _, by rw [List.drop_length]; rfl⟩ ?_
   rintro ⟨j, m⟩ n hG
   change WC _ _ _ _ _ (_ :: _) (_ :: _) n _
   obtain ⟨hj, hm⟩ := hG
   refine WC.assoc <| Rg 2 rfl <| Um rfl rfl <| WO.U (oGeq rfl rfl) rfl <| WO.D (fun h45 => ?_) (fun h45 => ?_)
   ·refine Wn <| WC.cT rfl <| WC.skips <| WC.block ?_
    have hmv : es.getD (j - 1) default + 1073741824 * m = val 1073741824 (es.drop (j - 1)) := by rw [hm, made_val (k := j - 1) om, show j - 1 + 1 = j by omega]
    have hle := val_drop_le 1073741824 es (j - 1) (by decide)
    refine WC.reg1z (z := 8) rfl <| Um rfl rfl <| WO.U (oMul64 rfl rfl om) rfl <| Um rfl rfl <| Um rfl rfl <| WO.U (oIxM (j := j - 1) rfl rfl rfl rfl om om rfl) rfl <| WO.U (oLd rfl rfl rfl) rfl <| WO.U (cI (((es.getD (j - 1) default + 1073741824 * m : Nat) : Int)) (oAdd64 rfl rfl om) om) rfl <| Ua rfl rfl <| Wn <| after_normal <| WC.reg1z (z := 3) rfl <| Um rfl rfl <| WO.U (cI (((j - 1 : Nat) : Int) - 1) (oSub64 rfl rfl om) om) rfl <| Ua rfl rfl <| Wn <| loopR_normal <| ⟨⟨j - 1, es.getD (j - 1) default + 1073741824 * m⟩, ⟨rfl, rfl, rfl, rfl, rfl, trivial⟩, ⟨rfl, trivial⟩, ⟨om, hmv⟩, by show j - 1 < j; omega⟩
   refine Wn <| WC.cF rfl <| WC.exits <| loopR_exit <| after_exit rfl <| WC.assoc ?_
   have hj0 : j = 0 := by omega
   subst hj0
   rw [List.drop_zero] at hm
   refine Rg 1 rfl <| Um rfl rfl <| WO.B (fun h55 => ?_) (fun h55 => ?_)
   rotate_left
   ·refine Wn <| WC.cF rfl <| WC.skips <| Rg 3 rfl <| Um rfl rfl <| WO.U (oBd (cs := [_, _, _]) rfl rfl rfl rfl rfl) rfl <| WO.S0 (oSt (cs' := [_, _, _]) rfl rfl rfl rfl rfl rfl rfl rfl) <| Wn <| WC.ret <| post (n := 0) (.inr rfl) rfl ?_ (by simp)
    rw [if_neg (by rw [h55]; decide), ← hev, ← hm, lvN_small (by unfold smallN; omega)]; rfl
   refine Wn <| WC.cT rfl <| Rg 3 rfl <| Um rfl rfl <| WO.U (oNeg64 rfl om) rfl <| Ua rfl rfl <| Wn <| Rg 3 rfl <| Um rfl rfl <| WO.U (oBd (cs := [_, _, _]) rfl rfl rfl rfl rfl) rfl <| WO.S0 (oSt (cs' := [_, _, _]) rfl rfl rfl rfl rfl rfl rfl rfl) <| Wn <| WC.ret <| post (n := 0) (.inr rfl) rfl ?_ (by simp)
   rw [if_pos h55, ← hev, ← hm, lvN_small (by unfold smallN; omega)]; rfl
  refine WO.Ug rfl (oMv rfl) rfl <| WO.Ug rfl (oMv rfl) rfl <| WO.Ug rfl (oIxM (j := 2) rfl rfl rfl rfl om om rfl) rfl <| WO.Ug rfl (oLd rfl rfl rfl) rfl <| WO.Ug rfl (oGeq rfl rfl) rfl <| WO.D (fun h35 => ?_) (fun h35 => ?_)
  ·refine WO.Ug rfl (oPkT rfl rfl) rfl <| WO.U (oPkF rfl rfl) rfl <| Nk [0,1,4,37] rfl <| WC.cT rfl <| WC.assoc ?_
   have hbig := made_big het om
   refine Rg 4 rfl <| Um rfl rfl <| Um rfl rfl <| WO.U (oBd (cs := [_, _, _]) rfl rfl rfl rfl rfl) rfl <| WO.S0 (oSt (cs' := [_, _, _]) rfl rfl rfl rfl rfl rfl rfl rfl) <| Wn <| WC.rets ?_
   have hr : lvN (if b = true then -(val 1073741824 ds : Int) else val 1073741824 ds) = .agg [.v (.int .i64 0), .v (.bool b), .sl 1 (es.map d64)] := by
    rw [← hev, lvN_made hed hbig, hte]
   have hk2 : k1 = 1 := by omega
   subst hk2
   refine post (n := 0) (.inr rfl) rfl ?_ (by simp)
   rw [hr]; rfl
  refine WO.Ug rfl (oPkT rfl rfl) rfl <| WO.U (oPkF rfl rfl) rfl <| Nk [0,1,4,37] rfl <| WC.cF rfl <| WC.skips ?_
  have hsm := made_small hed om
  refine Rg 1 rfl <| Ua rfl rfl <| Wn <| WC.assoc <| Rg 4 rfl <| Um rfl rfl <| WO.U (oLenM rfl rfl) rfl <| WO.U (oSub64 rfl rfl om) rfl <| Ua rfl rfl <| Wn <| WC.block <| WC.loopV (α := Nat × Nat) (fun ⟨j, m⟩ => [(0, .v (.bool b)), (1, .sl k1 (es.map d64)), (4, .ptr (0 + 0) 0), (5, .v (.int .i64 (m : Int))), (6, .v (.int .i64 ((j : Int) - 1)))]) (fun ⟨j, m⟩ => [(0, { cells := [.v (.int .i64 0), .v (.bool false), .sl 0 []], sz := 3, elem := 96, st := 0 })]) (fun ⟨j, m⟩ n => j ≤ es.length ∧ m = val 1073741824 (es.drop j)) (fun ⟨j, m⟩ => j) (es.length, 0) ⟨rfl, rfl, rfl, rfl, rfl, trivial⟩ ⟨rfl, trivial⟩ ⟨Nat.le_refl _, by rw [List.drop_length]; rfl⟩ ?_
  rintro ⟨j, m⟩ n hG
  change WC _ _ _ _ _ (_ :: _) (_ :: _) n _
  obtain ⟨hj, hm⟩ := hG
  refine WC.assoc <| Rg 2 rfl <| Um rfl rfl <| WO.U (oGeq rfl rfl) rfl <| WO.D (fun h45 => ?_) (fun h45 => ?_)
  ·refine Wn <| WC.cT rfl <| WC.skips <| WC.block ?_
   have hmv : es.getD (j - 1) default + 1073741824 * m = val 1073741824 (es.drop (j - 1)) := by rw [hm, made_val (k := j - 1) om, show j - 1 + 1 = j by omega]
   have hle := val_drop_le 1073741824 es (j - 1) (by decide)
   refine WC.reg1z (z := 8) rfl <| Um rfl rfl <| WO.U (oMul64 rfl rfl om) rfl <| Um rfl rfl <| Um rfl rfl <| WO.U (oIxM (j := j - 1) rfl rfl rfl rfl om om rfl) rfl <| WO.U (oLd rfl rfl rfl) rfl <| WO.U (cI (((es.getD (j - 1) default + 1073741824 * m : Nat) : Int)) (oAdd64 rfl rfl om) om) rfl <| Ua rfl rfl <| Wn <| after_normal <| WC.reg1z (z := 3) rfl <| Um rfl rfl <| WO.U (cI (((j - 1 : Nat) : Int) - 1) (oSub64 rfl rfl om) om) rfl <| Ua rfl rfl <| Wn <| loopR_normal <| ⟨⟨j - 1, es.getD (j - 1) default + 1073741824 * m⟩, ⟨rfl, rfl, rfl, rfl, rfl, trivial⟩, ⟨rfl, trivial⟩, ⟨om, hmv⟩, by show j - 1 < j; omega⟩
  refine Wn <| WC.cF rfl <| WC.exits <| loopR_exit <| after_exit rfl <| WC.assoc ?_
  have hj0 : j = 0 := by omega
  subst hj0
  rw [List.drop_zero] at hm
  refine Rg 1 rfl <| Um rfl rfl <| WO.B (fun h55 => ?_) (fun h55 => ?_)
  rotate_left
  ·refine Wn <| WC.cF rfl <| WC.skips <| Rg 3 rfl <| Um rfl rfl <| WO.U (oBd (cs := [_, _, _]) rfl rfl rfl rfl rfl) rfl <| WO.S0 (oSt (cs' := [_, _, _]) rfl rfl rfl rfl rfl rfl rfl rfl) <| Wn <| WC.ret <| post (n := 0) (.inr rfl) rfl ?_ (by simp)
   rw [if_neg (by rw [h55]; decide), ← hev, ← hm, lvN_small (by unfold smallN; omega)]; rfl
  refine Wn <| WC.cT rfl <| Rg 3 rfl <| Um rfl rfl <| WO.U (oNeg64 rfl om) rfl <| Ua rfl rfl <| Wn <| Rg 3 rfl <| Um rfl rfl <| WO.U (oBd (cs := [_, _, _]) rfl rfl rfl rfl rfl) rfl <| WO.S0 (oSt (cs' := [_, _, _]) rfl rfl rfl rfl rfl rfl rfl rfl) <| Wn <| WC.ret <| post (n := 0) (.inr rfl) rfl ?_ (by simp)
  rw [if_pos h55, ← hev, ← hm, lvN_small (by unfold smallN; omega)]; rfl
 refine Um rfl rfl <| WO.Ug rfl (oMv rfl) rfl <| WO.Ug rfl (oMv rfl) rfl <| WO.Ug rfl (oLenM rfl rfl) rfl <| WO.Ug rfl (oSub64 rfl rfl om) rfl <| WO.Ug rfl (oIxM (j := es.length - 1) rfl rfl rfl rfl om om rfl) rfl <| WO.Ug rfl (oLd rfl rfl rfl) rfl <| WO.Ug rfl (oEql rfl rfl) rfl <| WO.D (fun h17 => ?_) (fun h17 => ?_)
 ·refine WO.U (oPkT rfl rfl) rfl <| Nk [0,1,4,11,12,13,14,15,16,17,18] rfl <| WC.cT rfl <| WC.skips <| WC.block1 <| WC.reg1z (z := 6) rfl <| Um rfl rfl <| Um rfl rfl <| WO.U (oLenM rfl rfl) rfl <| WO.U (oSub64 rfl rfl om) rfl <| WO.U (oSlH (j := es.length - 1) rfl rfl rfl rows_d64 rfl om (by simp)) rfl <| Ua rfl rfl <| Wn <| after0_normal <| loopR_normal <| ⟨⟨k1, es.take (es.length - 1)⟩, ⟨rfl, congrArg some ?_, rfl, trivial⟩, ⟨rfl, trivial⟩, ⟨hk1, ?_, ?_⟩, ?_⟩
  ·have h9 : ¬ k1 = 2 := by omega
   simp [h9]
  ·rw [trim_step om om]; exact hds
  ·simp; omega
  ·simp; omega
 refine WO.U (oPkT rfl rfl) rfl <| Nk [0,1,4,11,12,13,14,15,16,17,18] rfl <| WC.cF rfl <| WC.exits <| loopR_exit <| after_exit rfl <| WC.assoc ?_
 have hte : trim es = es := trim_done om
 have hed : Dg 1073741824 es := by rw [← hte, hds]; exact trim_dg hd
 have hev : val 1073741824 es = val 1073741824 ds := by rw [← hte, hds, trim_val]
 have het : Trm es := by rw [← hte]; exact trim_tr _
 refine Rg 14 rfl <| Um rfl rfl <| WO.U (oLenM rfl rfl) rfl <| WO.U (oGtr rfl rfl) rfl <| WO.D (fun h26 => ?_) (fun h26 => ?_)
 ·refine Um rfl rfl <| K1 rfl rfl <| K1 rfl rfl <| K1 rfl rfl <| K1 rfl rfl <| K1 rfl rfl <| K1 rfl rfl <| K1 rfl rfl <| K1 rfl rfl <| K1 rfl rfl <| WO.U (oPkT rfl rfl) rfl <| Nk [0,1,4,37] rfl <| WC.cT rfl <| WC.assoc ?_
  have hbig := made_big het om
  refine Rg 4 rfl <| Um rfl rfl <| Um rfl rfl <| WO.U (oBd (cs := [_, _, _]) rfl rfl rfl rfl rfl) rfl <| WO.S0 (oSt (cs' := [_, _, _]) rfl rfl rfl rfl rfl rfl rfl rfl) <| Wn <| WC.rets ?_
  have hr : lvN (if b = true then -(val 1073741824 ds : Int) else val 1073741824 ds) = .agg [.v (.int .i64 0), .v (.bool b), .sl 1 (es.map d64)] := by
   rw [← hev, lvN_made hed hbig, hte]
  have hk2 : k1 = 1 := by omega
  subst hk2
  refine post (n := 0) (.inr rfl) rfl ?_ (by simp)
  rw [hr]; rfl
 refine Um rfl rfl <| WO.Ug rfl (oMv rfl) rfl <| WO.Ug rfl (oLenM rfl rfl) rfl <| WO.Ug rfl (oEql rfl rfl) rfl <| WO.D (fun h30 => ?_) (fun h30 => ?_)
 rotate_left
 ·refine WO.Ug rfl (oMv rfl) rfl <| K1 rfl rfl <| K1 rfl rfl <| K1 rfl rfl <| K1 rfl rfl <| WO.Ug rfl (oPkF rfl rfl) rfl <| WO.U (oPkF rfl rfl) rfl <| Nk [0,1,4,37] rfl <| WC.cF rfl <| WC.skips ?_
  have hsm := made_small hed om
  refine Rg 1 rfl <| Ua rfl rfl <| Wn <| WC.assoc <| Rg 4 rfl <| Um rfl rfl <| WO.U (oLenM rfl rfl) rfl <| WO.U (oSub64 rfl rfl om) rfl <| Ua rfl rfl <| Wn <| WC.block <| WC.loopV (α := Nat × Nat) (fun ⟨j, m⟩ => [(0, .v (.bool b)), (1, .sl k1 (es.map d64)), (4, .ptr (0 + 0) 0), (5, .v (.int .i64 (m : Int))), (6, .v (.int .i64 ((j : Int) - 1)))]) (fun ⟨j, m⟩ => [(0, { cells := [.v (.int .i64 0), .v (.bool false), .sl 0 []], sz := 3, elem := 96, st := 0 })]) (fun ⟨j, m⟩ n => j ≤ es.length ∧ m = val 1073741824 (es.drop j)) (fun ⟨j, m⟩ => j) (es.length, 0) ⟨rfl, rfl, rfl, rfl, rfl, trivial⟩ ⟨rfl, trivial⟩ ⟨Nat.le_refl _, by rw [List.drop_length]; rfl⟩ ?_
  rintro ⟨j, m⟩ n hG
  change WC _ _ _ _ _ (_ :: _) (_ :: _) n _
  obtain ⟨hj, hm⟩ := hG
  refine WC.assoc <| Rg 2 rfl <| Um rfl rfl <| WO.U (oGeq rfl rfl) rfl <| WO.D (fun h45 => ?_) (fun h45 => ?_)
  ·refine Wn <| WC.cT rfl <| WC.skips <| WC.block ?_
   have hmv : es.getD (j - 1) default + 1073741824 * m = val 1073741824 (es.drop (j - 1)) := by rw [hm, made_val (k := j - 1) om, show j - 1 + 1 = j by omega]
   have hle := val_drop_le 1073741824 es (j - 1) (by decide)
   refine WC.reg1z (z := 8) rfl <| Um rfl rfl <| WO.U (oMul64 rfl rfl om) rfl <| Um rfl rfl <| Um rfl rfl <| WO.U (oIxM (j := j - 1) rfl rfl rfl rfl om om rfl) rfl <| WO.U (oLd rfl rfl rfl) rfl <| WO.U (cI (((es.getD (j - 1) default + 1073741824 * m : Nat) : Int)) (oAdd64 rfl rfl om) om) rfl <| Ua rfl rfl <| Wn <| after_normal <| WC.reg1z (z := 3) rfl <| Um rfl rfl <| WO.U (cI (((j - 1 : Nat) : Int) - 1) (oSub64 rfl rfl om) om) rfl <| Ua rfl rfl <| Wn <| loopR_normal <| ⟨⟨j - 1, es.getD (j - 1) default + 1073741824 * m⟩, ⟨rfl, rfl, rfl, rfl, rfl, trivial⟩, ⟨rfl, trivial⟩, ⟨om, hmv⟩, by show j - 1 < j; omega⟩
  refine Wn <| WC.cF rfl <| WC.exits <| loopR_exit <| after_exit rfl <| WC.assoc ?_
  have hj0 : j = 0 := by omega
  subst hj0
  rw [List.drop_zero] at hm
  refine Rg 1 rfl <| Um rfl rfl <| WO.B (fun h55 => ?_) (fun h55 => ?_)
  rotate_left
  ·refine Wn <| WC.cF rfl <| WC.skips <| Rg 3 rfl <| Um rfl rfl <| WO.U (oBd (cs := [_, _, _]) rfl rfl rfl rfl rfl) rfl <| WO.S0 (oSt (cs' := [_, _, _]) rfl rfl rfl rfl rfl rfl rfl rfl) <| Wn <| WC.ret <| post (n := 0) (.inr rfl) rfl ?_ (by simp)
   rw [if_neg (by rw [h55]; decide), ← hev, ← hm, lvN_small (by unfold smallN; omega)]; rfl
  refine Wn <| WC.cT rfl <| Rg 3 rfl <| Um rfl rfl <| WO.U (oNeg64 rfl om) rfl <| Ua rfl rfl <| Wn <| Rg 3 rfl <| Um rfl rfl <| WO.U (oBd (cs := [_, _, _]) rfl rfl rfl rfl rfl) rfl <| WO.S0 (oSt (cs' := [_, _, _]) rfl rfl rfl rfl rfl rfl rfl rfl) <| Wn <| WC.ret <| post (n := 0) (.inr rfl) rfl ?_ (by simp)
  rw [if_pos h55, ← hev, ← hm, lvN_small (by unfold smallN; omega)]; rfl
 refine WO.Ug rfl (oMv rfl) rfl <| WO.Ug rfl (oMv rfl) rfl <| WO.Ug rfl (oIxM (j := 2) rfl rfl rfl rfl om om rfl) rfl <| WO.Ug rfl (oLd rfl rfl rfl) rfl <| WO.Ug rfl (oGeq rfl rfl) rfl <| WO.D (fun h35 => ?_) (fun h35 => ?_)
 ·refine WO.Ug rfl (oPkT rfl rfl) rfl <| WO.U (oPkF rfl rfl) rfl <| Nk [0,1,4,37] rfl <| WC.cT rfl <| WC.assoc ?_
  have hbig := made_big het om
  refine Rg 4 rfl <| Um rfl rfl <| Um rfl rfl <| WO.U (oBd (cs := [_, _, _]) rfl rfl rfl rfl rfl) rfl <| WO.S0 (oSt (cs' := [_, _, _]) rfl rfl rfl rfl rfl rfl rfl rfl) <| Wn <| WC.rets ?_
  have hr : lvN (if b = true then -(val 1073741824 ds : Int) else val 1073741824 ds) = .agg [.v (.int .i64 0), .v (.bool b), .sl 1 (es.map d64)] := by
   rw [← hev, lvN_made hed hbig, hte]
  have hk2 : k1 = 1 := by omega
  subst hk2
  refine post (n := 0) (.inr rfl) rfl ?_ (by simp)
  rw [hr]; rfl
 refine WO.Ug rfl (oPkT rfl rfl) rfl <| WO.U (oPkF rfl rfl) rfl <| Nk [0,1,4,37] rfl <| WC.cF rfl <| WC.skips ?_
 have hsm := made_small hed om
 refine Rg 1 rfl <| Ua rfl rfl <| Wn <| WC.assoc <| Rg 4 rfl <| Um rfl rfl <| WO.U (oLenM rfl rfl) rfl <| WO.U (oSub64 rfl rfl om) rfl <| Ua rfl rfl <| Wn <| WC.block <| WC.loopV (α := Nat × Nat) (fun ⟨j, m⟩ => [(0, .v (.bool b)), (1, .sl k1 (es.map d64)), (4, .ptr (0 + 0) 0), (5, .v (.int .i64 (m : Int))), (6, .v (.int .i64 ((j : Int) - 1)))]) (fun ⟨j, m⟩ => [(0, { cells := [.v (.int .i64 0), .v (.bool false), .sl 0 []], sz := 3, elem := 96, st := 0 })]) (fun ⟨j, m⟩ n => j ≤ es.length ∧ m = val 1073741824 (es.drop j)) (fun ⟨j, m⟩ => j) (es.length, 0) ⟨rfl, rfl, rfl, rfl, rfl, trivial⟩ ⟨rfl, trivial⟩ ⟨Nat.le_refl _, by rw [List.drop_length]; rfl⟩ ?_
 rintro ⟨j, m⟩ n hG
 change WC _ _ _ _ _ (_ :: _) (_ :: _) n _
 obtain ⟨hj, hm⟩ := hG
 refine WC.assoc <| Rg 2 rfl <| Um rfl rfl <| WO.U (oGeq rfl rfl) rfl <| WO.D (fun h45 => ?_) (fun h45 => ?_)
 ·refine Wn <| WC.cT rfl <| WC.skips <| WC.block ?_
  have hmv : es.getD (j - 1) default + 1073741824 * m = val 1073741824 (es.drop (j - 1)) := by rw [hm, made_val (k := j - 1) om, show j - 1 + 1 = j by omega]
  have hle := val_drop_le 1073741824 es (j - 1) (by decide)
  refine WC.reg1z (z := 8) rfl <| Um rfl rfl <| WO.U (oMul64 rfl rfl om) rfl <| Um rfl rfl <| Um rfl rfl <| WO.U (oIxM (j := j - 1) rfl rfl rfl rfl om om rfl) rfl <| WO.U (oLd rfl rfl rfl) rfl <| WO.U (cI (((es.getD (j - 1) default + 1073741824 * m : Nat) : Int)) (oAdd64 rfl rfl om) om) rfl <| Ua rfl rfl <| Wn <| after_normal <| WC.reg1z (z := 3) rfl <| Um rfl rfl <| WO.U (cI (((j - 1 : Nat) : Int) - 1) (oSub64 rfl rfl om) om) rfl <| Ua rfl rfl <| Wn <| loopR_normal <| ⟨⟨j - 1, es.getD (j - 1) default + 1073741824 * m⟩, ⟨rfl, rfl, rfl, rfl, rfl, trivial⟩, ⟨rfl, trivial⟩, ⟨om, hmv⟩, by show j - 1 < j; omega⟩
 refine Wn <| WC.cF rfl <| WC.exits <| loopR_exit <| after_exit rfl <| WC.assoc ?_
 have hj0 : j = 0 := by omega
 subst hj0
 rw [List.drop_zero] at hm
 refine Rg 1 rfl <| Um rfl rfl <| WO.B (fun h55 => ?_) (fun h55 => ?_)
 rotate_left
 ·refine Wn <| WC.cF rfl <| WC.skips <| Rg 3 rfl <| Um rfl rfl <| WO.U (oBd (cs := [_, _, _]) rfl rfl rfl rfl rfl) rfl <| WO.S0 (oSt (cs' := [_, _, _]) rfl rfl rfl rfl rfl rfl rfl rfl) <| Wn <| WC.ret <| post (n := 0) (.inr rfl) rfl ?_ (by simp)
  rw [if_neg (by rw [h55]; decide), ← hev, ← hm, lvN_small (by unfold smallN; omega)]; rfl
 refine Wn <| WC.cT rfl <| Rg 3 rfl <| Um rfl rfl <| WO.U (oNeg64 rfl om) rfl <| Ua rfl rfl <| Wn <| Rg 3 rfl <| Um rfl rfl <| WO.U (oBd (cs := [_, _, _]) rfl rfl rfl rfl rfl) rfl <| WO.S0 (oSt (cs' := [_, _, _]) rfl rfl rfl rfl rfl rfl rfl rfl) <| Wn <| WC.ret <| post (n := 0) (.inr rfl) rfl ?_ (by simp)
 rw [if_pos h55, ← hev, ← hm, lvN_small (by unfold smallN; omega)]; rfl
theorem nsign_run (v : Int) : Run Tryz.prog T E0 (.call 112 [lvN v] (.v (.int .i64 v.sign))) := by
 refine mkcall Tryz.func112 rfl rfl (Nat.le_of_ble_eq_true rfl) <| Rg 2 rfl <| WO.S (oBx rfl rfl) rfl <| Ua rfl rfl <| Wn <| WC.block <| Rg 14 rfl <| WO.U (oFaP rfl rfl rfl rfl rfl) rfl <| WO.U (oLdP rfl rfl rfl rfl rfl) rfl <| WO.U (oLenM rfl rfl) rfl <| WO.U (oGtr rfl rfl) rfl <| WO.D (fun h7 => ?_) (fun h7 => ?_)
 rotate_left
 ·refine Um rfl rfl <| K1 rfl rfl <| K1 rfl rfl <| WO.U (oPkF rfl rfl) rfl <| Um rfl rfl <| WO.Ug rfl (oFaP rfl rfl rfl rfl rfl) rfl <| WO.Ug rfl (oLdP rfl rfl rfl rfl rfl) rfl <| WO.Ug rfl (oLss rfl rfl) rfl <| WO.D (fun h15 => ?_) (fun h15 => ?_)
  ·refine WO.U (oPkF rfl rfl) rfl <| Ua rfl rfl <| Nk [1,3] rfl <| WC.cT1 rfl <| Rg 1 rfl <| Ua rfl rfl <| Wn <| WC.ret <| after_ret <| post (n := 0) (.inr rfl) rfl (congrArg (fun z => LV.v (.int .i64 z)) ?_) (by simp)
   exact (Int.sign_eq_neg_one_of_neg ((signN v).1 (by first | exact .inl ⟨h7, h10⟩ | exact .inr h15))).symm
  refine WO.U (oPkF rfl rfl) rfl <| Ua rfl rfl <| Nk [1,3] rfl <| WC.cF1 rfl ?_
  have hn : ¬ v < 0 := fun k => by
   rcases (signN v).2 k with ⟨k1, k2⟩ | k1
   ·first | omega | (rw [k2] at h10; cases h10)
   ·omega
  refine Rg 10 rfl <| WO.U (oFaP rfl rfl rfl rfl rfl) rfl <| WO.U (oLdP rfl rfl rfl rfl rfl) rfl <| WO.U (oLenM rfl rfl) rfl <| WO.U (oGtr rfl rfl) rfl <| WO.D (fun h21 => ?_) (fun h21 => ?_)
  ·refine Um rfl rfl <| K1 rfl rfl <| K1 rfl rfl <| K1 rfl rfl <| WO.U (oPkT rfl rfl) rfl <| Ua rfl rfl <| Wn <| WC.cT1 rfl <| Rg 1 rfl <| Ua rfl rfl <| Wn <| WC.ret <| after_ret <| post (n := 0) (.inr rfl) rfl (congrArg (fun z => LV.v (.int .i64 z)) ?_) (by simp)
   exact (Int.sign_eq_one_of_pos ((signP v hn).1 (.inl h21))).symm
  refine Um rfl rfl <| WO.Ug rfl (oFaP rfl rfl rfl rfl rfl) rfl <| WO.Ug rfl (oLdP rfl rfl rfl rfl rfl) rfl <| WO.Ug rfl (oGtr rfl rfl) rfl <| WO.D (fun h25 => ?_) (fun h25 => ?_)
  ·refine WO.U (oPkF rfl rfl) rfl <| Ua rfl rfl <| Wn <| WC.cT1 rfl <| Rg 1 rfl <| Ua rfl rfl <| Wn <| WC.ret <| after_ret <| post (n := 0) (.inr rfl) rfl (congrArg (fun z => LV.v (.int .i64 z)) ?_) (by simp)
   exact (Int.sign_eq_one_of_pos ((signP v hn).1 (.inr h25))).symm
  refine WO.U (oPkF rfl rfl) rfl <| Ua rfl rfl <| Wn <| WC.cF1 rfl <| WC.skip <| after_normal <| Rg 1 rfl <| Ua rfl rfl <| Wn <| WC.ret <| post (n := 0) (.inr rfl) rfl (congrArg (fun z => LV.v (.int .i64 z)) ?_) (by simp)
  have hp : ¬ 0 < v := fun k => by
   rcases (signP v hn).2 k with k1 | k1 <;> omega
  have h0 : v = 0 := by omega
  subst h0; rfl
 refine Um rfl rfl <| WO.Ug rfl (oFaP rfl rfl rfl rfl rfl) rfl <| WO.Ug rfl (oLdP rfl rfl rfl rfl rfl) rfl <| WO.B (fun h10 => ?_) (fun h10 => ?_)
 ·refine WO.U (oPkT rfl rfl) rfl <| Um rfl rfl <| K1 rfl rfl <| K1 rfl rfl <| K1 rfl rfl <| WO.U (oPkT rfl rfl) rfl <| Ua rfl rfl <| Nk [1,3] rfl <| WC.cT1 rfl <| Rg 1 rfl <| Ua rfl rfl <| Wn <| WC.ret <| after_ret <| post (n := 0) (.inr rfl) rfl (congrArg (fun z => LV.v (.int .i64 z)) ?_) (by simp)
  exact (Int.sign_eq_neg_one_of_neg ((signN v).1 (by first | exact .inl ⟨h7, h10⟩ | exact .inr h15))).symm
 refine WO.U (oPkT rfl rfl) rfl <| Um rfl rfl <| WO.Ug rfl (oFaP rfl rfl rfl rfl rfl) rfl <| WO.Ug rfl (oLdP rfl rfl rfl rfl rfl) rfl <| WO.Ug rfl (oLss rfl rfl) rfl <| WO.D (fun h15 => ?_) (fun h15 => ?_)
 ·refine WO.U (oPkF rfl rfl) rfl <| Ua rfl rfl <| Nk [1,3] rfl <| WC.cT1 rfl <| Rg 1 rfl <| Ua rfl rfl <| Wn <| WC.ret <| after_ret <| post (n := 0) (.inr rfl) rfl (congrArg (fun z => LV.v (.int .i64 z)) ?_) (by simp)
  exact (Int.sign_eq_neg_one_of_neg ((signN v).1 (by first | exact .inl ⟨h7, h10⟩ | exact .inr h15))).symm
 refine WO.U (oPkF rfl rfl) rfl <| Ua rfl rfl <| Nk [1,3] rfl <| WC.cF1 rfl ?_
 have hn : ¬ v < 0 := fun k => by
  rcases (signN v).2 k with ⟨k1, k2⟩ | k1
  ·first | omega | (rw [k2] at h10; cases h10)
  ·omega
 refine Rg 10 rfl <| WO.U (oFaP rfl rfl rfl rfl rfl) rfl <| WO.U (oLdP rfl rfl rfl rfl rfl) rfl <| WO.U (oLenM rfl rfl) rfl <| WO.U (oGtr rfl rfl) rfl <| WO.D (fun h21 => ?_) (fun h21 => ?_)
 ·refine Um rfl rfl <| K1 rfl rfl <| K1 rfl rfl <| K1 rfl rfl <| WO.U (oPkT rfl rfl) rfl <| Ua rfl rfl <| Wn <| WC.cT1 rfl <| Rg 1 rfl <| Ua rfl rfl <| Wn <| WC.ret <| after_ret <| post (n := 0) (.inr rfl) rfl (congrArg (fun z => LV.v (.int .i64 z)) ?_) (by simp)
  exact (Int.sign_eq_one_of_pos ((signP v hn).1 (.inl h21))).symm
 refine Um rfl rfl <| WO.Ug rfl (oFaP rfl rfl rfl rfl rfl) rfl <| WO.Ug rfl (oLdP rfl rfl rfl rfl rfl) rfl <| WO.Ug rfl (oGtr rfl rfl) rfl <| WO.D (fun h25 => ?_) (fun h25 => ?_)
 ·refine WO.U (oPkF rfl rfl) rfl <| Ua rfl rfl <| Wn <| WC.cT1 rfl <| Rg 1 rfl <| Ua rfl rfl <| Wn <| WC.ret <| after_ret <| post (n := 0) (.inr rfl) rfl (congrArg (fun z => LV.v (.int .i64 z)) ?_) (by simp)
  exact (Int.sign_eq_one_of_pos ((signP v hn).1 (.inr h25))).symm
 refine WO.U (oPkF rfl rfl) rfl <| Ua rfl rfl <| Wn <| WC.cF1 rfl <| WC.skip <| after_normal <| Rg 1 rfl <| Ua rfl rfl <| Wn <| WC.ret <| post (n := 0) (.inr rfl) rfl (congrArg (fun z => LV.v (.int .i64 z)) ?_) (by simp)
 have hp : ¬ 0 < v := fun k => by
  rcases (signP v hn).2 k with k1 | k1 <;> omega
 have h0 : v = 0 := by omega
 subst h0; rfl
theorem nminus_run (v : Int) : Run Tryz.prog T E0 (.call 116 [lvN v] (lvN (-v))) := by
 have hb := na_bd v
 refine mkcall Tryz.func116 rfl rfl (Nat.le_of_ble_eq_true rfl) <| Rg 2 rfl <| WO.S (oBx rfl rfl) rfl <| WO.S (oAl rfl) rfl <| Wn <| Rg 16 rfl <| WO.U (oFaP rfl rfl rfl rfl rfl) rfl <| WO.U (oLdP rfl rfl rfl rfl rfl) rfl <| WO.U (oNeg64 rfl om) rfl <| WO.U (oFaP rfl rfl rfl rfl rfl) rfl <| WO.U (oLdP rfl rfl rfl rfl rfl) rfl <| WO.U (oLenM rfl rfl) rfl <| WO.U (oGtr rfl rfl) rfl <| WO.D (fun h9 => ?_) (fun h9 => ?_)
 ·refine Um rfl rfl <| WO.Ug rfl (oFaP rfl rfl rfl rfl rfl) rfl <| WO.Ug rfl (oLdP rfl rfl rfl rfl rfl) rfl <| WO.Ug rfl (oNot rfl) rfl <| WO.U (oPkT rfl rfl) rfl <| WO.U (oFaP rfl rfl rfl rfl rfl) rfl <| WO.U (oLdP rfl rfl rfl rfl rfl) rfl <| WO.U (oBd (cs := [_, _, _]) rfl rfl rfl rfl rfl) rfl <| WO.S0 (oSt (cs' := [_, _, _]) rfl rfl rfl rfl rfl rfl rfl rfl) <| Nk [2] rfl <| WC.ret <| post (n := 0) (.inr rfl) rfl ?_ (by simp)
  rw [lvN_neg, decide_eq_true h9, Bool.true_and]; rfl
 refine Um rfl rfl <| K1 rfl rfl <| K1 rfl rfl <| K1 rfl rfl <| WO.U (oPkF rfl rfl) rfl <| WO.U (oFaP rfl rfl rfl rfl rfl) rfl <| WO.U (oLdP rfl rfl rfl rfl rfl) rfl <| WO.U (oBd (cs := [_, _, _]) rfl rfl rfl rfl rfl) rfl <| WO.S0 (oSt (cs' := [_, _, _]) rfl rfl rfl rfl rfl rfl rfl rfl) <| Nk [2] rfl <| WC.ret <| post (n := 0) (.inr rfl) rfl ?_ (by simp)
 rw [lvN_neg, decide_eq_false h9, Bool.false_and]; rfl
theorem ncompare_run (k1 k2 : Nat) (xs ys : List Nat) (hx : Dg 1073741824 xs) (hy : Dg 1073741824 ys) (tx : Trm xs) (ty : Trm ys) (lx : xs.length < 4611686018427387904) (ly : ys.length < 4611686018427387904) : Run Tryz.prog T E0 (.call 120 [.sl k1 (xs.map d64), .sl k2 (ys.map d64)] (.v (.int .i64 ((val 1073741824 xs : Int) - val 1073741824 ys).sign))) := by
 refine mkcall Tryz.func120 rfl rfl (Nat.le_of_ble_eq_true rfl) <| Rg 1 rfl <| Ua rfl rfl <| Wn <| WC.assoc <| Rg 5 rfl <| Um rfl rfl <| WO.U (oLenM rfl rfl) rfl <| Um rfl rfl <| WO.U (oLenM rfl rfl) rfl <| WO.U (oNeq rfl rfl) rfl <| WO.D (fun h10 => ?_) (fun h10 => ?_)
 ·refine Wn <| WC.cT rfl <| WC.assoc <| WC.assoc <| Rg 5 rfl <| Um rfl rfl <| WO.U (oLenM rfl rfl) rfl <| Um rfl rfl <| WO.U (oLenM rfl rfl) rfl <| WO.U (oLss rfl rfl) rfl <| WO.D (fun h15 => ?_) (fun h15 => ?_)
  ·refine Wn <| WC.cT rfl <| WC.assoc <| Rg 1 rfl <| Ua rfl rfl <| Wn <| WC.rets <| post (n := 0) (.inr rfl) rfl (congrArg (fun z => LV.v (.int .i64 z)) ?_) (by simp)
   have := val_lt_len (B := 1073741824) (by decide) hx ty om
   exact (Int.sign_eq_neg_one_of_neg om).symm
  refine Wn <| WC.cF rfl <| WC.skips <| WC.assoc <| Rg 1 rfl <| Ua rfl rfl <| Wn <| WC.rets <| post (n := 0) (.inr rfl) rfl (congrArg (fun z => LV.v (.int .i64 z)) ?_) (by simp)
  have := val_lt_len (B := 1073741824) (by decide) hy tx om
  exact (Int.sign_eq_one_of_pos om).symm
 have hlen : xs.length = ys.length := by omega
 refine Wn <| WC.cF rfl <| WC.skips <| WC.assoc <| Rg 4 rfl <| Um rfl rfl <| WO.U (oLenM rfl rfl) rfl <| WO.U (oSub64 rfl rfl om) rfl <| Ua rfl rfl <| Wn <| WC.block <| WC.loopV (α := Nat) (fun k => [(0, .sl k1 (xs.map d64)), (1, .sl k2 (ys.map d64)), (5, .v (.int .i64 ((k : Int) - 1)))]) (fun k => []) (fun k n => k ≤ xs.length ∧ xs.drop k = ys.drop k) (fun k => k) (xs.length) ⟨rfl, rfl, rfl, trivial⟩ trivial ⟨Nat.le_refl _, by rw [List.drop_length, hlen, List.drop_length]⟩ ?_
 rintro k n hF
 change WC _ _ _ _ _ (_ :: _) ([]) n _
 obtain ⟨hk, hd⟩ := hF
 refine WC.assoc <| Rg 2 rfl <| Um rfl rfl <| WO.U (oGeq rfl rfl) rfl <| WO.D (fun h20 => ?_) (fun h20 => ?_)
 rotate_left
 ·refine Wn <| WC.cF rfl <| WC.exits <| loopR_exit <| after_exit rfl <| Rg 1 rfl <| Ua rfl rfl <| Wn <| WC.ret <| post (n := 0) (.inr rfl) rfl (congrArg (fun z => LV.v (.int .i64 z)) ?_) (by simp)
  have h0 : k = 0 := by omega
  subst h0
  simp only [List.drop_zero] at hd
  subst hd
  simp
 refine Wn <| WC.cT rfl <| WC.skips <| WC.block <| WC.assoc <| WC.draw (z := 9) rfl (by kernel_rfl) <| Dm rfl rfl <| Dm rfl rfl <| WD.U (oIxM (j := k - 1) rfl rfl rfl rfl om om rfl) rfl <| WD.U (oLd rfl rfl rfl) rfl <| Dm rfl rfl <| Dm rfl rfl <| WD.U (oIxM (j := k - 1) rfl rfl rfl rfl om om rfl) rfl <| WD.U (oLd rfl rfl rfl) rfl <| WD.U (oLss rfl rfl) rfl <| WD.D (fun h31 => ?_) (fun h31 => ?_)
 ·refine WD.nil (drawOk_of (by kernel_rfl)) rfl <| WC.cT rfl <| WC.assoc <| Rg 1 rfl <| Ua rfl rfl <| Nk [4] rfl <| WC.rets <| after_ret <| loopR_ret <| after_ret <| post (n := 0) (.inr rfl) rfl (congrArg (fun z => LV.v (.int .i64 z)) ?_) (by simp)
  have hj : k - 1 + 1 = k := by omega
  have := val_lt_at (B := 1073741824) (ys := ys) (by decide) hx (k := k - 1) om om (by rw [hj]; exact hd) om
  exact (Int.sign_eq_neg_one_of_neg om).symm
 refine WD.nil (drawOk_of (by kernel_rfl)) rfl <| WC.cF rfl <| WC.skips <| WC.draw (z := 9) rfl (by kernel_rfl) <| Dm rfl rfl <| Dm rfl rfl <| WD.U (oIxM (j := k - 1) rfl rfl rfl rfl om om rfl) rfl <| WD.U (oLd rfl rfl rfl) rfl <| Dm rfl rfl <| Dm rfl rfl <| WD.U (oIxM (j := k - 1) rfl rfl rfl rfl om om rfl) rfl <| WD.U (oLd rfl rfl rfl) rfl <| WD.U (oGtr rfl rfl) rfl <| WD.D (fun h40 => ?_) (fun h40 => ?_)
 ·refine WD.nil (drawOk_of (by kernel_rfl)) rfl <| Ck [0,1,5,40] rfl <| WC.cT1 rfl <| Rg 1 rfl <| Ua rfl rfl <| Wn <| WC.ret <| after_ret <| loopR_ret <| after_ret <| post (n := 0) (.inr rfl) rfl (congrArg (fun z => LV.v (.int .i64 z)) ?_) (by simp)
  have hj : k - 1 + 1 = k := by omega
  have := val_lt_at (B := 1073741824) (ys := xs) (by decide) hy (k := k - 1) om om (by rw [hj]; exact hd.symm) om
  exact (Int.sign_eq_one_of_pos om).symm
 refine WD.nil (drawOk_of (by kernel_rfl)) rfl <| Ck [0,1,5,40] rfl <| WC.cF1 rfl <| WC.skip <| after_normal <| WC.reg1z (z := 3) rfl <| Um rfl rfl <| WO.U (cI (((k - 1 : Nat) : Int) - 1) (oSub64 rfl rfl om) om) rfl <| Ua rfl rfl <| Wn <| loopR_normal ?_
 have hj : k - 1 + 1 = k := by omega
 refine ⟨k - 1, ⟨rfl, rfl, rfl, trivial⟩, trivial, ⟨om, ?_⟩, by show k - 1 < k; omega⟩
 rw [drop_cons_getD (by omega : k - 1 < xs.length), drop_cons_getD (by omega : k - 1 < ys.length), hj, hd]
 congr 1; omega
theorem nsum_run (k1 k2 : Nat) (xs ys : List Nat) (hx : Dg 1073741824 xs) (hy : Dg 1073741824 ys) (lx : xs.length < 1099511627776) (ly : ys.length < 1099511627776) : ∃ r, Run Tryz.prog T E0 (.call 119 [.sl k1 (xs.map d64), .sl k2 (ys.map d64)] r) ∧ ∃ ds, r = .sl (if ds.length = 0 then 0 else 1) (ds.map d64) ∧ Dg 1073741824 ds ∧ val 1073741824 ds = val 1073741824 xs + val 1073741824 ys ∧ ds.length ≤ max xs.length ys.length + 1 := by
 refine mkcallE Tryz.func119 rfl rfl (Nat.le_of_ble_eq_true rfl) <| Rg 1 rfl <| Ua rfl rfl <| Wn <| Rg 1 rfl <| Ua rfl rfl <| Wn <| Rg 1 rfl <| Ua rfl rfl <| Wn <| WC.assoc <| Rg 1 rfl <| Ua rfl rfl <| Wn <| WC.block <| WC.loopV (α := Nat × Nat × (List Nat)) (fun ⟨c, q, ds⟩ => [(0, .sl k1 (xs.map d64)), (1, .sl k2 (ys.map d64)), (5, outV q 1 (ds.map d64)), (6, .v (.int .i64 (c : Int))), (7, .v (.int .i64 (ds.length : Int)))]) (fun ⟨c, q, ds⟩ => outH q 1 3 (ds.map d64) []) (fun ⟨c, q, ds⟩ n => ds.length ≤ max xs.length ys.length + 1 ∧ (ds.length = max xs.length ys.length + 1 → c = 0) ∧ Dg 1073741824 ds ∧ c ≤ 1 ∧ val 1073741824 ds + 1073741824 ^ ds.length * c = val 1073741824 (xs.take ds.length) + val 1073741824 (ys.take ds.length)) (fun ⟨c, q, ds⟩ => max xs.length ys.length + 2 - ds.length) (0, 0, []) ⟨rfl, rfl, rfl, rfl, rfl, trivial⟩ trivial ⟨by simp, by simp, by intro d hd; simp at hd, om, by simp [val]⟩ ?_
 rintro ⟨c, q, ds⟩ n hF
 change WC _ _ _ _ _ (_ :: _) (outH _ _ _ _ _) n _
 obtain ⟨hl1, hl2, hdd, hc, hi⟩ := hF
 refine WC.assoc <| Rg 14 rfl <| Um rfl rfl <| Um rfl rfl <| WO.U (oLenM rfl rfl) rfl <| WO.U (oLss rfl rfl) rfl <| WO.D (fun h11 => ?_) (fun h11 => ?_)
 ·refine Um rfl rfl <| K1 rfl rfl <| K1 rfl rfl <| K1 rfl rfl <| K1 rfl rfl <| WO.U (oPkT rfl rfl) rfl <| Um rfl rfl <| K1 rfl rfl <| K1 rfl rfl <| WO.U (oPkT rfl rfl) rfl <| Nk [0,1,5,6,7,13,14,15,16,19,20,21] rfl <| WC.cT rfl <| WC.skips <| WC.block <| WC.assoc <| Rg 4 rfl <| Um rfl rfl <| Um rfl rfl <| WO.U (oLenM rfl rfl) rfl <| WO.U (oLss rfl rfl) rfl <| WO.D (fun h27 => ?_) (fun h27 => ?_)
  rotate_left
  ·refine Nk [0,1,5,6,7,13,14,15,16,19,20,27] rfl <| WC.cF rfl <| WC.skips <| WC.assoc <| Rg 4 rfl <| Um rfl rfl <| Um rfl rfl <| WO.U (oLenM rfl rfl) rfl <| WO.U (oLss rfl rfl) rfl <| WO.D (fun h37 => ?_) (fun h37 => ?_)
   rotate_left
   ·refine Nk [0,1,5,6,7,13,14,15,16,19,20,37] rfl <| WC.cF rfl <| WC.skips <| Rg 6 rfl <| Um rfl rfl <| Um rfl rfl <| WO.U (oRemN (b := 1073741824) rfl rfl (by decide)) rfl <| WO.U (oBs' (cs := [_]) (rows := [[_]]) rfl rfl (by decide) rfl rfl rfl) rfl <| WO.apM (te := ti3) (f := d64) (q := q) (us := ds) rfl rfl rfl rfl rfl (fun _ => rfl) (by decide) (by show (2 * (ds.length + 1) + 256) * 8 ≤ _; omega) om rfl rfl rfl <| Ua rfl rfl <| Nk [0,1,5,6,7,13,14,15,16,19,20] rfl <| WC.reg1z (z := 3) rfl <| Um rfl rfl <| WO.U (oQuoN (b := 1073741824) rfl rfl (by decide) om) rfl <| Ua rfl rfl <| Wn <| after_normal <| WC.reg1z (z := 3) rfl <| Um rfl rfl <| WO.U (cI (((ds.length + 1 : Nat) : Int)) (oAdd64 rfl rfl om) om) rfl <| Ua rfl rfl <| WO.nil ?_
    refine loopR_normal <| ⟨⟨(c) / 1073741824, _, ds ++ [(c) % 1073741824]⟩, ⟨rfl, rfl, rfl, rfl, congrArg some (by simp), trivial⟩, subsM_out, ⟨by simp; omega, by simp; omega, hdd.snoc (Nat.mod_lt _ (by decide)), om, plus_step' hi (getD_out om).symm (getD_out om).symm om⟩, by simp; omega⟩
   refine Nk [0,1,5,6,7,13,14,15,16,19,20,37] rfl <| WC.cT rfl ?_
   have hyl : ys.getD ds.length default < 1073741824 := getD_lt hy om
   refine Rg 7 rfl <| Um rfl rfl <| Um rfl rfl <| Um rfl rfl <| WO.U (oIxM rfl rfl rfl rfl rfl om rfl) rfl <| WO.U (oLd rfl rfl rfl) rfl <| WO.U (cI (((c + ys.getD ds.length default : Nat) : Int)) (oAdd64 rfl rfl om) om) rfl <| Ua rfl rfl <| Nk [0,1,5,6,7,13,14,15,16,19,20] rfl <| Rg 6 rfl <| Um rfl rfl <| Um rfl rfl <| WO.U (oRemN (b := 1073741824) rfl rfl (by decide)) rfl <| WO.U (oBs' (cs := [_]) (rows := [[_]]) rfl rfl (by decide) rfl rfl rfl) rfl <| WO.apM (te := ti3) (f := d64) (q := q) (us := ds) rfl rfl rfl rfl rfl (fun _ => rfl) (by decide) (by show (2 * (ds.length + 1) + 256) * 8 ≤ _; omega) om rfl rfl rfl <| Ua rfl rfl <| Nk [0,1,5,6,7,13,14,15,16,19,20] rfl <| WC.reg1z (z := 3) rfl <| Um rfl rfl <| WO.U (oQuoN (b := 1073741824) rfl rfl (by decide) om) rfl <| Ua rfl rfl <| WO.nil ?_
   refine after_normal <| WC.reg1z (z := 3) rfl <| Um rfl rfl <| WO.U (cI (((ds.length + 1 : Nat) : Int)) (oAdd64 rfl rfl om) om) rfl <| Ua rfl rfl <| Wn <| loopR_normal <| ⟨⟨(c + ys.getD ds.length default) / 1073741824, _, ds ++ [(c + ys.getD ds.length default) % 1073741824]⟩, ⟨rfl, rfl, rfl, rfl, congrArg some (by simp), trivial⟩, subsM_out, ⟨by simp; omega, by simp; omega, hdd.snoc (Nat.mod_lt _ (by decide)), om, plus_step' hi (getD_out om).symm rfl om⟩, by simp; omega⟩
  refine Nk [0,1,5,6,7,13,14,15,16,19,20,27] rfl <| WC.cT rfl ?_
  have hxl : xs.getD ds.length default < 1073741824 := getD_lt hx om
  refine Rg 7 rfl <| Um rfl rfl <| Um rfl rfl <| Um rfl rfl <| WO.U (oIxM rfl rfl rfl rfl rfl om rfl) rfl <| WO.U (oLd rfl rfl rfl) rfl <| WO.U (cI (((c + xs.getD ds.length default : Nat) : Int)) (oAdd64 rfl rfl om) om) rfl <| Ua rfl rfl <| Nk [0,1,5,6,7,13,14,15,16,19,20] rfl <| WC.assoc <| Rg 4 rfl <| Um rfl rfl <| Um rfl rfl <| WO.U (oLenM rfl rfl) rfl <| WO.U (oLss rfl rfl) rfl <| WO.D (fun h37 => ?_) (fun h37 => ?_)
  rotate_left
  ·refine Nk [0,1,5,6,7,13,14,15,16,19,20,37] rfl <| WC.cF rfl <| WC.skips <| Rg 6 rfl <| Um rfl rfl <| Um rfl rfl <| WO.U (oRemN (b := 1073741824) rfl rfl (by decide)) rfl <| WO.U (oBs' (cs := [_]) (rows := [[_]]) rfl rfl (by decide) rfl rfl rfl) rfl <| WO.apM (te := ti3) (f := d64) (q := q) (us := ds) rfl rfl rfl rfl rfl (fun _ => rfl) (by decide) (by show (2 * (ds.length + 1) + 256) * 8 ≤ _; omega) om rfl rfl rfl <| Ua rfl rfl <| Nk [0,1,5,6,7,13,14,15,16,19,20] rfl <| WC.reg1z (z := 3) rfl <| Um rfl rfl <| WO.U (oQuoN (b := 1073741824) rfl rfl (by decide) om) rfl <| Ua rfl rfl <| Wn <| after_normal <| WC.reg1z (z := 3) rfl <| Um rfl rfl <| WO.U (cI (((ds.length + 1 : Nat) : Int)) (oAdd64 rfl rfl om) om) rfl <| Ua rfl rfl <| WO.nil ?_
   refine loopR_normal <| ⟨⟨(c + xs.getD ds.length default) / 1073741824, _, ds ++ [(c + xs.getD ds.length default) % 1073741824]⟩, ⟨rfl, rfl, rfl, rfl, congrArg some (by simp), trivial⟩, subsM_out, ⟨by simp; omega, by simp; omega, hdd.snoc (Nat.mod_lt _ (by decide)), om, plus_step' hi rfl (getD_out om).symm om⟩, by simp; omega⟩
  refine Nk [0,1,5,6,7,13,14,15,16,19,20,37] rfl <| WC.cT rfl ?_
  have hyl : ys.getD ds.length default < 1073741824 := getD_lt hy om
  refine Rg 7 rfl <| Um rfl rfl <| Um rfl rfl <| Um rfl rfl <| WO.U (oIxM rfl rfl rfl rfl rfl om rfl) rfl <| WO.U (oLd rfl rfl rfl) rfl <| WO.U (cI (((c + xs.getD ds.length default + ys.getD ds.length default : Nat) : Int)) (oAdd64 rfl rfl om) om) rfl <| Ua rfl rfl <| Nk [0,1,5,6,7,13,14,15,16,19,20] rfl <| Rg 6 rfl <| Um rfl rfl <| Um rfl rfl <| WO.U (oRemN (b := 1073741824) rfl rfl (by decide)) rfl <| WO.U (oBs' (cs := [_]) (rows := [[_]]) rfl rfl (by decide) rfl rfl rfl) rfl <| WO.apM (te := ti3) (f := d64) (q := q) (us := ds) rfl rfl rfl rfl rfl (fun _ => rfl) (by decide) (by show (2 * (ds.length + 1) + 256) * 8 ≤ _; omega) om rfl rfl rfl <| Ua rfl rfl <| Nk [0,1,5,6,7,13,14,15,16,19,20] rfl <| WC.reg1z (z := 3) rfl <| Um rfl rfl <| WO.U (oQuoN (b := 1073741824) rfl rfl (by decide) om) rfl <| Ua rfl rfl <| WO.nil ?_
  refine after_normal <| WC.reg1z (z := 3) rfl <| Um rfl rfl <| WO.U (cI (((ds.length + 1 : Nat) : Int)) (oAdd64 rfl rfl om) om) rfl <| Ua rfl rfl <| Wn <| loopR_normal <| ⟨⟨(c + xs.getD ds.length default + ys.getD ds.length default) / 1073741824, _, ds ++ [(c + xs.getD ds.length default + ys.getD ds.length default) % 1073741824]⟩, ⟨rfl, rfl, rfl, rfl, congrArg some (by simp), trivial⟩, subsM_out, ⟨by simp; omega, by simp; omega, hdd.snoc (Nat.mod_lt _ (by decide)), om, plus_step' hi rfl rfl om⟩, by simp; omega⟩
 refine Um rfl rfl <| WO.Ug rfl (oMv rfl) rfl <| WO.Ug rfl (oMv rfl) rfl <| WO.Ug rfl (oLenM rfl rfl) rfl <| WO.Ug rfl (oLss rfl rfl) rfl <| WO.D (fun h16 => ?_) (fun h16 => ?_)
 ·refine WO.U (oPkF rfl rfl) rfl <| Um rfl rfl <| K1 rfl rfl <| K1 rfl rfl <| WO.U (oPkT rfl rfl) rfl <| Nk [0,1,5,6,7,13,14,15,16,19,20,21] rfl <| WC.cT rfl <| WC.skips <| WC.block <| WC.assoc <| Rg 4 rfl <| Um rfl rfl <| Um rfl rfl <| WO.U (oLenM rfl rfl) rfl <| WO.U (oLss rfl rfl) rfl <| WO.D (fun h27 => ?_) (fun h27 => ?_)
  rotate_left
  ·refine Nk [0,1,5,6,7,13,14,15,16,19,20,27] rfl <| WC.cF rfl <| WC.skips <| WC.assoc <| Rg 4 rfl <| Um rfl rfl <| Um rfl rfl <| WO.U (oLenM rfl rfl) rfl <| WO.U (oLss rfl rfl) rfl <| WO.D (fun h37 => ?_) (fun h37 => ?_)
   rotate_left
   ·refine Nk [0,1,5,6,7,13,14,15,16,19,20,37] rfl <| WC.cF rfl <| WC.skips <| Rg 6 rfl <| Um rfl rfl <| Um rfl rfl <| WO.U (oRemN (b := 1073741824) rfl rfl (by decide)) rfl <| WO.U (oBs' (cs := [_]) (rows := [[_]]) rfl rfl (by decide) rfl rfl rfl) rfl <| WO.apM (te := ti3) (f := d64) (q := q) (us := ds) rfl rfl rfl rfl rfl (fun _ => rfl) (by decide) (by show (2 * (ds.length + 1) + 256) * 8 ≤ _; omega) om rfl rfl rfl <| Ua rfl rfl <| Nk [0,1,5,6,7,13,14,15,16,19,20] rfl <| WC.reg1z (z := 3) rfl <| Um rfl rfl <| WO.U (oQuoN (b := 1073741824) rfl rfl (by decide) om) rfl <| Ua rfl rfl <| Wn <| after_normal <| WC.reg1z (z := 3) rfl <| Um rfl rfl <| WO.U (cI (((ds.length + 1 : Nat) : Int)) (oAdd64 rfl rfl om) om) rfl <| Ua rfl rfl <| WO.nil ?_
    refine loopR_normal <| ⟨⟨(c) / 1073741824, _, ds ++ [(c) % 1073741824]⟩, ⟨rfl, rfl, rfl, rfl, congrArg some (by simp), trivial⟩, subsM_out, ⟨by simp; omega, by simp; omega, hdd.snoc (Nat.mod_lt _ (by decide)), om, plus_step' hi (getD_out om).symm (getD_out om).symm om⟩, by simp; omega⟩
   refine Nk [0,1,5,6,7,13,14,15,16,19,20,37] rfl <| WC.cT rfl ?_
   have hyl : ys.getD ds.length default < 1073741824 := getD_lt hy om
   refine Rg 7 rfl <| Um rfl rfl <| Um rfl rfl <| Um rfl rfl <| WO.U (oIxM rfl rfl rfl rfl rfl om rfl) rfl <| WO.U (oLd rfl rfl rfl) rfl <| WO.U (cI (((c + ys.getD ds.length default : Nat) : Int)) (oAdd64 rfl rfl om) om) rfl <| Ua rfl rfl <| Nk [0,1,5,6,7,13,14,15,16,19,20] rfl <| Rg 6 rfl <| Um rfl rfl <| Um rfl rfl <| WO.U (oRemN (b := 1073741824) rfl rfl (by decide)) rfl <| WO.U (oBs' (cs := [_]) (rows := [[_]]) rfl rfl (by decide) rfl rfl rfl) rfl <| WO.apM (te := ti3) (f := d64) (q := q) (us := ds) rfl rfl rfl rfl rfl (fun _ => rfl) (by decide) (by show (2 * (ds.length + 1) + 256) * 8 ≤ _; omega) om rfl rfl rfl <| Ua rfl rfl <| Nk [0,1,5,6,7,13,14,15,16,19,20] rfl <| WC.reg1z (z := 3) rfl <| Um rfl rfl <| WO.U (oQuoN (b := 1073741824) rfl rfl (by decide) om) rfl <| Ua rfl rfl <| WO.nil ?_
   refine after_normal <| WC.reg1z (z := 3) rfl <| Um rfl rfl <| WO.U (cI (((ds.length + 1 : Nat) : Int)) (oAdd64 rfl rfl om) om) rfl <| Ua rfl rfl <| Wn <| loopR_normal <| ⟨⟨(c + ys.getD ds.length default) / 1073741824, _, ds ++ [(c + ys.getD ds.length default) % 1073741824]⟩, ⟨rfl, rfl, rfl, rfl, congrArg some (by simp), trivial⟩, subsM_out, ⟨by simp; omega, by simp; omega, hdd.snoc (Nat.mod_lt _ (by decide)), om, plus_step' hi (getD_out om).symm rfl om⟩, by simp; omega⟩
  refine Nk [0,1,5,6,7,13,14,15,16,19,20,27] rfl <| WC.cT rfl ?_
  have hxl : xs.getD ds.length default < 1073741824 := getD_lt hx om
  refine Rg 7 rfl <| Um rfl rfl <| Um rfl rfl <| Um rfl rfl <| WO.U (oIxM rfl rfl rfl rfl rfl om rfl) rfl <| WO.U (oLd rfl rfl rfl) rfl <| WO.U (cI (((c + xs.getD ds.length default : Nat) : Int)) (oAdd64 rfl rfl om) om) rfl <| Ua rfl rfl <| Nk [0,1,5,6,7,13,14,15,16,19,20] rfl <| WC.assoc <| Rg 4 rfl <| Um rfl rfl <| Um rfl rfl <| WO.U (oLenM rfl rfl) rfl <| WO.U (oLss rfl rfl) rfl <| WO.D (fun h37 => ?_) (fun h37 => ?_)
  rotate_left
  ·refine Nk [0,1,5,6,7,13,14,15,16,19,20,37] rfl <| WC.cF rfl <| WC.skips <| Rg 6 rfl <| Um rfl rfl <| Um rfl rfl <| WO.U (oRemN (b := 1073741824) rfl rfl (by decide)) rfl <| WO.U (oBs' (cs := [_]) (rows := [[_]]) rfl rfl (by decide) rfl rfl rfl) rfl <| WO.apM (te := ti3) (f := d64) (q := q) (us := ds) rfl rfl rfl rfl rfl (fun _ => rfl) (by decide) (by show (2 * (ds.length + 1) + 256) * 8 ≤ _; omega) om rfl rfl rfl <| Ua rfl rfl <| Nk [0,1,5,6,7,13,14,15,16,19,20] rfl <| WC.reg1z (z := 3) rfl <| Um rfl rfl <| WO.U (oQuoN (b := 1073741824) rfl rfl (by decide) om) rfl <| Ua rfl rfl <| Wn <| after_normal <| WC.reg1z (z := 3) rfl <| Um rfl rfl <| WO.U (cI (((ds.length + 1 : Nat) : Int)) (oAdd64 rfl rfl om) om) rfl <| Ua rfl rfl <| WO.nil ?_
   refine loopR_normal <| ⟨⟨(c + xs.getD ds.length default) / 1073741824, _, ds ++ [(c + xs.getD ds.length default) % 1073741824]⟩, ⟨rfl, rfl, rfl, rfl, congrArg some (by simp), trivial⟩, subsM_out, ⟨by simp; omega, by simp; omega, hdd.snoc (Nat.mod_lt _ (by decide)), om, plus_step' hi rfl (getD_out om).symm om⟩, by simp; omega⟩
  refine Nk [0,1,5,6,7,13,14,15,16,19,20,37] rfl <| WC.cT rfl ?_
  have hyl : ys.getD ds.length default < 1073741824 := getD_lt hy om
  refine Rg 7 rfl <| Um rfl rfl <| Um rfl rfl <| Um rfl rfl <| WO.U (oIxM rfl rfl rfl rfl rfl om rfl) rfl <| WO.U (oLd rfl rfl rfl) rfl <| WO.U (cI (((c + xs.getD ds.length default + ys.getD ds.length default : Nat) : Int)) (oAdd64 rfl rfl om) om) rfl <| Ua rfl rfl <| Nk [0,1,5,6,7,13,14,15,16,19,20] rfl <| Rg 6 rfl <| Um rfl rfl <| Um rfl rfl <| WO.U (oRemN (b := 1073741824) rfl rfl (by decide)) rfl <| WO.U (oBs' (cs := [_]) (rows := [[_]]) rfl rfl (by decide) rfl rfl rfl) rfl <| WO.apM (te := ti3) (f := d64) (q := q) (us := ds) rfl rfl rfl rfl rfl (fun _ => rfl) (by decide) (by show (2 * (ds.length + 1) + 256) * 8 ≤ _; omega) om rfl rfl rfl <| Ua rfl rfl <| Nk [0,1,5,6,7,13,14,15,16,19,20] rfl <| WC.reg1z (z := 3) rfl <| Um rfl rfl <| WO.U (oQuoN (b := 1073741824) rfl rfl (by decide) om) rfl <| Ua rfl rfl <| WO.nil ?_
  refine after_normal <| WC.reg1z (z := 3) rfl <| Um rfl rfl <| WO.U (cI (((ds.length + 1 : Nat) : Int)) (oAdd64 rfl rfl om) om) rfl <| Ua rfl rfl <| Wn <| loopR_normal <| ⟨⟨(c + xs.getD ds.length default + ys.getD ds.length default) / 1073741824, _, ds ++ [(c + xs.getD ds.length default + ys.getD ds.length default) % 1073741824]⟩, ⟨rfl, rfl, rfl, rfl, congrArg some (by simp), trivial⟩, subsM_out, ⟨by simp; omega, by simp; omega, hdd.snoc (Nat.mod_lt _ (by decide)), om, plus_step' hi rfl rfl om⟩, by simp; omega⟩
 refine WO.U (oPkF rfl rfl) rfl <| Um rfl rfl <| WO.Ug rfl (oMv rfl) rfl <| WO.Ug rfl (oGtr rfl rfl) rfl <| WO.D (fun h20 => ?_) (fun h20 => ?_)
 rotate_left
 ·refine WO.U (oPkF rfl rfl) rfl <| Nk [0,1,5,6,7,13,14,15,16,19,20,21] rfl <| WC.cF rfl <| WC.exits <| loopR_exit <| after_exit rfl <| Rg 2 rfl <| Um rfl rfl <| Ua rfl rfl <| Wn <| WC.ret <| ⟨outR (ds.map d64), ⟨ds, outR_map _ _, hdd, ?_, hl1⟩, postOut (n := 0) (.inr rfl) rfl (by decide) rows_d64 data_rows_d64⟩
  have hc0 : c = 0 := by omega
  rw [hc0, Nat.mul_zero, Nat.add_zero, List.take_of_length_le om, List.take_of_length_le om] at hi
  exact hi
 refine WO.U (oPkF rfl rfl) rfl <| Nk [0,1,5,6,7,13,14,15,16,19,20,21] rfl <| WC.cT rfl <| WC.skips <| WC.block <| WC.assoc <| Rg 4 rfl <| Um rfl rfl <| Um rfl rfl <| WO.U (oLenM rfl rfl) rfl <| WO.U (oLss rfl rfl) rfl <| WO.D (fun h27 => ?_) (fun h27 => ?_)
 rotate_left
 ·refine Nk [0,1,5,6,7,13,14,15,16,19,20,27] rfl <| WC.cF rfl <| WC.skips <| WC.assoc <| Rg 4 rfl <| Um rfl rfl <| Um rfl rfl <| WO.U (oLenM rfl rfl) rfl <| WO.U (oLss rfl rfl) rfl <| WO.D (fun h37 => ?_) (fun h37 => ?_)
  rotate_left
  ·refine Nk [0,1,5,6,7,13,14,15,16,19,20,37] rfl <| WC.cF rfl <| WC.skips <| Rg 6 rfl <| Um rfl rfl <| Um rfl rfl <| WO.U (oRemN (b := 1073741824) rfl rfl (by decide)) rfl <| WO.U (oBs' (cs := [_]) (rows := [[_]]) rfl rfl (by decide) rfl rfl rfl) rfl <| WO.apM (te := ti3) (f := d64) (q := q) (us := ds) rfl rfl rfl rfl rfl (fun _ => rfl) (by decide) (by show (2 * (ds.length + 1) + 256) * 8 ≤ _; omega) om rfl rfl rfl <| Ua rfl rfl <| Nk [0,1,5,6,7,13,14,15,16,19,20] rfl <| WC.reg1z (z := 3) rfl <| Um rfl rfl <| WO.U (oQuoN (b := 1073741824) rfl rfl (by decide) om) rfl <| Ua rfl rfl <| Wn <| after_normal <| WC.reg1z (z := 3) rfl <| Um rfl rfl <| WO.U (cI (((ds.length + 1 : Nat) : Int)) (oAdd64 rfl rfl om) om) rfl <| Ua rfl rfl <| WO.nil ?_
   refine loopR_normal <| ⟨⟨(c) / 1073741824, _, ds ++ [(c) % 1073741824]⟩, ⟨rfl, rfl, rfl, rfl, congrArg some (by simp), trivial⟩, subsM_out, ⟨by simp; omega, by simp; omega, hdd.snoc (Nat.mod_lt _ (by decide)), om, plus_step' hi (getD_out om).symm (getD_out om).symm om⟩, by simp; omega⟩
  refine Nk [0,1,5,6,7,13,14,15,16,19,20,37] rfl <| WC.cT rfl ?_
  have hyl : ys.getD ds.length default < 1073741824 := getD_lt hy om
  refine Rg 7 rfl <| Um rfl rfl <| Um rfl rfl <| Um rfl rfl <| WO.U (oIxM rfl rfl rfl rfl rfl om rfl) rfl <| WO.U (oLd rfl rfl rfl) rfl <| WO.U (cI (((c + ys.getD ds.length default : Nat) : Int)) (oAdd64 rfl rfl om) om) rfl <| Ua rfl rfl <| Nk [0,1,5,6,7,13,14,15,16,19,20] rfl <| Rg 6 rfl <| Um rfl rfl <| Um rfl rfl <| WO.U (oRemN (b := 1073741824) rfl rfl (by decide)) rfl <| WO.U (oBs' (cs := [_]) (rows := [[_]]) rfl rfl (by decide) rfl rfl rfl) rfl <| WO.apM (te := ti3) (f := d64) (q := q) (us := ds) rfl rfl rfl rfl rfl (fun _ => rfl) (by decide) (by show (2 * (ds.length + 1) + 256) * 8 ≤ _; omega) om rfl rfl rfl <| Ua rfl rfl <| Nk [0,1,5,6,7,13,14,15,16,19,20] rfl <| WC.reg1z (z := 3) rfl <| Um rfl rfl <| WO.U (oQuoN (b := 1073741824) rfl rfl (by decide) om) rfl <| Ua rfl rfl <| WO.nil ?_
  refine after_normal <| WC.reg1z (z := 3) rfl <| Um rfl rfl <| WO.U (cI (((ds.length + 1 : Nat) : Int)) (oAdd64 rfl rfl om) om) rfl <| Ua rfl rfl <| Wn <| loopR_normal <| ⟨⟨(c + ys.getD ds.length default) / 1073741824, _, ds ++ [(c + ys.getD ds.length default) % 1073741824]⟩, ⟨rfl, rfl, rfl, rfl, congrArg some (by simp), trivial⟩, subsM_out, ⟨by simp; omega, by simp; omega, hdd.snoc (Nat.mod_lt _ (by decide)), om, plus_step' hi (getD_out om).symm rfl om⟩, by simp; omega⟩
 refine Nk [0,1,5,6,7,13,14,15,16,19,20,27] rfl <| WC.cT rfl ?_
 have hxl : xs.getD ds.length default < 1073741824 := getD_lt hx om
 refine Rg 7 rfl <| Um rfl rfl <| Um rfl rfl <| Um rfl rfl <| WO.U (oIxM rfl rfl rfl rfl rfl om rfl) rfl <| WO.U (oLd rfl rfl rfl) rfl <| WO.U (cI (((c + xs.getD ds.length default : Nat) : Int)) (oAdd64 rfl rfl om) om) rfl <| Ua rfl rfl <| Nk [0,1,5,6,7,13,14,15,16,19,20] rfl <| WC.assoc <| Rg 4 rfl <| Um rfl rfl <| Um rfl rfl <| WO.U (oLenM rfl rfl) rfl <| WO.U (oLss rfl rfl) rfl <| WO.D (fun h37 => ?_) (fun h37 => ?_)
 rotate_left
 ·refine Nk [0,1,5,6,7,13,14,15,16,19,20,37] rfl <| WC.cF rfl <| WC.skips <| Rg 6 rfl <| Um rfl rfl <| Um rfl rfl <| WO.U (oRemN (b := 1073741824) rfl rfl (by decide)) rfl <| WO.U (oBs' (cs := [_]) (rows := [[_]]) rfl rfl (by decide) rfl rfl rfl) rfl <| WO.apM (te := ti3) (f := d64) (q := q) (us := ds) rfl rfl rfl rfl rfl (fun _ => rfl) (by decide) (by show (2 * (ds.length + 1) + 256) * 8 ≤ _; omega) om rfl rfl rfl <| Ua rfl rfl <| Nk [0,1,5,6,7,13,14,15,16,19,20] rfl <| WC.reg1z (z := 3) rfl <| Um rfl rfl <| WO.U (oQuoN (b := 1073741824) rfl rfl (by decide) om) rfl <| Ua rfl rfl <| Wn <| after_normal <| WC.reg1z (z := 3) rfl <| Um rfl rfl <| WO.U (cI (((ds.length + 1 : Nat) : Int)) (oAdd64 rfl rfl om) om) rfl <| Ua rfl rfl <| WO.nil ?_
  refine loopR_normal <| ⟨⟨(c + xs.getD ds.length default) / 1073741824, _, ds ++ [(c + xs.getD ds.length default) % 1073741824]⟩, ⟨rfl, rfl, rfl, rfl, congrArg some (by simp), trivial⟩, subsM_out, ⟨by simp; omega, by simp; omega, hdd.snoc (Nat.mod_lt _ (by decide)), om, plus_step' hi rfl (getD_out om).symm om⟩, by simp; omega⟩
 refine Nk [0,1,5,6,7,13,14,15,16,19,20,37] rfl <| WC.cT rfl ?_
 have hyl : ys.getD ds.length default < 1073741824 := getD_lt hy om
 refine Rg 7 rfl <| Um rfl rfl <| Um rfl rfl <| Um rfl rfl <| WO.U (oIxM rfl rfl rfl rfl rfl om rfl) rfl <| WO.U (oLd rfl rfl rfl) rfl <| WO.U (cI (((c + xs.getD ds.length default + ys.getD ds.length default : Nat) : Int)) (oAdd64 rfl rfl om) om) rfl <| Ua rfl rfl <| Nk [0,1,5,6,7,13,14,15,16,19,20] rfl <| Rg 6 rfl <| Um rfl rfl <| Um rfl rfl <| WO.U (oRemN (b := 1073741824) rfl rfl (by decide)) rfl <| WO.U (oBs' (cs := [_]) (rows := [[_]]) rfl rfl (by decide) rfl rfl rfl) rfl <| WO.apM (te := ti3) (f := d64) (q := q) (us := ds) rfl rfl rfl rfl rfl (fun _ => rfl) (by decide) (by show (2 * (ds.length + 1) + 256) * 8 ≤ _; omega) om rfl rfl rfl <| Ua rfl rfl <| Nk [0,1,5,6,7,13,14,15,16,19,20] rfl <| WC.reg1z (z := 3) rfl <| Um rfl rfl <| WO.U (oQuoN (b := 1073741824) rfl rfl (by decide) om) rfl <| Ua rfl rfl <| WO.nil ?_
 refine after_normal <| WC.reg1z (z := 3) rfl <| Um rfl rfl <| WO.U (cI (((ds.length + 1 : Nat) : Int)) (oAdd64 rfl rfl om) om) rfl <| Ua rfl rfl <| Wn <| loopR_normal <| ⟨⟨(c + xs.getD ds.length default + ys.getD ds.length default) / 1073741824, _, ds ++ [(c + xs.getD ds.length default + ys.getD ds.length default) % 1073741824]⟩, ⟨rfl, rfl, rfl, rfl, congrArg some (by simp), trivial⟩, subsM_out, ⟨by simp; omega, by simp; omega, hdd.snoc (Nat.mod_lt _ (by decide)), om, plus_step' hi rfl rfl om⟩, by simp; omega⟩
theorem ndiff_run (k1 k2 : Nat) (xs ys : List Nat) (hx : Dg 1073741824 xs) (hy : Dg 1073741824 ys) (lx : xs.length < 1099511627776) (hle : ys.length ≤ xs.length) (hv : val 1073741824 ys ≤ val 1073741824 xs) : ∃ r, Run Tryz.prog T E0 (.call 121 [.sl k1 (xs.map d64), .sl k2 (ys.map d64)] r) ∧ ∃ ds, r = .sl (if ds.length = 0 then 0 else 1) (ds.map d64) ∧ Dg 1073741824 ds ∧ val 1073741824 ds = val 1073741824 xs - val 1073741824 ys ∧ ds.length = xs.length := by
 refine mkcallE Tryz.func121 rfl rfl (Nat.le_of_ble_eq_true rfl) <| Rg 1 rfl <| Ua rfl rfl <| Wn <| Rg 1 rfl <| Ua rfl rfl <| Wn <| Rg 1 rfl <| Ua rfl rfl <| Wn <| WC.assoc <| Rg 3 rfl <| Um rfl rfl <| WO.U (oLenM rfl rfl) rfl <| Um rfl rfl <| Wn <| WC.block <| WC.loopV (α := Nat × Nat × (List Nat)) (fun ⟨c, q, ds⟩ => [(0, .sl k1 (xs.map d64)), (1, .sl k2 (ys.map d64)), (5, outV q 1 (ds.map d64)), (6, .v (.int .i64 (-(c : Int)))), (9, .v (.int .i64 (xs.length : Int))), (10, .v (.int .i64 (ds.length : Int)))]) (fun ⟨c, q, ds⟩ => outH q 1 3 (ds.map d64) []) (fun ⟨c, q, ds⟩ n => ds.length ≤ xs.length ∧ Dg 1073741824 ds ∧ c ≤ 1 ∧ val 1073741824 (xs.take ds.length) + 1073741824 ^ ds.length * c = val 1073741824 ds + val 1073741824 (ys.take ds.length)) (fun ⟨c, q, ds⟩ => xs.length - ds.length) (0, 0, []) ⟨rfl, rfl, rfl, rfl, rfl, rfl, trivial⟩ trivial ⟨Nat.zero_le _, by intro d hd; simp at hd, om, by simp [val]⟩ ?_
 rintro ⟨c, q, ds⟩ n hF
 change WC _ _ _ _ _ (_ :: _) (outH _ _ _ _ _) n _
 obtain ⟨hdl, hdd, hc, hi⟩ := hF
 refine Rg 1 rfl <| WO.U (oLss rfl rfl) rfl <| WO.D (fun h11 => ?_) (fun h11 => ?_)
 rotate_left
 ·refine Wn <| WC.cF rfl <| WC.exits <| loopR_exit <| after_exit rfl <| Rg 2 rfl <| Um rfl rfl <| Ua rfl rfl <| Wn <| WC.ret <| ⟨outR (ds.map d64), ⟨ds, outR_map _ _, hdd, ?_, om⟩, postOut (n := 0) (.inr rfl) rfl (by decide) rows_d64 data_rows_d64⟩
  have hl : ds.length = xs.length := by omega
  rw [List.take_of_length_le om, List.take_of_length_le om] at hi
  have hlt := val_lt (B := 1073741824) (by decide) hdd
  rcases (show c = 0 ∨ c = 1 by omega) with rfl | rfl
  ·omega
  ·omega
 refine Wn <| WC.cT rfl <| WC.skips <| WC.block <| Rg 2 rfl <| Um rfl rfl <| Ua rfl rfl <| WO.nil ?_
 have hxl : xs.getD ds.length default < 1073741824 := getD_lt hx om
 refine Rg 7 rfl <| Um rfl rfl <| Um rfl rfl <| Um rfl rfl <| WO.U (oIxM rfl rfl rfl rfl rfl om rfl) rfl <| WO.U (oLd rfl rfl rfl) rfl <| WO.U (cI (((xs.getD ds.length default : Nat) : Int) - c) (oAdd64 rfl rfl om) om) rfl <| Ua rfl rfl <| Nk [0,1,5,6,7,9,10] rfl <| WC.assoc <| Rg 4 rfl <| Um rfl rfl <| Um rfl rfl <| WO.U (oLenM rfl rfl) rfl <| WO.U (oLss rfl rfl) rfl <| WO.D (fun h22 => ?_) (fun h22 => ?_)
 rotate_left
 ·refine Wn <| WC.cF rfl <| WC.skips <| Rg 2 rfl <| Um rfl rfl <| WO.U (oLss rfl rfl) rfl <| WO.D (fun h30 => ?_) (fun h30 => ?_)
  rotate_left
  ·refine Wn <| WC.cF1 rfl <| Rg 5 rfl <| Um rfl rfl <| WO.U (cI (((xs.getD ds.length default - 0 - c : Nat) : Int)) (oMv rfl) om) rfl <| WO.U (oBs' (cs := [_]) (rows := [[_]]) rfl rfl (by decide) rfl rfl rfl) rfl <| WO.apM (te := ti3) (f := d64) (q := q) (us := ds) rfl rfl rfl rfl rfl (fun _ => rfl) (by decide) (by show (2 * (ds.length + 1) + 256) * 8 ≤ _; omega) om rfl rfl rfl <| Ua rfl rfl <| Nk [0,1,5,9,10] rfl <| WC.reg1z (z := 1) rfl <| Ua rfl rfl <| Wn <| after_normal <| WC.reg1z (z := 2) rfl <| WO.U (cI (((ds.length + 1 : Nat) : Int)) (oAdd64 rfl rfl om) om) rfl <| Um rfl rfl <| Wn <| loopR_normal <| ⟨⟨0, _, ds ++ [(xs.getD ds.length default - 0 - c)]⟩, ⟨rfl, rfl, rfl, rfl, rfl, congrArg some (by simp), trivial⟩, subsM_out, ⟨by simp; omega, hdd.snoc om, om, minus_step0 hi rfl (getD_out om).symm om om⟩, by simp; omega⟩
  refine Wn <| WC.cT1 rfl <| Rg 6 rfl <| Um rfl rfl <| Um rfl rfl <| WO.U (cI (((xs.getD ds.length default + 1073741824 - 0 - c : Nat) : Int)) (oAdd64 rfl rfl om) om) rfl <| WO.U (oBs' (cs := [_]) (rows := [[_]]) rfl rfl (by decide) rfl rfl rfl) rfl <| WO.apM (te := ti3) (f := d64) (q := q) (us := ds) rfl rfl rfl rfl rfl (fun _ => rfl) (by decide) (by show (2 * (ds.length + 1) + 256) * 8 ≤ _; omega) om rfl rfl rfl <| Ua rfl rfl <| Nk [0,1,5,9,10] rfl <| WC.reg1z (z := 1) rfl <| Ua rfl rfl <| Wn <| after_normal <| WC.reg1z (z := 2) rfl <| WO.U (cI (((ds.length + 1 : Nat) : Int)) (oAdd64 rfl rfl om) om) rfl <| Um rfl rfl <| Wn <| loopR_normal <| ⟨⟨1, _, ds ++ [(xs.getD ds.length default + 1073741824 - 0 - c)]⟩, ⟨rfl, rfl, rfl, rfl, rfl, congrArg some (by simp), trivial⟩, subsM_out, ⟨by simp; omega, hdd.snoc om, om, minus_step1 hi rfl (getD_out om).symm om om⟩, by simp; omega⟩
 refine Wn <| WC.cT rfl ?_
 have hyl : ys.getD ds.length default < 1073741824 := getD_lt hy om
 refine Rg 7 rfl <| Um rfl rfl <| Um rfl rfl <| Um rfl rfl <| WO.U (oIxM rfl rfl rfl rfl rfl om rfl) rfl <| WO.U (oLd rfl rfl rfl) rfl <| WO.U (cI (((xs.getD ds.length default : Nat) : Int) - c - ((ys.getD ds.length default : Nat) : Int)) (oSub64 rfl rfl om) om) rfl <| Ua rfl rfl <| Nk [0,1,5,6,9,10] rfl <| Rg 2 rfl <| Um rfl rfl <| WO.U (oLss rfl rfl) rfl <| WO.D (fun h30 => ?_) (fun h30 => ?_)
 rotate_left
 ·refine Wn <| WC.cF1 rfl <| Rg 5 rfl <| Um rfl rfl <| WO.U (cI (((xs.getD ds.length default - ys.getD ds.length default - c : Nat) : Int)) (oMv rfl) om) rfl <| WO.U (oBs' (cs := [_]) (rows := [[_]]) rfl rfl (by decide) rfl rfl rfl) rfl <| WO.apM (te := ti3) (f := d64) (q := q) (us := ds) rfl rfl rfl rfl rfl (fun _ => rfl) (by decide) (by show (2 * (ds.length + 1) + 256) * 8 ≤ _; omega) om rfl rfl rfl <| Ua rfl rfl <| Wn <| WC.reg1z (z := 1) rfl <| Ua rfl rfl <| Wn <| after_normal <| WC.reg1z (z := 2) rfl <| WO.U (cI (((ds.length + 1 : Nat) : Int)) (oAdd64 rfl rfl om) om) rfl <| Um rfl rfl <| Wn <| loopR_normal <| ⟨⟨0, _, ds ++ [(xs.getD ds.length default - ys.getD ds.length default - c)]⟩, ⟨rfl, rfl, rfl, rfl, rfl, congrArg some (by simp), trivial⟩, subsM_out, ⟨by simp; omega, hdd.snoc om, om, minus_step0 hi rfl rfl om om⟩, by simp; omega⟩
 refine Wn <| WC.cT1 rfl <| Rg 6 rfl <| Um rfl rfl <| Um rfl rfl <| WO.U (cI (((xs.getD ds.length default + 1073741824 - ys.getD ds.length default - c : Nat) : Int)) (oAdd64 rfl rfl om) om) rfl <| WO.U (oBs' (cs := [_]) (rows := [[_]]) rfl rfl (by decide) rfl rfl rfl) rfl <| WO.apM (te := ti3) (f := d64) (q := q) (us := ds) rfl rfl rfl rfl rfl (fun _ => rfl) (by decide) (by show (2 * (ds.length + 1) + 256) * 8 ≤ _; omega) om rfl rfl rfl <| Ua rfl rfl <| Wn <| WC.reg1z (z := 1) rfl <| Ua rfl rfl <| Wn <| after_normal <| WC.reg1z (z := 2) rfl <| WO.U (cI (((ds.length + 1 : Nat) : Int)) (oAdd64 rfl rfl om) om) rfl <| Um rfl rfl <| Wn <| loopR_normal <| ⟨⟨1, _, ds ++ [(xs.getD ds.length default + 1073741824 - ys.getD ds.length default - c)]⟩, ⟨rfl, rfl, rfl, rfl, rfl, congrArg some (by simp), trivial⟩, subsM_out, ⟨by simp; omega, hdd.snoc om, om, minus_step1 hi rfl rfl om om⟩, by simp; omega⟩
end Go.Proofs.YthpnlndhebcngaaGreat
set_option linter.unusedVariables false
set_option linter.unusedSimpArgs false
set_option maxRecDepth 100000
set_option maxHeartbeats 4000000
namespace Go.Proofs.YthpnlndhebcngaaGreat
open Go.Ab Go.RowKit
theorem nshorter_run (k0 : Nat) (xs : List Nat) (y : Nat) (hx : Dg 1073741824 xs) (hy : 0 < y) (hy2 : y < 1073741824) (lx : xs.length < 1099511627776) : ∃ r, Run Tryz.prog T E0 (.call 141 [.sl k0 (xs.map d64), .v (.int .i64 (y : Int))] r) ∧ ∃ ds rest, r = .tup [.sl 1 (ds.map d64), .v (.int .i64 ((rest : Nat) : Int))] ∧ Dg 1073741824 ds ∧ rest < y ∧ val 1073741824 ds * y + rest = val 1073741824 xs ∧ ds.length = xs.length := by
 refine mkcallE Tryz.func141 rfl rfl (Nat.le_of_ble_eq_true rfl) <| Rg 2 rfl <| Ua rfl rfl <| Ua rfl rfl <| Wn <| Rg 4 rfl <| Um rfl rfl <| WO.U (oLenM rfl rfl) rfl <| WO.S (oMk (a := xs.length) (b := xs.length) rfl rfl rfl rfl om om (by decide) om (by show 8 * xs.length ≤ _; omega) om) rfl <| Ua rfl rfl <| Wn <| WC.assoc <| Rg 4 rfl <| Um rfl rfl <| WO.U (oLenM rfl rfl) rfl <| WO.U (oSub64 rfl rfl om) rfl <| Ua rfl rfl <| Wn <| WC.block <| WC.loopV (α := Nat × Nat × (List Nat)) (fun ⟨k, rest, us⟩ => [(0, .sl k0 (xs.map d64)), (1, .v (.int .i64 (y : Int))), (4, .ref (0 + 2 + 2) 1 0 us.length), (5, .v (.int .i64 (rest : Int))), (6, .v (.int .i64 ((k : Int) - 1)))]) (fun ⟨k, rest, us⟩ => [(0 + 2 + 2, { cells := (us.map d64).flatten, sz := 1, elem := 3, st := 0 })]) (fun ⟨k, rest, us⟩ n => k ≤ xs.length ∧ us.length = xs.length ∧ Dg 1073741824 us ∧ rest < y ∧ val 1073741824 (us.drop k) * y + rest = val 1073741824 (xs.drop k)) (fun ⟨k, rest, us⟩ => k) (xs.length, 0, List.replicate xs.length 0) ⟨rfl, rfl, congrArg some (by rw [List.length_replicate]; rfl), rfl, rfl, trivial⟩ ⟨g0.trans (by rw [List.map_replicate]; rfl), trivial⟩ ⟨Nat.le_refl _, by simp, by intro d hd; simp at hd; rw [hd.2]; decide, hy, by simp [val]⟩ ?_
 rintro ⟨k, rest, us⟩ n hF
 change WC _ _ _ _ _ (_ :: _) (_ :: _) n _
 obtain ⟨hk, hul, hud, hrest, huv⟩ := hF
 refine WC.assoc <| Rg 2 rfl <| Um rfl rfl <| WO.U (oGeq rfl rfl) rfl <| WO.D (fun h14 => ?_) (fun h14 => ?_)
 rotate_left
 ·refine Wn <| WC.cF rfl <| WC.exits <| loopR_exit <| after_exit rfl <| Rg 4 rfl <| Um rfl rfl <| Um rfl rfl <| Ua rfl rfl <| Ua rfl rfl <| Wn <| WC.ret <| ⟨.tup [.sl 1 (us.map d64), .v (.int .i64 (rest : Int))], ⟨us, rest, rfl, hud, hrest, ?_, hul⟩, postA (n := 0) [(0 + 2 + 2, { cells := (us.map d64).flatten, sz := 1, elem := 3, st := 1 })] (.inr rfl) rfl (.own _ (by simp) rfl (by show (0 : Nat) ≠ 2; decide) rfl (by decide) (by simp [keys]) rfl rows_d64 data_rows_d64 (.data (by simp) .nil)) (by intro p hp; simp at hp; subst hp; exact ⟨_, rfl, by show (0 : Nat) ≠ 2; decide, rfl⟩)⟩
  have h0 : k = 0 := by omega
  subst h0
  simpa using huv
 refine Wn <| WC.cT rfl <| WC.skips <| WC.block ?_
 have hxl : xs.getD (k - 1) default < 1073741824 := getD_lt hx om
 have hq : (rest * 1073741824 + xs.getD (k - 1) default) / y < 1073741824 := by
  rw [Nat.div_lt_iff_lt_mul hy]; have := Nat.mul_le_mul_left 1073741824 (show rest + 1 ≤ y from hrest); omega
 refine Rg 8 rfl <| Um rfl rfl <| WO.U (cI (((rest * 1073741824 : Nat) : Int)) (oMul64 rfl rfl om) om) rfl <| Um rfl rfl <| Um rfl rfl <| WO.U (oIxM (j := k - 1) rfl rfl rfl rfl om om rfl) rfl <| WO.U (oLd rfl rfl rfl) rfl <| WO.U (cI ((((rest * 1073741824 + xs.getD (k - 1) default) : Nat) : Int)) (oAdd64 rfl rfl om) om) rfl <| Ua rfl rfl <| Wn <| WC.draw1z (z := 11) rfl (by kernel_rfl) <| Dm rfl rfl <| Dm rfl rfl <| Dm rfl rfl <| Dm rfl rfl <| WD.U (oQuoN (a := (rest * 1073741824 + xs.getD (k - 1) default)) (b := y) rfl rfl hy om) rfl <| Dm rfl rfl <| Dm rfl rfl <| WD.U (oRemN (a := (rest * 1073741824 + xs.getD (k - 1) default)) (b := y) rfl rfl hy) rfl <| WD.U (oIxR (j := k - 1) rfl rfl rfl rfl om om rfl) rfl <| WD.S0 (oStO (f := d64) (us := us) ((rest * 1073741824 + xs.getD (k - 1) default) / y) rfl rfl rfl g0 (fun _ => rfl) rfl rfl om rfl) <| WD.U (oAs rfl) rfl <| WD.nil (drawOk_of (by kernel_rfl)) rfl <| after_normal ?_
 refine Ck [0,1,4,5,6] rfl <| WC.reg1z (z := 3) rfl <| Um rfl rfl <| WO.U (cI (((k - 1 : Nat) : Int) - 1) (oSub64 rfl rfl om) om) rfl <| Ua rfl rfl <| Wn <| loopR_normal ?_
 have hj : k - 1 + 1 = k := by omega
 refine ⟨⟨k - 1, (rest * 1073741824 + xs.getD (k - 1) default) % y, us.set (k - 1) ((rest * 1073741824 + xs.getD (k - 1) default) / y)⟩, ⟨rfl, rfl, congrArg some (by rw [List.length_set]), rfl, rfl, trivial⟩, ⟨g0, trivial⟩, ⟨om, by rw [List.length_set]; exact hul, hud.set _ hq, Nat.mod_lt _ hy, ?_⟩, by show k - 1 < k; omega⟩
 exact short_step hy (by rw [hj]; exact huv) om om
theorem nscaled_run (k0 : Nat) (xs : List Nat) (n0 : Nat) (hx : Dg 1073741824 xs) (hn : n0 < 1073741824) (lx : xs.length < 1099511627776) : ∃ r, Run Tryz.prog T E0 (.call 142 [.sl k0 (xs.map d64), .v (.int .i64 (n0 : Int))] r) ∧ ∃ ds, r = .sl 1 (ds.map d64) ∧ Dg 1073741824 ds ∧ val 1073741824 ds = val 1073741824 xs * n0 ∧ ds.length = xs.length + 1 := by
 refine mkcallE Tryz.func142 rfl rfl (Nat.le_of_ble_eq_true rfl) <| Rg 1 rfl <| Ua rfl rfl <| Wn <| Rg 1 rfl <| Ua rfl rfl <| Wn <| Rg 1 rfl <| Ua rfl rfl <| Wn <| WC.assoc <| Rg 3 rfl <| Um rfl rfl <| WO.U (oLenM rfl rfl) rfl <| Um rfl rfl <| Wn <| WC.block <| WC.loopV (α := Nat × Nat × (List Nat)) (fun ⟨c, q, ds⟩ => [(1, .v (.int .i64 (n0 : Int))), (5, outV q 1 (ds.map d64)), (6, .v (.int .i64 (c : Int))), (9, .sl k0 (xs.map d64)), (10, .v (.int .i64 (xs.length : Int))), (11, .v (.int .i64 (ds.length : Int)))]) (fun ⟨c, q, ds⟩ => outH q 1 3 (ds.map d64) []) (fun ⟨c, q, ds⟩ n => ds.length ≤ xs.length ∧ Dg 1073741824 ds ∧ c < 1073741824 ∧ val 1073741824 ds + 1073741824 ^ ds.length * c = val 1073741824 (xs.take ds.length) * n0) (fun ⟨c, q, ds⟩ => xs.length - ds.length) (0, 0, []) ⟨rfl, rfl, rfl, rfl, rfl, rfl, trivial⟩ trivial ⟨Nat.zero_le _, by intro d hd; simp at hd, om, by simp [val]⟩ ?_
 rintro ⟨c, q, ds⟩ n hF
 change WC _ _ _ _ _ (_ :: _) (outH _ _ _ _ _) n _
 obtain ⟨hl1, hdd, hc, hi⟩ := hF
 refine Rg 1 rfl <| WO.U (oLss rfl rfl) rfl <| WO.D (fun h12 => ?_) (fun h12 => ?_)
 rotate_left
 ·refine Wn <| WC.cF rfl <| WC.exits <| loopR_exit <| after_exit rfl ?_
  have hl : ds.length = xs.length := by omega
  rw [List.take_of_length_le om] at hi
  refine Rg 5 rfl <| Um rfl rfl <| Um rfl rfl <| WO.U (oBs' (cs := [_]) (rows := [[_]]) rfl rfl (by decide) rfl rfl rfl) rfl <| WO.apM (te := ti3) (f := d64) (q := q) (us := ds) rfl rfl rfl rfl rfl (fun _ => rfl) (by decide) (by show (2 * (ds.length + 1) + 256) * 8 ≤ _; omega) om rfl rfl rfl <| Ua rfl rfl <| Wn <| WC.ret ?_
  have e1 : outR ((ds ++ [c]).map d64) = .sl 1 ((ds ++ [c]).map d64) := by rw [outR_map, if_neg (by simp)]
  refine ⟨.sl 1 ((ds ++ [c]).map d64), ⟨ds ++ [c], rfl, hdd.snoc hc, by rw [val_snoc, hi], by simp; omega⟩, ?_⟩
  rw [← e1]; exact postOut (n := 0) (.inr rfl) rfl (by decide) rows_d64 data_rows_d64
 refine Wn <| WC.cT rfl <| WC.skips <| WC.block ?_
 have hxl : xs.getD ds.length default < 1073741824 := getD_lt hx om
 have hpq := mul30 hxl hn
 obtain ⟨p, hp⟩ : ∃ p, p = xs.getD ds.length default * n0 := ⟨_, rfl⟩
 refine Rg 3 rfl <| WO.U (oIxM rfl rfl rfl rfl rfl om rfl) rfl <| WO.U (oLd rfl rfl rfl) rfl <| Ua rfl rfl <| Wn <| Rg 6 rfl <| Um rfl rfl <| Um rfl rfl <| Um rfl rfl <| WO.U (cI ((p : Int)) (oMul64 rfl rfl (by rw [← Int.natCast_mul]; omega)) (by rw [hp]; simp)) rfl <| WO.U (cI (((c + p : Nat) : Int)) (oAdd64 rfl rfl om) om) rfl <| Ua rfl rfl <| Nk [1,5,6,9,10,11] rfl <| Rg 6 rfl <| Um rfl rfl <| Um rfl rfl <| WO.U (oRemN (a := c + p) (b := 1073741824) rfl rfl (by decide)) rfl <| WO.U (oBs' (cs := [_]) (rows := [[_]]) rfl rfl (by decide) rfl rfl rfl) rfl <| WO.apM (te := ti3) (f := d64) (q := q) (us := ds) rfl rfl rfl rfl rfl (fun _ => rfl) (by decide) (by show (2 * (ds.length + 1) + 256) * 8 ≤ _; omega) om rfl rfl rfl <| Ua rfl rfl <| Wn <| WC.reg1z (z := 3) rfl <| Um rfl rfl ?_
 refine WO.U (oQuoN (a := c + p) (b := 1073741824) rfl rfl (by decide) om) rfl <| Ua rfl rfl <| Wn <| after_normal <| WC.reg1z (z := 2) rfl <| WO.U (cI (((ds.length + 1 : Nat) : Int)) (oAdd64 rfl rfl om) om) rfl <| Um rfl rfl <| Wn <| loopR_normal <| ⟨⟨(c + p) / 1073741824, _, ds ++ [(c + p) % 1073741824]⟩, ⟨rfl, rfl, rfl, rfl, rfl, congrArg some (by simp), trivial⟩, subsM_out, ⟨by simp; omega, hdd.snoc (Nat.mod_lt _ (by decide)), om, by rw [hp]; exact scaled_step hi rfl⟩, by simp; omega⟩
theorem nscaled_own (k0 : Nat) (xs : List Nat) (n0 : Nat) (hx : Dg 1073741824 xs) (hn : n0 < 1073741824) (lx : xs.length < 1099511627776) : ∃ sz len ob, Run Tryz.prog T E0 (.callO 142 [.sl k0 (xs.map d64), .v (.int .i64 (n0 : Int))] (.ref 0 sz 0 len) ob) ∧ ∃ ds, sz = 1 ∧ len = ds.length ∧ ob = { cells := (ds.map d64).flatten, sz := 1, elem := 3, st := 0 } ∧ Dg 1073741824 ds ∧ val 1073741824 ds = val 1073741824 xs * n0 ∧ ds.length = xs.length + 1 := by
 refine mkcallO Tryz.func142 rfl rfl (Nat.le_of_ble_eq_true rfl) <| Rg 1 rfl <| Ua rfl rfl <| Wn <| Rg 1 rfl <| Ua rfl rfl <| Wn <| Rg 1 rfl <| Ua rfl rfl <| Wn <| WC.assoc <| Rg 3 rfl <| Um rfl rfl <| WO.U (oLenM rfl rfl) rfl <| Um rfl rfl <| Wn <| WC.block <| WC.loopV (α := Nat × Nat × (List Nat)) (fun ⟨c, q, ds⟩ => [(1, .v (.int .i64 (n0 : Int))), (5, outV q 1 (ds.map d64)), (6, .v (.int .i64 (c : Int))), (9, .sl k0 (xs.map d64)), (10, .v (.int .i64 (xs.length : Int))), (11, .v (.int .i64 (ds.length : Int)))]) (fun ⟨c, q, ds⟩ => outH q 1 3 (ds.map d64) []) (fun ⟨c, q, ds⟩ n => ds.length ≤ xs.length ∧ Dg 1073741824 ds ∧ c < 1073741824 ∧ val 1073741824 ds + 1073741824 ^ ds.length * c = val 1073741824 (xs.take ds.length) * n0) (fun ⟨c, q, ds⟩ => xs.length - ds.length) (0, 0, []) ⟨rfl, rfl, rfl, rfl, rfl, rfl, trivial⟩ trivial ⟨Nat.zero_le _, by intro d hd; simp at hd, om, by simp [val]⟩ ?_
 rintro ⟨c, q, ds⟩ n hF
 change WC _ _ _ _ _ (_ :: _) (outH _ _ _ _ _) n _
 obtain ⟨hl1, hdd, hc, hi⟩ := hF
 refine Rg 1 rfl <| WO.U (oLss rfl rfl) rfl <| WO.D (fun h12 => ?_) (fun h12 => ?_)
 rotate_left
 ·refine Wn <| WC.cF rfl <| WC.exits <| loopR_exit <| after_exit rfl ?_
  have hl : ds.length = xs.length := by omega
  rw [List.take_of_length_le om] at hi
  refine Rg 5 rfl <| Um rfl rfl <| Um rfl rfl <| WO.U (oBs' (cs := [_]) (rows := [[_]]) rfl rfl (by decide) rfl rfl rfl) rfl <| WO.apM (te := ti3) (f := d64) (q := q) (us := ds) rfl rfl rfl rfl rfl (fun _ => rfl) (by decide) (by show (2 * (ds.length + 1) + 256) * 8 ≤ _; omega) om rfl rfl rfl <| Ua rfl rfl <| Wn <| WC.ret <| ⟨1, (ds ++ [c]).length, _, ⟨ds ++ [c], rfl, rfl, rfl, hdd.snoc hc, by rw [val_snoc, hi], by simp; omega⟩, .inr rfl, _, congrArg (fun z => some [z]) ((outV_ne (by simp)).trans (by rw [List.length_map]; rfl)), by rw [outH_ne (by simp)]; exact g0, rfl, rfl, ?_⟩
  intro c hc; obtain ⟨row, hr, hc⟩ := List.mem_flatten.1 hc; exact data_rows_d64 row hr c hc
 refine Wn <| WC.cT rfl <| WC.skips <| WC.block ?_
 have hxl : xs.getD ds.length default < 1073741824 := getD_lt hx om
 have hpq := mul30 hxl hn
 obtain ⟨p, hp⟩ : ∃ p, p = xs.getD ds.length default * n0 := ⟨_, rfl⟩
 refine Rg 3 rfl <| WO.U (oIxM rfl rfl rfl rfl rfl om rfl) rfl <| WO.U (oLd rfl rfl rfl) rfl <| Ua rfl rfl <| Wn <| Rg 6 rfl <| Um rfl rfl <| Um rfl rfl <| Um rfl rfl <| WO.U (cI ((p : Int)) (oMul64 rfl rfl (by rw [← Int.natCast_mul]; omega)) (by rw [hp]; simp)) rfl <| WO.U (cI (((c + p : Nat) : Int)) (oAdd64 rfl rfl om) om) rfl <| Ua rfl rfl <| Nk [1,5,6,9,10,11] rfl <| Rg 6 rfl <| Um rfl rfl <| Um rfl rfl <| WO.U (oRemN (a := c + p) (b := 1073741824) rfl rfl (by decide)) rfl <| WO.U (oBs' (cs := [_]) (rows := [[_]]) rfl rfl (by decide) rfl rfl rfl) rfl <| WO.apM (te := ti3) (f := d64) (q := q) (us := ds) rfl rfl rfl rfl rfl (fun _ => rfl) (by decide) (by show (2 * (ds.length + 1) + 256) * 8 ≤ _; omega) om rfl rfl rfl <| Ua rfl rfl <| Wn <| WC.reg1z (z := 3) rfl <| Um rfl rfl ?_
 refine WO.U (oQuoN (a := c + p) (b := 1073741824) rfl rfl (by decide) om) rfl <| Ua rfl rfl <| Wn <| after_normal <| WC.reg1z (z := 2) rfl <| WO.U (cI (((ds.length + 1 : Nat) : Int)) (oAdd64 rfl rfl om) om) rfl <| Um rfl rfl <| Wn <| loopR_normal <| ⟨⟨(c + p) / 1073741824, _, ds ++ [(c + p) % 1073741824]⟩, ⟨rfl, rfl, rfl, rfl, rfl, congrArg some (by simp), trivial⟩, subsM_out, ⟨by simp; omega, hdd.snoc (Nat.mod_lt _ (by decide)), om, by rw [hp]; exact scaled_step hi rfl⟩, by simp; omega⟩
theorem ndiff_share (q0 off len q2 n0 : Nat) (o2 : Ob) (us : List Nat) (k2 : Nat) (xs ys : List Nat) (hqq : q0 ≠ q2) (hq0 : q0 < n0) (hq2 : q2 < n0) (hu : Dg 1073741824 us) (hlen : off + len ≤ us.length) (hxs : xs = (us.drop off).take len) (hy : Dg 1073741824 ys) (hle : ys.length ≤ len) (hv : val 1073741824 ys ≤ val 1073741824 xs) (hl0 : 0 < len) (lx : us.length < 1099511627776) : WC Tryz.prog T E0 Tryz.f121.ntmps (codeOf Tryz.f121) (argsEnv 0 [.ref q0 1 off len, .sl k2 (ys.map d64)]) [(q0, { cells := (us.map d64).flatten, sz := 1, elem := 3, st := 0 }), (q2, o2)] n0 (fun x e' h' n' => (x = .normal ∨ x = .ret) ∧ ∃ ls', resE e' T h' Tryz.f121.results.toList = some ls' ∧ ∃ r0 ds, resultLV ls' = .ref r0 1 0 ds.length ∧ h' = (r0, { cells := (ds.map d64).flatten, sz := 1, elem := 3, st := 0 }) :: [(q0, { cells := (us.map d64).flatten, sz := 1, elem := 3, st := 0 }), (q2, o2)] ∧ n0 ≤ r0 ∧ Dg 1073741824 ds ∧ val 1073741824 ds = val 1073741824 xs - val 1073741824 ys ∧ ds.length = len ∧ n0 ≤ n') := by
 have hxl0 : xs.length = len := by rw [hxs]; simp; omega
 have hx : Dg 1073741824 xs := by rw [hxs]; exact (hu.drop off).take len
 change WC _ _ _ _ _ [(0, .ref q0 1 off len), (1, .sl k2 (ys.map d64))] _ _ _
 refine Rg 1 rfl <| Ua rfl rfl <| Wn <| Rg 1 rfl <| Ua rfl rfl <| Wn <| Rg 1 rfl <| Ua rfl rfl <| Wn <| WC.assoc <| Rg 3 rfl <| Um rfl rfl <| WO.U (oLenR rfl rfl) rfl <| Um rfl rfl <| Wn <| WC.block <| WC.loopV (α := Nat × Nat × (List Nat)) (fun ⟨c, q, ds⟩ => [(0, .ref q0 1 off len), (1, .sl k2 (ys.map d64)), (5, outV q 1 (ds.map d64)), (6, .v (.int .i64 (-(c : Int)))), (9, .v (.int .i64 (len : Int))), (10, .v (.int .i64 (ds.length : Int)))]) (fun ⟨c, q, ds⟩ => outH q 1 3 (ds.map d64) [(q0, { cells := (us.map d64).flatten, sz := 1, elem := 3, st := 0 }), (q2, o2)]) (fun ⟨c, q, ds⟩ n => ds.length ≤ xs.length ∧ Dg 1073741824 ds ∧ c ≤ 1 ∧ val 1073741824 (xs.take ds.length) + 1073741824 ^ ds.length * c = val 1073741824 ds + val 1073741824 (ys.take ds.length) ∧ n0 ≤ q ∧ n0 ≤ n) (fun ⟨c, q, ds⟩ => xs.length - ds.length) (0, n0, []) ⟨rfl, rfl, rfl, rfl, rfl, rfl, trivial⟩ ⟨g0, g1 hqq g0, trivial⟩ ⟨Nat.zero_le _, by intro d hd; simp at hd, om, by simp [val], om, om⟩ ?_
 rintro ⟨c, q, ds⟩ n hF
 change WC _ _ _ _ _ (_ :: _) (outH _ _ _ _ _) n _
 obtain ⟨hdl, hdd, hc, hi, hq, hn⟩ := hF
 refine Rg 1 rfl <| WO.U (oLss rfl rfl) rfl <| WO.D (fun h11 => ?_) (fun h11 => ?_)
 rotate_left
 ·refine Wn <| WC.cF rfl <| WC.exits <| loopR_exit <| after_exit rfl <| Rg 2 rfl <| Um rfl rfl <| Ua rfl rfl <| Wn <| WC.ret ?_
  have hl : ds.length = xs.length := by omega
  have hne : ds.map d64 ≠ [] := by intro h; rw [List.map_eq_nil_iff] at h; rw [h] at hl; simp at hl; omega
  refine ⟨.inr rfl, _, rfl, q, ds, (outV_ne hne).trans (by rw [List.length_map]), outH_ne hne, hq, hdd, ?_, om, om⟩
  rw [List.take_of_length_le om, List.take_of_length_le om] at hi
  have hlt := val_lt (B := 1073741824) (by decide) hdd
  rcases (show c = 0 ∨ c = 1 by omega) with rfl | rfl
  ·omega
  ·omega
 refine Wn <| WC.cT rfl <| WC.skips <| WC.block <| Rg 2 rfl <| Um rfl rfl <| Ua rfl rfl <| WO.nil ?_
 have hxl : xs.getD ds.length default < 1073741824 := getD_lt hx om
 refine Rg 7 rfl <| Um rfl rfl <| Um rfl rfl <| Um rfl rfl <| WO.U (oIxR (j := ds.length) rfl rfl rfl rfl om om rfl) rfl <| WO.U (cI (((xs.getD ds.length default : Nat) : Int)) (oLdA (f := d64) (us := us) (a := off + ds.length) rfl rfl (outH_get om g0) (fun _ => rfl) rfl (by decide) om rfl) (by rw [hxs]; exact congrArg Int.ofNat (seg_getD om hlen))) rfl <| WO.U (cI (((xs.getD ds.length default : Nat) : Int) - c) (oAdd64 rfl rfl om) om) rfl <| Ua rfl rfl <| Nk [0,1,5,6,7,9,10] rfl <| WC.assoc <| Rg 4 rfl <| Um rfl rfl <| Um rfl rfl <| WO.U (oLenM rfl rfl) rfl <| WO.U (oLss rfl rfl) rfl <| WO.D (fun h22 => ?_) (fun h22 => ?_)
 rotate_left
 ·refine Wn <| WC.cF rfl <| WC.skips <| Rg 2 rfl <| Um rfl rfl <| WO.U (oLss rfl rfl) rfl <| WO.D (fun h30 => ?_) (fun h30 => ?_)
  rotate_left
  ·refine Wn <| WC.cF1 rfl <| Rg 5 rfl <| Um rfl rfl <| WO.U (cI (((xs.getD ds.length default - 0 - c : Nat) : Int)) (oMv rfl) om) rfl <| WO.U (oBs' (cs := [_]) (rows := [[_]]) rfl rfl (by decide) rfl rfl rfl) rfl <| WO.apM (te := ti3) (f := d64) (q := q) (us := ds) rfl rfl rfl rfl rfl (fun _ => rfl) (by decide) (by show (2 * (ds.length + 1) + 256) * 8 ≤ _; omega) om (gN om (gN om rfl)) (gN om (gN om rfl)) rfl <| Ua rfl rfl <| Nk [0,1,5,9,10] rfl <| WC.reg1z (z := 1) rfl <| Ua rfl rfl <| Wn <| after_normal <| WC.reg1z (z := 2) rfl <| WO.U (cI (((ds.length + 1 : Nat) : Int)) (oAdd64 rfl rfl om) om) rfl <| Um rfl rfl <| Wn <| loopR_normal <| ⟨⟨0, _, ds ++ [(xs.getD ds.length default - 0 - c)]⟩, ⟨rfl, rfl, rfl, rfl, rfl, congrArg some (by simp), trivial⟩, subsM_out2 om om hqq, ⟨by simp; omega, hdd.snoc om, om, minus_step0 hi rfl (getD_out om).symm om om, om, om⟩, by simp; omega⟩
  refine Wn <| WC.cT1 rfl <| Rg 6 rfl <| Um rfl rfl <| Um rfl rfl <| WO.U (cI (((xs.getD ds.length default + 1073741824 - 0 - c : Nat) : Int)) (oAdd64 rfl rfl om) om) rfl <| WO.U (oBs' (cs := [_]) (rows := [[_]]) rfl rfl (by decide) rfl rfl rfl) rfl <| WO.apM (te := ti3) (f := d64) (q := q) (us := ds) rfl rfl rfl rfl rfl (fun _ => rfl) (by decide) (by show (2 * (ds.length + 1) + 256) * 8 ≤ _; omega) om (gN om (gN om rfl)) (gN om (gN om rfl)) rfl <| Ua rfl rfl <| Nk [0,1,5,9,10] rfl <| WC.reg1z (z := 1) rfl <| Ua rfl rfl <| Wn <| after_normal <| WC.reg1z (z := 2) rfl <| WO.U (cI (((ds.length + 1 : Nat) : Int)) (oAdd64 rfl rfl om) om) rfl <| Um rfl rfl <| Wn <| loopR_normal <| ⟨⟨1, _, ds ++ [(xs.getD ds.length default + 1073741824 - 0 - c)]⟩, ⟨rfl, rfl, rfl, rfl, rfl, congrArg some (by simp), trivial⟩, subsM_out2 om om hqq, ⟨by simp; omega, hdd.snoc om, om, minus_step1 hi rfl (getD_out om).symm om om, om, om⟩, by simp; omega⟩
 refine Wn <| WC.cT rfl ?_
 have hyl : ys.getD ds.length default < 1073741824 := getD_lt hy om
 refine Rg 7 rfl <| Um rfl rfl <| Um rfl rfl <| Um rfl rfl <| WO.U (oIxM rfl rfl rfl rfl rfl om rfl) rfl <| WO.U (oLd rfl rfl rfl) rfl <| WO.U (cI (((xs.getD ds.length default : Nat) : Int) - c - ((ys.getD ds.length default : Nat) : Int)) (oSub64 rfl rfl om) om) rfl <| Ua rfl rfl <| Nk [0,1,5,6,9,10] rfl <| Rg 2 rfl <| Um rfl rfl <| WO.U (oLss rfl rfl) rfl <| WO.D (fun h30 => ?_) (fun h30 => ?_)
 rotate_left
 ·refine Wn <| WC.cF1 rfl <| Rg 5 rfl <| Um rfl rfl <| WO.U (cI (((xs.getD ds.length default - ys.getD ds.length default - c : Nat) : Int)) (oMv rfl) om) rfl <| WO.U (oBs' (cs := [_]) (rows := [[_]]) rfl rfl (by decide) rfl rfl rfl) rfl <| WO.apM (te := ti3) (f := d64) (q := q) (us := ds) rfl rfl rfl rfl rfl (fun _ => rfl) (by decide) (by show (2 * (ds.length + 1) + 256) * 8 ≤ _; omega) om (gN om (gN om rfl)) (gN om (gN om rfl)) rfl <| Ua rfl rfl <| Wn <| WC.reg1z (z := 1) rfl <| Ua rfl rfl <| Wn <| after_normal <| WC.reg1z (z := 2) rfl <| WO.U (cI (((ds.length + 1 : Nat) : Int)) (oAdd64 rfl rfl om) om) rfl <| Um rfl rfl <| Wn <| loopR_normal <| ⟨⟨0, _, ds ++ [(xs.getD ds.length default - ys.getD ds.length default - c)]⟩, ⟨rfl, rfl, rfl, rfl, rfl, congrArg some (by simp), trivial⟩, subsM_out2 om om hqq, ⟨by simp; omega, hdd.snoc om, om, minus_step0 hi rfl rfl om om, om, om⟩, by simp; omega⟩
 refine Wn <| WC.cT1 rfl <| Rg 6 rfl <| Um rfl rfl <| Um rfl rfl <| WO.U (cI (((xs.getD ds.length default + 1073741824 - ys.getD ds.length default - c : Nat) : Int)) (oAdd64 rfl rfl om) om) rfl <| WO.U (oBs' (cs := [_]) (rows := [[_]]) rfl rfl (by decide) rfl rfl rfl) rfl <| WO.apM (te := ti3) (f := d64) (q := q) (us := ds) rfl rfl rfl rfl rfl (fun _ => rfl) (by decide) (by show (2 * (ds.length + 1) + 256) * 8 ≤ _; omega) om (gN om (gN om rfl)) (gN om (gN om rfl)) rfl <| Ua rfl rfl <| Wn <| WC.reg1z (z := 1) rfl <| Ua rfl rfl <| Wn <| after_normal <| WC.reg1z (z := 2) rfl <| WO.U (cI (((ds.length + 1 : Nat) : Int)) (oAdd64 rfl rfl om) om) rfl <| Um rfl rfl <| Wn <| loopR_normal <| ⟨⟨1, _, ds ++ [(xs.getD ds.length default + 1073741824 - ys.getD ds.length default - c)]⟩, ⟨rfl, rfl, rfl, rfl, rfl, congrArg some (by simp), trivial⟩, subsM_out2 om om hqq, ⟨by simp; omega, hdd.snoc om, om, minus_step1 hi rfl rfl om om, om, om⟩, by simp; omega⟩
theorem ndivided_run (k1 k2 : Nat) (xs ys : List Nat) (hk1 : k1 = 1 ∨ k1 = 0 ∧ xs.length = 0) (hx : Dg 1073741824 xs) (hy : Dg 1073741824 ys) (tx : Trm xs) (ty : Trm ys) (hyl : 1 ≤ ys.length) (lx : xs.length < 549755813888) (ly : ys.length < 549755813888) : ∃ r, Run Tryz.prog T E0 (.call 135 [.sl k1 (xs.map d64), .sl k2 (ys.map d64)] r) ∧ ∃ k3 qs k4 rs, r = .tup [.sl k3 (qs.map d64), .sl k4 (rs.map d64)] ∧ (k3 = 1 ∨ k3 = 0 ∧ qs.length = 0) ∧ (k4 = 1 ∨ k4 = 0 ∧ rs.length = 0) ∧ Dg 1073741824 qs ∧ Dg 1073741824 rs ∧ val 1073741824 qs * val 1073741824 ys + val 1073741824 rs = val 1073741824 xs ∧ val 1073741824 rs < val 1073741824 ys ∧ qs.length ≤ xs.length + 1 ∧ rs.length ≤ xs.length + ys.length := by
 refine mkcallE Tryz.func135 rfl rfl (Nat.le_of_ble_eq_true rfl) <| Rg 2 rfl <| Ua rfl rfl <| Ua rfl rfl <| Wn <| WC.assoc <| Rg 3 rfl <| Um rfl rfl <| WO.U (oLenM rfl rfl) rfl <| WO.U (oEql rfl rfl) rfl <| WO.D (fun h18 => ?_) (fun h18 => ?_)
 ·refine Wn <| WC.cT rfl <| WC.assoc ?_
  have hy1 : ys.length = 1 := by omega
  have hyv : val 1073741824 ys = ys.getD 0 default := by
   obtain ⟨y, rfl⟩ := List.length_eq_one_iff.1 hy1
   simp [val]
  have hyb : ys.getD 0 default < 1073741824 := getD_lt hy om
  have hy0 : 0 < ys.getD 0 default := by
   obtain ⟨y, rfl⟩ := List.length_eq_one_iff.1 hy1
   have := ty y (by simp)
   simp; omega
  obtain ⟨r, hr, ds, rest, rfl, hdd, hrest, hval, hlen⟩ := nshorter_run k1 xs (ys.getD 0 default) hx hy0 hyb om
  refine Rg 10 rfl <| Um rfl rfl <| Um rfl rfl <| WO.U (oIxM (j := 0) rfl rfl rfl rfl om om rfl) rfl <| WO.U (oLd rfl rfl rfl) rfl <| WO.U (oCall rfl (hr) (by simp)) rfl <| Um rfl rfl <| WO.U (oEx rfl rfl) rfl <| WO.U (oEx rfl rfl) rfl <| Ua rfl rfl <| Ua rfl rfl <| Nk [6,7] rfl <| WC.assoc <| Rg 5 rfl <| Um rfl rfl <| Um rfl rfl <| WO.U (oBs' (cs := [_]) (rows := [[_]]) rfl rfl (by decide) rfl rfl rfl) rfl <| Ua rfl rfl <| Ua rfl rfl <| Wn <| WC.rets <| ⟨.tup [.sl 1 (ds.map d64), .sl 1 ([rest].map d64)], ⟨1, ds, 1, [rest], rfl, .inl rfl, .inl rfl, hdd, by intro d hd; simp at hd; omega, by rw [hyv]; simpa [val] using hval, by rw [hyv]; simpa [val] using hrest, om, by simp; omega⟩, ?_⟩
  exact postA (n := 0) [] (.inr rfl) rfl (.data (by simp) (.cons (fun m _ => (Weak.two _).snap (by simp [d64])) .nil)) (by intro p hp; simp at hp)
 refine Wn <| WC.cF rfl <| WC.skips <| WC.assoc <| Rg 4 rfl <| Um rfl rfl <| Um rfl rfl <| WO.U (oCall rfl (ncompare_run k1 k2 xs ys hx hy tx ty om om) (by simp)) rfl <| WO.U (oLss rfl rfl) rfl <| WO.D (fun h33 => ?_) (fun h33 => ?_)
 ·refine Wn <| WC.cT rfl <| WC.assoc <| Rg 3 rfl <| Um rfl rfl <| Ua rfl rfl <| Ua rfl rfl <| Wn <| WC.rets <| ⟨.tup [.sl 0 ([].map d64), .sl k1 (xs.map d64)], ⟨0, [], k1, xs, rfl, .inr ⟨rfl, rfl⟩, hk1, by intro d hd; simp at hd, hx, by simp [val], ?_, by simp, om⟩, post (n := 0) (.inr rfl) rfl rfl (by simp)⟩
  have := Int.sign_neg_iff.1 h33; omega
 refine Wn <| WC.cF rfl <| WC.skips ?_
 have hge : val 1073741824 ys ≤ val 1073741824 xs := by
  rcases Nat.lt_or_ge (val 1073741824 xs) (val 1073741824 ys) with h | h
  ·exact absurd (Int.sign_neg_iff.2 (show (val 1073741824 xs : Int) - val 1073741824 ys < 0 by omega)) h33
  ·exact h
 have hll : ys.length ≤ xs.length := by
  rcases Nat.lt_or_ge xs.length ys.length with h | h
  ·have := val_lt_len (by decide) hx ty h; omega
  ·exact h
 have hy2 : 2 ≤ ys.length := by omega
 obtain ⟨f, hf⟩ : ∃ f, f = 1073741824 / (ys.getD (ys.length - 1) default + 1) := ⟨_, rfl⟩
 obtain ⟨hf1, hf2, hnv, hyp⟩ := norm30 hy ty hy2 hf
 have hyt : ys.getD (ys.length - 1) default < 1073741824 := getD_lt hy om
 refine Rg 9 rfl <| Um rfl rfl <| Um rfl rfl <| WO.U (oLenM rfl rfl) rfl <| WO.U (oSub64 rfl rfl om) rfl <| WO.U (oIxM (j := ys.length - 1) rfl rfl rfl rfl om om rfl) rfl <| WO.U (oLd rfl rfl rfl) rfl <| WO.U (cI (((ys.getD (ys.length - 1) default + 1 : Nat) : Int)) (oAdd64 rfl rfl om) om) rfl <| WO.U (cI ((f : Int)) (oQuoN (a := 1073741824) (b := ys.getD (ys.length - 1) default + 1) rfl rfl om (by decide)) (by rw [hf])) rfl <| Ua rfl rfl <| Nk [0,1,8] rfl ?_
 obtain ⟨_, _, _, hr1, us0, rfl, rfl, rfl, hud0, huv0, hul0⟩ := nscaled_own k1 xs f hx hf2 om
 obtain ⟨r2, hr2, zs, rfl, hzd, hzv, hzl⟩ := nscaled_run k2 ys f hy hf2 om
 obtain ⟨vs, hvs⟩ : ∃ vs, vs = zs.take ys.length := ⟨_, rfl⟩
 have hvd : Dg 1073741824 vs := by rw [hvs]; exact hzd.take _
 have hvl : vs.length = ys.length := by rw [hvs, List.length_take]; omega
 have hvv : val 1073741824 vs = val 1073741824 ys * f := by rw [hvs, (take_small (by decide) om (by rw [hzv]; exact hnv)).1, hzv]
 have hvp : 1073741824 ^ (vs.length - 1) ≤ val 1073741824 vs := by
  rw [hvv, hvl]; have := Nat.mul_le_mul hyp hf1; omega
 have hv1 := top_pos (by decide) hvd om hvp
 have hV0 : 0 < val 1073741824 vs := Nat.lt_of_lt_of_le (Nat.pow_pos (by decide)) hvp
 have hv1b : vs.getD (vs.length - 1) default < 1073741824 := getD_lt hvd om
 refine WC.draw (z := 11) rfl (by kernel_rfl) <| Dm rfl rfl <| Dm rfl rfl <| WD.S (oCallO rfl hr1 (by simp)) rfl <| Dm rfl rfl <| Dm rfl rfl <| WD.U (oCall rfl (hr2) (by simp)) rfl <| Dm rfl rfl <| WD.U (oLenM rfl rfl) rfl <| WD.U (OP.cast (b := .sl 1 (vs.map d64)) (oSlH (j := ys.length) rfl rfl rfl rows_d64 rfl om (by simp; omega)) (by rw [hvs, List.map_take]; rfl)) rfl <| WD.U (oAs rfl) rfl <| WD.U (oAs rfl) rfl <| WD.nil (drawOk_of (by kernel_rfl)) rfl <| Rg 3 rfl <| Um rfl rfl <| WO.U (oLenM rfl rfl) rfl <| Ua rfl rfl <| Nk [8,9,10,11] rfl <| Rg 6 rfl <| Um rfl rfl <| WO.U (oLenR rfl rfl) rfl <| Um rfl rfl <| WO.U (oSub64 rfl rfl om) rfl ?_
 refine WO.S (oMk (a := xs.length + 1 - ys.length) (b := xs.length + 1 - ys.length) rfl rfl rfl rfl om om (by decide) om (by show 8 * (xs.length + 1 - ys.length) ≤ _; omega) om) rfl <| Ua rfl rfl <| Wn <| WC.assoc <| Rg 6 rfl <| Um rfl rfl <| WO.U (oLenR rfl rfl) rfl <| Um rfl rfl <| WO.U (oSub64 rfl rfl om) rfl <| WO.U (oSub64 rfl rfl om) rfl <| Ua rfl rfl <| Nk [4,8,9,10,11,12] rfl <| WC.block <| WC.loopV (α := Nat × (List Nat) × (List Nat)) (fun ⟨k, us, qs⟩ => [(4, .ref (0 + 2 + 3 + 4 + 9 + 11 + 3 + 4) 1 0 qs.length), (8, .v (.int .i64 (f : Int))), (9, .ref (0 + 2 + 3 + 4 + 9 + 2) 1 0 us.length), (10, .sl 1 (vs.map d64)), (11, .v (.int .i64 (vs.length : Int))), (12, .v (.int .i64 ((k : Int) - 1)))]) (fun ⟨k, us, qs⟩ => [((0 + 2 + 3 + 4 + 9 + 2), { cells := (us.map d64).flatten, sz := 1, elem := 3, st := 0 }), ((0 + 2 + 3 + 4 + 9 + 11 + 3 + 4), { cells := (qs.map d64).flatten, sz := 1, elem := 3, st := 0 })]) (fun ⟨k, us, qs⟩ n => k + vs.length ≤ us.length ∧ us.length = xs.length + 1 ∧ qs.length = xs.length + 1 - ys.length ∧ Dg 1073741824 us ∧ Dg 1073741824 qs ∧ val 1073741824 us0 = val 1073741824 (qs.drop k) * val 1073741824 vs * 1073741824 ^ k + val 1073741824 us ∧ val 1073741824 (us.drop k) < val 1073741824 vs ∧ 36 ≤ n) (fun ⟨k, us, qs⟩ => k) (xs.length + 1 - ys.length, us0, List.replicate (xs.length + 1 - ys.length) 0) ⟨congrArg some (by rw [List.length_replicate]; rfl), rfl, rfl, rfl, rfl, congrArg (fun z => some (LV.v (.int .i64 z))) om, trivial⟩ ⟨rfl, g0.trans (by rw [List.map_replicate]; rfl), trivial⟩ ⟨om, hul0, by simp, hud0, by intro d hd; simp at hd; rw [hd.2]; decide, by rw [List.drop_eq_nil_of_le (by simp)]; simp [val], by rw [hvv]; exact div_init (n := xs.length) (m := ys.length) huv0 (val_lt (by decide) hx) om om om hf1 hyp, om⟩ ?_
 rintro ⟨k, us, qs⟩ n hF
 change WC _ _ _ _ _ (_ :: _) (_ :: _) n _
 obtain ⟨hk, hul, hql0, hud, hqd, hU, hlt, hn30⟩ := hF
 refine WC.assoc <| Rg 2 rfl <| Um rfl rfl <| WO.U (oGeq rfl rfl) rfl <| WO.D (fun h65 => ?_) (fun h65 => ?_)
 rotate_left
 ·refine Wn <| WC.cF rfl <| WC.exits <| loopR_exit <| after_exit rfl ?_
  have hk0 : k = 0 := by omega
  subst hk0
  rw [List.drop_zero, Nat.pow_zero, Nat.mul_one] at hU
  rw [List.drop_zero] at hlt
  obtain ⟨hts, _⟩ := take_small (n := vs.length) (by decide) om (Nat.lt_trans hlt (val_lt (by decide) hvd))
  obtain ⟨r, hr, rs, rest, rfl, hrd, hrest, hrv, hrl⟩ := nshorter_run 1 (us.take vs.length) f (hud.take _) hf1 hf2 (by simp; omega)
  have hr' : (us.take vs.length) = ((us.drop 0).take vs.length) := by simp
  rw [hr'] at hr
  refine Rg 9 rfl <| Um rfl rfl <| Um rfl rfl <| WO.U (oSlRh (j := vs.length) rfl rfl rfl rfl rfl rfl om) rfl <| Um rfl rfl <| WO.S (oCallF [.sl 1 (((us.drop 0).take vs.length).map d64), .v (.int .i64 (f : Int))] [((0 + 2 + 3 + 4 + 9 + 2), { cells := (us.map d64).flatten, sz := 1, elem := 3, st := 1 })] rfl hr (.part g0 (by show (0 : Nat) ≠ 2; decide) rfl (by decide) (by simp [keys]) rfl (fun _ => rfl) om data_rows_d64 (.data (by simp) .nil)) (by intro p hp; simp at hp; subst hp; exact ⟨_, g0, by show (0 : Nat) ≠ 2; decide, rfl⟩)) rfl <| Um rfl rfl <| WO.U (oEx rfl rfl) rfl <| WO.U (oEx rfl rfl) rfl <| Ua rfl rfl <| Nk [4,5] rfl ?_
  obtain ⟨hx1, hx2⟩ := unshift (X := val 1073741824 xs) (Y := val 1073741824 ys) (Q := val 1073741824 qs) (U := val 1073741824 us) hf1 (by rw [← hvv, ← huv0, hU]) (by rw [← hvv]; exact hlt)
  have hre := rest_div hrv hrest
  rw [hts] at hre
  rw [← hre] at hx1 hx2
  refine Rg 4 rfl <| Um rfl rfl <| Um rfl rfl <| Ua rfl rfl <| Ua rfl rfl <| Wn <| WC.ret <| ⟨.tup [.sl 1 (qs.map d64), .sl 1 (rs.map d64)], ⟨1, qs, 1, rs, rfl, .inl rfl, .inl rfl, hqd, hrd, hx1, hx2, om, by rw [hrl]; simp; omega⟩, ?_⟩
  exact postA (n := 0) [((0 + 2 + 3 + 4 + 9 + 11 + 3 + 4), { cells := (qs.map d64).flatten, sz := 1, elem := 3, st := 1 })] (.inr rfl) rfl (.own _ (by simp) (g1 (by decide) (g1 (by decide) g0)) (by show (0 : Nat) ≠ 2; decide) rfl (by decide) (by simp [keys]) rfl rows_d64 data_rows_d64 (.data (by simp) .nil)) (by intro p hp; rw [List.mem_singleton] at hp; subst hp; exact ⟨_, rfl, by show (0 : Nat) ≠ 2; decide, rfl⟩)
 refine Wn <| WC.cT rfl <| WC.skips <| WC.block ?_
 have hu0 : us.getD (k - 1 + vs.length) default < 1073741824 := getD_lt hud om
 have hu1 : us.getD (k - 1 + vs.length - 1) default < 1073741824 := getD_lt hud om
 obtain ⟨hst, hRB⟩ := div_start (B := 1073741824) (by decide) (j := k - 1) hud hvd om om hv1 (by rw [show k - 1 + 1 = k by omega]; exact hlt)
 obtain ⟨hsg, hsg0⟩ := seg_val (by decide) om hRB
 obtain ⟨x0, hx0⟩ : ∃ x0, x0 = (us.getD (k - 1 + vs.length) default * 1073741824 + us.getD (k - 1 + vs.length - 1) default) / vs.getD (vs.length - 1) default := ⟨_, rfl⟩
 rw [← hx0] at hst
 replace hst := min_if hst
 obtain ⟨e0, he0⟩ : ∃ e0, e0 = if 1073741823 < x0 then 1073741823 else x0 := ⟨_, rfl⟩
 replace hst : val 1073741824 (us.drop (k - 1)) / val 1073741824 vs ≤ e0 := by rw [he0]; exact hst
 have he1 : e0 < 1073741824 := by rw [he0]; exact if_lt (by decide)
 have hsl : ((us.drop (k - 1)).take (vs.length + 1)).length = vs.length + 1 := take_len om
 have hsd : Dg 1073741824 ((us.drop (k - 1)).take (vs.length + 1)) := (hud.drop _).take _
 refine WC.draw (z := 23) rfl (by kernel_rfl) <| Dm rfl rfl <| Dm rfl rfl <| Dm rfl rfl <| WD.U (cI (((k - 1 + vs.length : Nat) : Int)) (oAdd64 rfl rfl om) om) rfl <| WD.U (oIxR (j := k - 1 + vs.length) rfl rfl rfl rfl om om rfl) rfl <| WD.U (oLdO (f := d64) (us := us) (j := k - 1 + vs.length) rfl rfl g0 (fun _ => rfl) rfl (by decide) om rfl) rfl <| WD.U (cI (((us.getD (k - 1 + vs.length) default * 1073741824 : Nat) : Int)) (oMul64 rfl rfl om) om) rfl <| Dm rfl rfl <| Dm rfl rfl <| Dm rfl rfl <| WD.U (cI (((k - 1 + vs.length : Nat) : Int)) (oAdd64 rfl rfl om) om) rfl <| WD.U (oSub64 rfl rfl om) rfl <| WD.U (oIxR (j := k - 1 + vs.length - 1) rfl rfl rfl rfl om om rfl) rfl <| WD.U (oLdO (f := d64) (us := us) (j := k - 1 + vs.length - 1) rfl rfl g0 (fun _ => rfl) rfl (by decide) om rfl) rfl <| WD.U (cI ((((us.getD (k - 1 + vs.length) default * 1073741824 + us.getD (k - 1 + vs.length - 1) default) : Nat) : Int)) (oAdd64 rfl rfl om) om) rfl <| Dm rfl rfl <| Dm rfl rfl <| WD.U (oSub64 rfl rfl om) rfl <| WD.U (oIxM (j := vs.length - 1) rfl rfl rfl rfl om om rfl) rfl <| WD.U (oLd rfl rfl rfl) rfl <| WD.U (cI ((x0 : Int)) (oQuoN (a := (us.getD (k - 1 + vs.length) default * 1073741824 + us.getD (k - 1 + vs.length - 1) default)) (b := vs.getD (vs.length - 1) default) rfl rfl hv1 om) (by rw [hx0])) rfl <| WD.U (cI ((e0 : Int)) (oMin rfl rfl) (by rw [he0]; exact if_cast (b := 1073741823))) rfl <| WD.U (oAs rfl) rfl ?_
 refine WD.nil (drawOk_of (by kernel_rfl)) rfl <| Ck [4,8,9,10,11,12,13] rfl <| WC.block <| WC.loopV (α := Nat) (fun e => [(4, .ref (0 + 2 + 3 + 4 + 9 + 11 + 3 + 4) 1 0 qs.length), (8, .v (.int .i64 (f : Int))), (9, .ref (0 + 2 + 3 + 4 + 9 + 2) 1 0 us.length), (10, .sl 1 (vs.map d64)), (11, .v (.int .i64 (vs.length : Int))), (12, .v (.int .i64 ((k : Int) - 1))), (13, .v (.int .i64 (e : Int)))]) (fun e => [((0 + 2 + 3 + 4 + 9 + 2), { cells := (us.map d64).flatten, sz := 1, elem := 3, st := 0 }), ((0 + 2 + 3 + 4 + 9 + 11 + 3 + 4), { cells := (qs.map d64).flatten, sz := 1, elem := 3, st := 0 })]) (fun e n => val 1073741824 (us.drop (k - 1)) / val 1073741824 vs ≤ e ∧ e < 1073741824 ∧ 36 ≤ n) (fun e => e) (e0) ⟨rfl, rfl, rfl, rfl, rfl, rfl, rfl, trivial⟩ ⟨g0, g1 (by decide) g0, trivial⟩ ⟨hst, he1, om⟩ ?_
 rintro e n hG
 change WC _ _ _ _ _ (_ :: _) (_ :: _) n _
 obtain ⟨hG1, hG2, hn31⟩ := hG
 refine WC.block1 ?_
 obtain ⟨r, hr, ps, rfl, hpd, hpv, hpl⟩ := nscaled_run 1 vs e hvd hG2 om
 refine Rg 4 rfl <| Um rfl rfl <| Um rfl rfl <| WO.U (oCall rfl (hr) (by simp)) rfl <| Ua rfl rfl <| Wn <| WC.assoc <| WC.draw (z := 14) rfl (by kernel_rfl) <| Dm rfl rfl <| WD.U (oCall rfl (ntrim_run 1 ps om om) (by simp)) rfl <| WD.U (oBs' (cs := []) (rows := []) rfl rfl (by decide) rfl rfl rfl) rfl <| Dm rfl rfl <| Dm rfl rfl <| Dm rfl rfl <| Dm rfl rfl <| WD.U (cI (((k - 1 + vs.length : Nat) : Int)) (oAdd64 rfl rfl om) om) rfl <| WD.U (cI (((k - 1 + vs.length + 1 : Nat) : Int)) (oAdd64 rfl rfl om) om) rfl <| WD.U (OP.cast (b := .ref (0 + 2 + 3 + 4 + 9 + 2) 1 (k - 1) (vs.length + 1)) (oSlR (i := k - 1) (j := k - 1 + vs.length + 1) rfl rfl rfl rfl rfl rfl om rfl om om) (by congr 1 <;> omega)) rfl <| WD.S (oAp2 (f := d64) (us := us) rfl rfl rfl rfl rfl (by decide) rfl (fun _ => rfl) g0 om om (by show (2 * (vs.length + 1) + 256) * 8 ≤ _; omega) om) rfl <| WD.S (oCallF [.sl 1 (((us.drop (k - 1)).take (vs.length + 1)).map d64)] [(n + 4 + 10, { cells := (((us.drop (k - 1)).take (vs.length + 1)).map d64).flatten, sz := 1, elem := 3, st := 1 })] rfl (ntrim_run 1 ((us.drop (k - 1)).take (vs.length + 1)) om om) (.own _ (by rw [List.length_map, hsl]) g0 (by show (0 : Nat) ≠ 2; decide) rfl (by decide) (by simp [keys]) rfl rows_d64 data_rows_d64 .nil) (by intro p hp; rw [List.mem_singleton] at hp; subst hp; exact ⟨_, g0, by show (0 : Nat) ≠ 2; decide, rfl⟩)) rfl <| WD.U (oCall rfl (ncompare_run _ _ (trim ps) (trim ((us.drop (k - 1)).take (vs.length + 1))) (trim_dg hpd) (trim_dg hsd) (trim_tr _) (trim_tr _) (trim_lt om) (trim_lt om)) (by simp)) rfl <| WD.U (oLeq rfl rfl) rfl <| WD.D (fun h106 => ?_) (fun h106 => ?_)
 rotate_left
 ·refine WD.nil (drawOk_of (by kernel_rfl)) rfl <| Ck [4,8,9,10,11,12,13,14,106] rfl <| WC.cF rfl <| WC.skips ?_
  have hdc := div_dec (R := val 1073741824 (us.drop (k - 1))) (V := val 1073741824 vs) (e := e) (by
   intro h
   rw [trim_val, trim_val, hpv, hsg] at h106
   rw [Nat.mul_comm] at h
   have h9 : ((val 1073741824 vs * e : Nat) : Int) - (val 1073741824 (us.drop (k - 1)) : Int) ≤ 0 := by omega
   rcases Int.lt_or_eq_of_le h9 with h10 | h10
   ·have := Int.sign_eq_neg_one_of_neg h10; omega
   ·rw [h10] at h106; exact h106 (by decide)) hG1
  refine WC.reg1z (z := 3) rfl <| Um rfl rfl <| WO.U (cI (((e - 1 : Nat) : Int)) (oSub64 rfl rfl om) om) rfl <| Ua rfl rfl <| Wn <| after0_normal <| loopR_normal <| ⟨e - 1, ⟨rfl, rfl, rfl, rfl, rfl, rfl, rfl, trivial⟩, ⟨g1 om (g1 om g0), g1 om (g1 om (g1 (by decide) g0)), trivial⟩, ⟨hdc.2, om, om⟩, by show e - 1 < e; omega⟩
 refine WD.nil (drawOk_of (by kernel_rfl)) rfl <| Ck [4,8,9,10,11,12,13,14,106] rfl <| WC.cT rfl <| WC.assoc ?_
 have hle : e * val 1073741824 vs ≤ val 1073741824 (us.drop (k - 1)) := by
  rw [trim_val, trim_val, hpv, hsg] at h106
  rcases Nat.lt_or_ge (val 1073741824 (us.drop (k - 1))) (e * val 1073741824 vs) with h | h
  ·rw [Nat.mul_comm] at h
   have := Int.sign_eq_one_of_pos (a := ((val 1073741824 vs * e : Nat) : Int) - (val 1073741824 (us.drop (k - 1)) : Int)) om
   omega
  ·exact h
 refine WC.regn (z := 10) rfl <| WN.U (oMv rfl) rfl <| WN.U (oMv rfl) rfl <| WN.U (oMv rfl) rfl <| WN.U (oMv rfl) rfl <| WN.U (cI (((k - 1 + vs.length : Nat) : Int)) (oAdd64 rfl rfl om) om) rfl <| WN.U (cI (((k - 1 + vs.length + 1 : Nat) : Int)) (oAdd64 rfl rfl om) om) rfl <| WN.U (OP.cast (b := .ref (0 + 2 + 3 + 4 + 9 + 2) 1 (k - 1) (vs.length + 1)) (oSlR (i := k - 1) (j := k - 1 + vs.length + 1) rfl rfl rfl rfl rfl rfl om rfl om om) (by congr 1 <;> omega)) rfl <| WN.U (oMv rfl) rfl <| WN.G (ls := [.ref (0 + 2 + 3 + 4 + 9 + 2) 1 (k - 1) (vs.length + 1), .sl 1 (ps.map d64)]) (Φ := fun r h' n' => ∃ r0 ds, r = .ref r0 1 0 ds.length ∧ h' = (r0, { cells := (ds.map d64).flatten, sz := 1, elem := 3, st := 0 }) :: [((0 + 2 + 3 + 4 + 9 + 2), { cells := (us.map d64).flatten, sz := 1, elem := 3, st := 0 }), ((0 + 2 + 3 + 4 + 9 + 11 + 3 + 4), { cells := (qs.map d64).flatten, sz := 1, elem := 3, st := 0 })] ∧ n + 4 + 14 + 10 ≤ r0 ∧ Dg 1073741824 ds ∧ val 1073741824 ds = val 1073741824 ((us.drop (k - 1)).take (vs.length + 1)) - val 1073741824 ps ∧ ds.length = vs.length + 1 ∧ n + 4 + 14 + 10 ≤ n') rfl Tryz.func121 rfl rfl (Nat.le_of_ble_eq_true rfl) rfl (by refine WC.weakM _ ?_ (ndiff_share (0 + 2 + 3 + 4 + 9 + 2) (k - 1) (vs.length + 1) (0 + 2 + 3 + 4 + 9 + 11 + 3 + 4) (n + 4 + 14 + 10) _ us 1 ((us.drop (k - 1)).take (vs.length + 1)) ps (by decide) om om hud om rfl hpd om (by rw [hpv, hsg, Nat.mul_comm]; exact hle) om om); exact ⟨g1 om (g1 om g0), g1 om (g1 om (g1 (by decide) g0)), trivial⟩) ?_
 rintro r' h' n' ⟨r0, ds, rfl, rfl, hr0, hdd, hdv, hdl, hn'⟩
 refine WN.U (oAs rfl) rfl <| WN.nil <| Ck [4,8,9,10,11,12,13,15] rfl <| WC.assoc <| Rg 5 rfl <| Um rfl rfl <| Um rfl rfl <| WO.U (OP.cast (b := .ref (0 + 2 + 3 + 4 + 9 + 2) 1 (k - 1) (us.length - (k - 1))) (oSlRl (i := k - 1) rfl rfl rfl rfl rfl om om) (by congr 1; omega)) rfl <| Um rfl rfl <| WO.S (oCopyR (f := d64) (us := us) (ds := ds) rfl rfl rfl rfl (by decide) rfl (fun _ => rfl) (g1 om g0) g0 om om) rfl <| Wn <| WC.exits <| after0_exitF rfl <| loopR_exit <| after_exit rfl ?_
 obtain ⟨hs4, hltF⟩ := div_done (V := val 1073741824 vs) (e := e) (ds := ds) (m := vs.length) (by decide) hV0 om hRB (by rw [hdv, hsg, hpv, Nat.mul_comm]) hdl hle hG1
 have hUF := long_next (qs := qs) (j := k - 1) om (by rw [show k - 1 + 1 = k by omega]; exact hU) hs4
 have hlF : (us.take (k - 1) ++ (ds ++ us.drop (k - 1 + ds.length))).length = us.length := by simp; omega
 have hdF : Dg 1073741824 (us.take (k - 1) ++ (ds ++ us.drop (k - 1 + ds.length))) := by
  intro d hd; rcases List.mem_append.1 hd with h | h
  ·exact hud.take _ d h
  ·rcases List.mem_append.1 h with h | h
   ·exact hdd d h
   ·exact hud.drop _ d h
 rw [← hdl] at hs4 hltF hUF
 refine WC.reg1z (z := 5) rfl <| Um rfl rfl <| Um rfl rfl <| Um rfl rfl <| WO.U (oIxR (j := k - 1) rfl rfl rfl rfl om om rfl) rfl <| WO.S0 (oStO (f := d64) (us := qs) e rfl rfl rfl (g1 (by decide) (g1 om (g1 (by decide) g0))) (fun _ => rfl) rfl rfl om rfl) <| Wn <| after_normal <| Ck [4,8,9,10,11,12] rfl <| WC.reg1z (z := 3) rfl <| Um rfl rfl <| WO.U (cI (((k - 1 : Nat) : Int) - 1) (oSub64 rfl rfl om) om) rfl <| Ua rfl rfl <| Wn <| loopR_normal <| ⟨⟨k - 1, (us.take (k - 1) ++ (ds ++ us.drop (k - 1 + ds.length))), qs.set (k - 1) e⟩, ⟨congrArg some (by rw [List.length_set]), rfl, congrArg some (by rw [hlF]), rfl, rfl, rfl, trivial⟩, ⟨g1 (by decide) g0, g0, trivial⟩, ⟨by rw [hlF]; omega, by rw [hlF]; exact hul, by rw [List.length_set]; exact hql0, hdF, hqd.set _ om, hUF, hltF, om⟩, by show k - 1 < k; omega⟩
end Go.Proofs.YthpnlndhebcngaaGreat
set_option linter.unusedVariables false
set_option linter.unusedSimpArgs false
set_option maxRecDepth 100000
set_option maxHeartbeats 4000000
namespace Go.Proofs.YthpnlndhebcngaaGreat
open Go.Ab Go.RowKit
theorem nplus_run (v w : Int) (hv : len30 v < 1099511627775) (hw : len30 w < 1099511627775) : Run Tryz.prog T E0 (.call 93 [lvN v, lvN w] (lvN (v + w))) := by
 obtain ⟨xs, hxs, dv, qv, tv, lxv⟩ := ns_of v
 obtain ⟨ys, hys, dw, qw, tw, lyw⟩ := ns_of w
 have bv := na_bd v
 have bw := na_bd w
 refine mkcall Tryz.func93 rfl rfl (Nat.le_of_ble_eq_true rfl) ?_
 have J3 : ∀  (n : Nat) , WC Tryz.prog T E0 Tryz.f93.ntmps (codeR (codeR (codeOf Tryz.f93))) [(2, .ptr 0 0), (3, .ptr 1 0), (4, .ptr 2 0)] [(2, { cells := [.v (.int .i64 0), .v (.bool false), .sl 0 []], sz := 3, elem := 96, st := 0 }), (1, { cells := (lvN w).cells, sz := 3, elem := 96, st := 0 }), (0, { cells := (lvN v).cells, sz := 3, elem := 96, st := 0 })] n (Post T Tryz.f93.results.toList (lvN (v + w))) := by
  intro  n
  refine WC.draw (z := 6) rfl (by kernel_rfl) <| WD.U (oLdP (l := .agg [_, _, _]) rfl rfl rfl rfl rfl) rfl <| WD.U (oCall rfl ((hxs ▸ nlist_run v)) (by simp)) rfl <| WD.U (oLdP (l := .agg [_, _, _]) rfl rfl rfl rfl rfl) rfl <| WD.U (oCall rfl ((hys ▸ nlist_run w)) (by simp)) rfl <| WD.U (oAs rfl) rfl <| WD.U (oAs rfl) rfl <| WD.nil (drawOk_of (by kernel_rfl)) rfl <| WC.draw (z := 8) rfl (by kernel_rfl) <| WD.U (oLdP (l := .agg [_, _, _]) rfl rfl rfl rfl rfl) rfl <| WD.U (oCall rfl (nsign_run _) (by simp)) rfl <| WD.U (OP.cast (b := .v (.bool (decide (v < 0)))) (oLss rfl rfl) (by rw [dec_sign])) rfl <| WD.U (oLdP (l := .agg [_, _, _]) rfl rfl rfl rfl rfl) rfl <| WD.U (oCall rfl (nsign_run _) (by simp)) rfl <| WD.U (OP.cast (b := .v (.bool (decide (w < 0)))) (oLss rfl rfl) (by rw [dec_sign])) rfl <| WD.U (oAs rfl) rfl <| WD.U (oAs rfl) rfl <| WD.nil (drawOk_of (by kernel_rfl)) rfl <| Ck [4,5,6,7,8] rfl <| WC.block <| Rg 4 rfl <| Um rfl rfl <| Um rfl rfl <| WO.U (oEqB rfl rfl rfl) rfl ?_
  refine WO.B (fun h38 => ?_) (fun h38 => ?_)
  ·refine Ua rfl rfl <| Wn <| WC.cT1 rfl ?_
   obtain ⟨r, hr, ds, rfl, hdd, hvl, hln⟩ := nsum_run (if xs.length = 0 then 0 else 1) (if ys.length = 0 then 0 else 1) xs ys qv qw om om
   refine Rg 6 rfl <| Um rfl rfl <| Um rfl rfl <| Um rfl rfl <| WO.U (oCall rfl (hr) (by simp)) rfl <| WO.U (oCall rfl (nmade_run (decide (v < 0)) _ ds kind_ok hdd om) (by simp)) rfl <| WO.S0 (oSt (cs' := [_, _, _]) rfl rfl rfl rfl rfl rfl rfl rfl) <| Wn <| WC.ret <| after_ret <| post (n := 0) (.inr rfl) rfl ?_ (by simp)
   rw [← plus_same h38, ← dv, ← dw, ← hvl]; rfl
  refine Ua rfl rfl <| Wn <| WC.cF1 rfl <| Rg 5 rfl <| Um rfl rfl <| Um rfl rfl <| WO.U (oCall rfl (ncompare_run _ _ xs ys qv qw tv tw om om) (by simp)) rfl <| WO.U (oGeq rfl rfl) rfl <| WO.D (fun h48 => ?_) (fun h48 => ?_)
  ·refine Ua rfl rfl <| Wn <| WC.cT1 rfl ?_
   have hge : val 1073741824 ys ≤ val 1073741824 xs := by
    rcases Nat.lt_or_ge (val 1073741824 xs) (val 1073741824 ys) with h | h
    ·have := Int.sign_eq_neg_one_of_neg (a := (val 1073741824 xs : Int) - val 1073741824 ys) om; omega
    ·exact h
   have hll : ys.length ≤ xs.length := by
    rcases Nat.lt_or_ge xs.length ys.length with h | h
    ·have := val_lt_len (by decide) qv tw h; omega
    ·exact h
   obtain ⟨r, hr, ds, rfl, hdd, hvl, hln⟩ := ndiff_run (if xs.length = 0 then 0 else 1) (if ys.length = 0 then 0 else 1) xs ys qv qw om hll hge
   refine Rg 6 rfl <| Um rfl rfl <| Um rfl rfl <| Um rfl rfl <| WO.U (oCall rfl (hr) (by simp)) rfl <| WO.U (oCall rfl (nmade_run (decide (v < 0)) _ ds kind_ok hdd om) (by simp)) rfl <| WO.S0 (oSt (cs' := [_, _, _]) rfl rfl rfl rfl rfl rfl rfl rfl) <| Nk [4] rfl <| WC.ret <| after_ret <| post (n := 0) (.inr rfl) rfl ?_ (by simp)
   rw [← plus_diff h38 om, ← dv, ← dw, ← hvl]; rfl
  refine Ua rfl rfl <| Wn <| WC.cF1 rfl <| WC.skip <| after_normal ?_
  have hge : val 1073741824 xs ≤ val 1073741824 ys := by
   rcases Nat.lt_or_ge (val 1073741824 ys) (val 1073741824 xs) with h | h
   ·have := Int.sign_eq_one_of_pos (a := (val 1073741824 xs : Int) - val 1073741824 ys) om; omega
   ·exact h
  have hll : xs.length ≤ ys.length := by
   rcases Nat.lt_or_ge ys.length xs.length with h | h
   ·have := val_lt_len (by decide) qw tv h; omega
   ·exact h
  obtain ⟨r, hr, ds, rfl, hdd, hvl, hln⟩ := ndiff_run (if ys.length = 0 then 0 else 1) (if xs.length = 0 then 0 else 1) ys xs qw qv om hll hge
  refine Rg 6 rfl <| Um rfl rfl <| Um rfl rfl <| Um rfl rfl <| WO.U (oCall rfl (hr) (by simp)) rfl <| WO.U (oCall rfl (nmade_run (decide (w < 0)) _ ds kind_ok hdd om) (by simp)) rfl <| WO.S0 (oSt (cs' := [_, _, _]) rfl rfl rfl rfl rfl rfl rfl rfl) <| Nk [4] rfl <| WC.ret <| post (n := 0) (.inr rfl) rfl ?_ (by simp)
  rw [← plus_diff' h38 om, ← dv, ← dw, ← hvl]; rfl
 refine Rg 3 rfl <| WO.S (oBx rfl rfl) rfl <| WO.S (oBx rfl rfl) rfl <| WO.S (oAl rfl) rfl <| Wn <| WC.assoc <| Rg 10 rfl <| WO.U (oFaP rfl rfl rfl rfl rfl) rfl <| WO.U (oLdP rfl rfl rfl rfl rfl) rfl <| WO.U (oLenM rfl rfl) rfl <| WO.U (oEql rfl rfl) rfl <| WO.D (fun h12 => ?_) (fun h12 => ?_)
 rotate_left
 ·refine Um rfl rfl <| K1 rfl rfl <| K1 rfl rfl <| K1 rfl rfl <| K1 rfl rfl <| WO.U (oPkF rfl rfl) rfl <| Nk [2,3,4,18] rfl <| WC.cF rfl <| WC.skips <| Ck [2,3,4] rfl ?_
  exact J3 _
 refine Um rfl rfl <| WO.Ug rfl (oFaP rfl rfl rfl rfl rfl) rfl <| WO.Ug rfl (oLdP rfl rfl rfl rfl rfl) rfl <| WO.Ug rfl (oLenM rfl rfl) rfl <| WO.Ug rfl (oEql rfl rfl) rfl <| WO.D (fun h17 => ?_) (fun h17 => ?_)
 rotate_left
 ·refine WO.U (oPkT rfl rfl) rfl <| Nk [2,3,4,18] rfl <| WC.cF rfl <| WC.skips <| Ck [2,3,4] rfl ?_
  exact J3 _
 refine WO.U (oPkT rfl rfl) rfl <| Nk [2,3,4,18] rfl <| WC.cT rfl <| WC.assoc ?_
 have h1 := na_small (ndg_len.1 h12)
 have h2 := na_small (ndg_len.1 h17)
 refine Rg 7 rfl <| WO.U (oFaP rfl rfl rfl rfl rfl) rfl <| WO.U (cI v (oLdP rfl rfl rfl rfl rfl) h1) rfl <| WO.U (oFaP rfl rfl rfl rfl rfl) rfl <| WO.U (cI w (oLdP rfl rfl rfl rfl rfl) h2) rfl <| WO.U (oAdd64 rfl rfl om) rfl <| WO.U (oCall rfl (nof_run _ (by unfold I64; omega)) (by simp)) rfl <| WO.S0 (oSt (cs' := [_, _, _]) rfl rfl rfl rfl rfl rfl rfl rfl) <| Wn <| WC.rets <| post (n := 0) (.inr rfl) rfl ?_ (by simp)
 rfl
theorem ntimes_run (v w : Int) (hv : len30 v < 549755813888) (hw : len30 w < 549755813888) : Run Tryz.prog T E0 (.call 92 [lvN v, lvN w] (lvN (v * w))) := by
 obtain ⟨xs, hxs, dv, qv, tv, lxv⟩ := ns_of v
 obtain ⟨ys, hys, dw, qw, tw, lyw⟩ := ns_of w
 have bv := na_bd v
 have bw := na_bd w
 refine mkcall Tryz.func92 rfl rfl (Nat.le_of_ble_eq_true rfl) ?_
 have J3 : ∀  (n : Nat) (hn : 3 ≤ n), WC Tryz.prog T E0 Tryz.f92.ntmps (codeR (codeR (codeOf Tryz.f92))) [(2, .ptr 0 0), (3, .ptr 1 0), (4, .ptr 2 0)] [(2, { cells := [.v (.int .i64 0), .v (.bool false), .sl 0 []], sz := 3, elem := 96, st := 0 }), (1, { cells := (lvN w).cells, sz := 3, elem := 96, st := 0 }), (0, { cells := (lvN v).cells, sz := 3, elem := 96, st := 0 })] n (Post T Tryz.f92.results.toList (lvN (v * w))) := by
  intro  n hn
  refine WC.draw (z := 6) rfl (by kernel_rfl) <| WD.U (oLdP (l := .agg [_, _, _]) rfl rfl rfl rfl rfl) rfl <| WD.U (oCall rfl ((hxs ▸ nlist_run v)) (by simp)) rfl <| WD.U (oLdP (l := .agg [_, _, _]) rfl rfl rfl rfl rfl) rfl <| WD.U (oCall rfl ((hys ▸ nlist_run w)) (by simp)) rfl <| WD.U (oAs rfl) rfl <| WD.U (oAs rfl) rfl <| WD.nil (drawOk_of (by kernel_rfl)) rfl <| Rg 7 rfl <| Um rfl rfl <| WO.U (oLenM rfl rfl) rfl <| Um rfl rfl <| WO.U (oLenM rfl rfl) rfl <| WO.U (oAdd64 rfl rfl om) rfl <| WO.S (oMk (a := xs.length + ys.length) (b := xs.length + ys.length) rfl rfl rfl rfl om om (by decide) om (by show 8 * (xs.length + ys.length) ≤ _; omega) om) rfl <| Ua rfl rfl <| Nk [2,3,4,5,6,7] rfl <| WC.assoc <| Rg 3 rfl <| Um rfl rfl <| WO.U (oLenM rfl rfl) rfl <| Um rfl rfl <| WO.nil ?_
  refine WC.block <| WC.loopV (α := Nat × Nat × (List Nat)) (fun ⟨i, q, us⟩ => [(2, .ptr 0 0), (3, .ptr 1 0), (4, .ptr 2 0), (5, .sl (if xs.length = 0 then 0 else 1) (xs.map d64)), (6, .sl (if ys.length = 0 then 0 else 1) (ys.map d64)), (7, .ref q 1 0 us.length), (58, .v (.int .i64 (xs.length : Int))), (59, .v (.int .i64 (i : Int)))]) (fun ⟨i, q, us⟩ => [(q, { cells := (us.map d64).flatten, sz := 1, elem := 3, st := 0 }), (2, { cells := [.v (.int .i64 0), .v (.bool false), .sl 0 []], sz := 3, elem := 96, st := 0 }), (1, { cells := (lvN w).cells, sz := 3, elem := 96, st := 0 }), (0, { cells := (lvN v).cells, sz := 3, elem := 96, st := 0 })]) (fun ⟨i, q, us⟩ n => i ≤ xs.length ∧ us.length = xs.length + ys.length ∧ Dg 1073741824 us ∧ val 1073741824 us = val 1073741824 (xs.take i) * val 1073741824 ys ∧ (∀ j, i + ys.length ≤ j → us.getD j default = 0) ∧ 2 < q) (fun ⟨i, q, us⟩ => xs.length - i) (0, n + 6 + 5, List.replicate (xs.length + ys.length) 0) ⟨rfl, rfl, rfl, rfl, rfl, congrArg some (by rw [List.length_replicate]; rfl), rfl, rfl, trivial⟩ ⟨g0.trans (by rw [List.map_replicate]; rfl), g1 om g0, g1 om (g1 (by decide) g0), g1 om (g1 (by decide) (g1 (by decide) g0)), trivial⟩ ⟨Nat.zero_le _, by simp, by intro d hd; simp at hd; rw [hd.2]; decide, by rw [val_zeros]; simp [val], by intro j _; exact getD_zeros _ _, om⟩ ?_
  rintro ⟨i, q, us⟩ n hF
  change WC _ _ _ _ _ (_ :: _) (_ :: _) n _
  obtain ⟨hi, hul, hud, huv, huz, hq⟩ := hF
  refine Rg 1 rfl <| WO.U (oLss rfl rfl) rfl <| WO.D (fun h60 => ?_) (fun h60 => ?_)
  rotate_left
  ·refine Wn <| WC.cF rfl <| WC.exits <| loopR_exit <| after_exit rfl ?_
   obtain ⟨q', rfl⟩ : ∃ q', q = q' + 3 := ⟨q - 3, om⟩
   have hE : val 1073741824 us = v.natAbs * w.natAbs := by
    rw [huv, List.take_of_length_le om, dv, dw]
   refine WC.draw (z := 8) rfl (by kernel_rfl) <| WD.U (oLdP (l := .agg [_, _, _]) rfl rfl (g1 om (g1 (by decide) (g1 (by decide) g0))) rfl rfl) rfl <| WD.U (oCall rfl (nsign_run _) (by simp)) rfl <| WD.U (oLdP (l := .agg [_, _, _]) rfl rfl (g1 om (g1 (by decide) g0)) rfl rfl) rfl <| WD.U (oCall rfl (nsign_run _) (by simp)) rfl <| WD.U (oNeq rfl rfl) rfl <| Dm rfl rfl <| WD.S (oCallF [.v (.bool (decide (v.sign ≠ w.sign))), .sl 1 (us.map d64)] [(q' + 3, { cells := (us.map d64).flatten, sz := 1, elem := 3, st := 1 })] rfl (nmade_run (decide (v.sign ≠ w.sign)) 1 us (.inl rfl) hud om) (.data (by simp) (.own _ (by simp) g0 (by show (0 : Nat) ≠ 2; decide) rfl (by decide) (by simp [keys]) rfl rows_d64 data_rows_d64 .nil)) (by intro p hp; rw [List.mem_singleton] at hp; subst hp; exact ⟨_, g0, by show (0 : Nat) ≠ 2; decide, rfl⟩)) rfl <| WD.S0 (oSt (cs' := [_, _, _]) rfl rfl rfl (g1 om (g1 om g0)) rfl rfl rfl rfl) <| WD.nil (drawOk_of (by kernel_rfl)) rfl <| Ck [4] rfl <| WC.ret <| post (n := 0) (.inr rfl) rfl ?_ (by simp)
   have e1 : (if decide (v.sign ≠ w.sign) = true then -((val 1073741824 us : Nat) : Int) else ((val 1073741824 us : Nat) : Int)) = v * w := by
    rw [made_mul (by intro h; rw [hE]; rcases h with h | h <;> rw [h] <;> simp), hE, Int.natCast_mul]
    have h1 := sign_mul_abs v
    have h2 := sign_mul_abs w
    grind
   rw [← e1]; rfl
  refine Wn <| WC.cT rfl <| WC.skips <| WC.block <| Rg 2 rfl <| Um rfl rfl <| Ua rfl rfl <| Wn <| Rg 1 rfl <| Ua rfl rfl <| Wn <| WC.assoc <| Rg 3 rfl <| Um rfl rfl <| WO.U (oLenM rfl rfl) rfl <| Um rfl rfl <| Nk [2,3,4,5,6,7,8,9,58,59,63,64] rfl <| WC.block <| WC.loopV (α := Nat × Nat × (List Nat)) (fun ⟨k, c, us1⟩ => [(2, .ptr 0 0), (3, .ptr 1 0), (4, .ptr 2 0), (5, .sl (if xs.length = 0 then 0 else 1) (xs.map d64)), (6, .sl (if ys.length = 0 then 0 else 1) (ys.map d64)), (7, .ref q 1 0 us1.length), (8, .v (.int .i64 (i : Int))), (9, .v (.int .i64 (c : Int))), (58, .v (.int .i64 (xs.length : Int))), (59, .v (.int .i64 (i : Int))), (63, .v (.int .i64 (ys.length : Int))), (64, .v (.int .i64 (k : Int)))]) (fun ⟨k, c, us1⟩ => [(q, { cells := (us1.map d64).flatten, sz := 1, elem := 3, st := 0 }), (2, { cells := [.v (.int .i64 0), .v (.bool false), .sl 0 []], sz := 3, elem := 96, st := 0 }), (1, { cells := (lvN w).cells, sz := 3, elem := 96, st := 0 }), (0, { cells := (lvN v).cells, sz := 3, elem := 96, st := 0 })]) (fun ⟨k, c, us1⟩ n => k ≤ ys.length ∧ us1.length = us.length ∧ Dg 1073741824 us1 ∧ c < 1073741824 ∧ val 1073741824 us1 + 1073741824 ^ (i + k) * c = val 1073741824 us + 1073741824 ^ i * (xs.getD i default * val 1073741824 (ys.take k)) ∧ (∀ j, i + k ≤ j → us1.getD j default = us.getD j default)) (fun ⟨k, c, us1⟩ => ys.length - k) (0, 0, us) ⟨rfl, rfl, rfl, rfl, rfl, rfl, rfl, rfl, rfl, rfl, rfl, rfl, trivial⟩ ⟨g0, g1 om g0, g1 om (g1 (by decide) g0), g1 om (g1 (by decide) (g1 (by decide) g0)), trivial⟩ ⟨Nat.zero_le _, rfl, hud, by decide, by simp [val], fun _ _ => rfl⟩ ?_
  rintro ⟨k, c, us1⟩ n hG
  change WC _ _ _ _ _ (_ :: _) (_ :: _) n _
  obtain ⟨hk, hl1, hd1, hc1, hv1, hz1⟩ := hG
  refine Rg 1 rfl <| WO.U (oLss rfl rfl) rfl <| WO.D (fun h65 => ?_) (fun h65 => ?_)
  rotate_left
  ·refine Wn <| WC.cF rfl <| WC.exits <| loopR_exit <| after_exit rfl <| WC.reg1z (z := 8) rfl <| Um rfl rfl <| Um rfl rfl <| Um rfl rfl <| WO.U (oLenM rfl rfl) rfl <| WO.U (cI (((i + ys.length : Nat) : Int)) (oAdd64 rfl rfl om) om) rfl <| Um rfl rfl <| WO.U (oIxR rfl rfl rfl rfl rfl om rfl) rfl <| WO.S0 (oStO (f := d64) (us := us1) c rfl rfl rfl g0 (fun _ => rfl) rfl rfl om rfl) <| Wn <| after_normal <| Ck [2,3,4,5,6,7,58,59] rfl <| WC.reg1z (z := 2) rfl <| WO.U (cI (((i + 1 : Nat) : Int)) (oAdd64 rfl rfl om) om) rfl <| Um rfl rfl <| Wn <| loopR_normal <| ⟨⟨i + 1, q, us1.set (i + ys.length) c⟩, ⟨rfl, rfl, rfl, rfl, rfl, congrArg some (by rw [List.length_set]), rfl, rfl, trivial⟩, ⟨g0, g1 om (g1 om g0), g1 om (g1 om (g1 (by decide) g0)), g1 om (g1 om (g1 (by decide) (g1 (by decide) g0))), trivial⟩, ⟨om, by rw [List.length_set]; omega, hd1.set _ hc1, ?_, ?_, hq⟩, by show xs.length - (i + 1) < xs.length - i; omega⟩
   ·have hk' : k = ys.length := by omega
    subst hk'
    have h1 := val_set (B := 1073741824) us1 (i + ys.length) c om
    rw [hz1 _ (Nat.le_refl _), huz _ (Nat.le_refl _), Nat.mul_zero, Nat.add_zero] at h1
    rw [h1, hv1, huv, take_succ_val, List.take_of_length_le (Nat.le_refl _), Nat.add_mul, Nat.mul_assoc]
   ·intro j hj
    rw [lgetD_set om, hz1 j om]; exact huz j om
  refine Wn <| WC.cT rfl <| WC.skips <| WC.block <| Rg 2 rfl <| Um rfl rfl <| Ua rfl rfl <| Nk [2,3,4,5,6,7,8,9,10,58,59,63,64] rfl ?_
  have hp : xs.getD i default < 1073741824 := getD_lt qv om
  have hqk : ys.getD k default < 1073741824 := getD_lt qw om
  have ho : us1.getD (i + k) default < 1073741824 := getD_lt hd1 om
  have hpq := mul30 hp hqk
  refine WC.draw (z := 19) rfl (by kernel_rfl) <| Dm rfl rfl <| Dm rfl rfl <| Dm rfl rfl <| Dm rfl rfl <| WD.U (cI (((i + k : Nat) : Int)) (oAdd64 rfl rfl om) om) rfl <| WD.U (oIxR rfl rfl rfl rfl rfl om rfl) rfl <| WD.U (oLdO (f := d64) (us := us1) (j := i + k) rfl rfl g0 (fun _ => rfl) rfl (by decide) om rfl) rfl <| Dm rfl rfl <| Dm rfl rfl <| WD.U (oIxM rfl rfl rfl rfl rfl om rfl) rfl <| WD.U (oLd rfl rfl rfl) rfl <| Dm rfl rfl <| Dm rfl rfl <| WD.U (oIxM rfl rfl rfl rfl rfl om rfl) rfl <| WD.U (oLd rfl rfl rfl) rfl <| WD.U (cI (((xs.getD i default * ys.getD k default : Nat) : Int)) (oMul64 rfl rfl (by rw [← Int.natCast_mul]; omega)) (by simp)) rfl <| WD.U (cI (((xs.getD i default * ys.getD k default + us1.getD (i + k) default : Nat) : Int)) (oAdd64 rfl rfl om) om) rfl <| WD.U (cI ((((c + (xs.getD i default * ys.getD k default + us1.getD (i + k) default)) : Nat) : Int)) (oAdd64 rfl rfl om) om) rfl <| WD.U (oAs rfl) rfl <| WD.nil (drawOk_of (by kernel_rfl)) rfl <| Ck [2,3,4,5,6,7,8,9,10,58,59,63,64] rfl <| Rg 8 rfl <| Um rfl rfl ?_
  refine Um rfl rfl <| Um rfl rfl <| WO.U (cI (((i + k : Nat) : Int)) (oAdd64 rfl rfl om) om) rfl <| Um rfl rfl <| WO.U (oRemN (a := (c + (xs.getD i default * ys.getD k default + us1.getD (i + k) default))) (b := 1073741824) rfl rfl (by decide)) rfl <| WO.U (oIxR rfl rfl rfl rfl rfl om rfl) rfl <| WO.S0 (oStO (f := d64) (us := us1) ((c + (xs.getD i default * ys.getD k default + us1.getD (i + k) default)) % 1073741824) rfl rfl rfl g0 (fun _ => rfl) rfl rfl om rfl) <| Nk [2,3,4,5,6,7,8,9,58,59,63,64] rfl <| WC.reg1z (z := 3) rfl <| Um rfl rfl <| WO.U (oQuoN (a := (c + (xs.getD i default * ys.getD k default + us1.getD (i + k) default))) (b := 1073741824) rfl rfl (by decide) om) rfl <| Ua rfl rfl <| Wn <| after_normal <| WC.reg1z (z := 2) rfl <| WO.U (cI (((k + 1 : Nat) : Int)) (oAdd64 rfl rfl om) om) rfl <| Um rfl rfl <| Wn <| loopR_normal <| ⟨⟨k + 1, (c + (xs.getD i default * ys.getD k default + us1.getD (i + k) default)) / 1073741824, us1.set (i + k) ((c + (xs.getD i default * ys.getD k default + us1.getD (i + k) default)) % 1073741824)⟩, ⟨rfl, rfl, rfl, rfl, rfl, congrArg some (by rw [List.length_set]), rfl, rfl, rfl, rfl, rfl, rfl, trivial⟩, ⟨g0, g1 om (g1 om g0), g1 om (g1 om (g1 (by decide) g0)), g1 om (g1 om (g1 (by decide) (g1 (by decide) g0))), trivial⟩, ⟨om, by rw [List.length_set]; exact hl1, hd1.set _ (Nat.mod_lt _ (by decide)), om, mul_step hv1 om, ?_⟩, by show ys.length - (k + 1) < ys.length - k; omega⟩
  intro j hj
  rw [lgetD_set om]; exact hz1 j om
 refine Rg 3 rfl <| WO.S (oBx rfl rfl) rfl <| WO.S (oBx rfl rfl) rfl <| WO.S (oAl rfl) rfl <| Wn <| WC.assoc <| Rg 30 rfl <| WO.U (oFaP rfl rfl rfl rfl rfl) rfl <| WO.U (oLdP rfl rfl rfl rfl rfl) rfl <| WO.U (oLenM rfl rfl) rfl <| WO.U (oEql rfl rfl) rfl <| WO.D (fun h14 => ?_) (fun h14 => ?_)
 rotate_left
 ·refine Um rfl rfl <| K1 rfl rfl <| K1 rfl rfl <| K1 rfl rfl <| K1 rfl rfl <| WO.U (oPkF rfl rfl) rfl <| Um rfl rfl <| K1 rfl rfl <| K1 rfl rfl <| K1 rfl rfl <| WO.U (oPkF rfl rfl) rfl <| Um rfl rfl <| K1 rfl rfl <| K1 rfl rfl <| K1 rfl rfl <| WO.U (oPkF rfl rfl) rfl <| Um rfl rfl <| K1 rfl rfl <| K1 rfl rfl <| K1 rfl rfl <| WO.U (oPkF rfl rfl) rfl <| Um rfl rfl <| K1 rfl rfl <| K1 rfl rfl ?_
  refine K1 rfl rfl <| WO.U (oPkF rfl rfl) rfl <| Nk [2,3,4,40] rfl <| WC.cF rfl <| WC.skips <| Ck [2,3,4] rfl ?_
  exact J3 _ om
 refine Um rfl rfl <| WO.Ug rfl (oFaP rfl rfl rfl rfl rfl) rfl <| WO.Ug rfl (oLdP rfl rfl rfl rfl rfl) rfl <| WO.Ug rfl (oLenM rfl rfl) rfl <| WO.Ug rfl (oEql rfl rfl) rfl <| WO.D (fun h19 => ?_) (fun h19 => ?_)
 rotate_left
 ·refine WO.U (oPkT rfl rfl) rfl <| Um rfl rfl <| K1 rfl rfl <| K1 rfl rfl <| K1 rfl rfl <| WO.U (oPkF rfl rfl) rfl <| Um rfl rfl <| K1 rfl rfl <| K1 rfl rfl <| K1 rfl rfl <| WO.U (oPkF rfl rfl) rfl <| Um rfl rfl <| K1 rfl rfl <| K1 rfl rfl <| K1 rfl rfl <| WO.U (oPkF rfl rfl) rfl <| Um rfl rfl <| K1 rfl rfl <| K1 rfl rfl <| K1 rfl rfl <| WO.U (oPkF rfl rfl) rfl <| Nk [2,3,4,40] rfl <| WC.cF rfl ?_
  refine WC.skips <| Ck [2,3,4] rfl ?_
  exact J3 _ om
 refine WO.U (oPkT rfl rfl) rfl <| Um rfl rfl <| WO.Ug rfl (oFaP rfl rfl rfl rfl rfl) rfl <| WO.Ug rfl (oLdP rfl rfl rfl rfl rfl) rfl <| WO.Ug rfl (oGtr rfl rfl) rfl <| WO.D (fun h24 => ?_) (fun h24 => ?_)
 rotate_left
 ·refine WO.U (oPkT rfl rfl) rfl <| Um rfl rfl <| K1 rfl rfl <| K1 rfl rfl <| K1 rfl rfl <| WO.U (oPkF rfl rfl) rfl <| Um rfl rfl <| K1 rfl rfl <| K1 rfl rfl <| K1 rfl rfl <| WO.U (oPkF rfl rfl) rfl <| Um rfl rfl <| K1 rfl rfl <| K1 rfl rfl <| K1 rfl rfl <| WO.U (oPkF rfl rfl) rfl <| Nk [2,3,4,40] rfl <| WC.cF rfl <| WC.skips <| Ck [2,3,4] rfl ?_
  exact J3 _ om
 refine WO.U (oPkT rfl rfl) rfl <| Um rfl rfl <| WO.Ug rfl (oFaP rfl rfl rfl rfl rfl) rfl <| WO.Ug rfl (oLdP rfl rfl rfl rfl rfl) rfl <| WO.Ug rfl (oLss rfl rfl) rfl <| WO.D (fun h29 => ?_) (fun h29 => ?_)
 rotate_left
 ·refine WO.U (oPkT rfl rfl) rfl <| Um rfl rfl <| K1 rfl rfl <| K1 rfl rfl <| K1 rfl rfl <| WO.U (oPkF rfl rfl) rfl <| Um rfl rfl <| K1 rfl rfl <| K1 rfl rfl <| K1 rfl rfl <| WO.U (oPkF rfl rfl) rfl <| Nk [2,3,4,40] rfl <| WC.cF rfl <| WC.skips <| Ck [2,3,4] rfl ?_
  exact J3 _ om
 refine WO.U (oPkT rfl rfl) rfl <| Um rfl rfl <| WO.Ug rfl (oFaP rfl rfl rfl rfl rfl) rfl <| WO.Ug rfl (oLdP rfl rfl rfl rfl rfl) rfl <| WO.Ug rfl (oGtr rfl rfl) rfl <| WO.D (fun h34 => ?_) (fun h34 => ?_)
 rotate_left
 ·refine WO.U (oPkT rfl rfl) rfl <| Um rfl rfl <| K1 rfl rfl <| K1 rfl rfl <| K1 rfl rfl <| WO.U (oPkF rfl rfl) rfl <| Nk [2,3,4,40] rfl <| WC.cF rfl <| WC.skips <| Ck [2,3,4] rfl ?_
  exact J3 _ om
 refine WO.U (oPkT rfl rfl) rfl <| Um rfl rfl <| WO.Ug rfl (oFaP rfl rfl rfl rfl rfl) rfl <| WO.Ug rfl (oLdP rfl rfl rfl rfl rfl) rfl <| WO.Ug rfl (oLss rfl rfl) rfl <| WO.D (fun h39 => ?_) (fun h39 => ?_)
 rotate_left
 ·refine WO.U (oPkT rfl rfl) rfl <| Nk [2,3,4,40] rfl <| WC.cF rfl <| WC.skips <| Ck [2,3,4] rfl ?_
  exact J3 _ om
 refine WO.U (oPkT rfl rfl) rfl <| Nk [2,3,4,40] rfl <| WC.cT rfl <| WC.assoc ?_
 have h1 := na_small (ndg_len.1 h14)
 have h2 := na_small (ndg_len.1 h19)
 have h3 := prod_small (v := v) (w := w) om om
 refine Rg 7 rfl <| WO.U (oFaP rfl rfl rfl rfl rfl) rfl <| WO.U (cI v (oLdP rfl rfl rfl rfl rfl) h1) rfl <| WO.U (oFaP rfl rfl rfl rfl rfl) rfl <| WO.U (cI w (oLdP rfl rfl rfl rfl rfl) h2) rfl <| WO.U (oMul64 rfl rfl om) rfl <| WO.U (oBd (cs := [_, _, _]) rfl rfl rfl rfl rfl) rfl <| WO.S0 (oSt (cs' := [_, _, _]) rfl rfl rfl rfl rfl rfl rfl rfl) <| Wn <| WC.rets <| post (n := 0) (.inr rfl) rfl ?_ (by simp)
 rw [lvN_small (v := v * w) (by unfold smallN; omega)]; rfl
theorem nover_run (v w : Int) (hw0 : w ≠ 0) (hv : len30 v < 549755813888) (hw : len30 w < 549755813888) : Run Tryz.prog T E0 (.call 113 [lvN v, lvN w] (.tup [lvN (v.tdiv w), lvN (v.tmod w)])) := by
 obtain ⟨xs, hxs, dv, qv, tv, lxv⟩ := ns_of v
 obtain ⟨ys, hys, dw, qw, tw, lyw⟩ := ns_of w
 have bv := na_bd v
 have bw := na_bd w
 refine mkcall Tryz.func113 rfl rfl (Nat.le_of_ble_eq_true rfl) ?_
 have J3 : ∀  (n : Nat) , WC Tryz.prog T E0 Tryz.f113.ntmps (codeR (codeR (codeOf Tryz.f113))) [(2, .ptr 0 0), (3, .ptr 1 0), (4, .ptr 2 0), (5, .ptr 3 0)] [(3, { cells := [.v (.int .i64 0), .v (.bool false), .sl 0 []], sz := 3, elem := 96, st := 0 }), (2, { cells := [.v (.int .i64 0), .v (.bool false), .sl 0 []], sz := 3, elem := 96, st := 0 }), (1, { cells := (lvN w).cells, sz := 3, elem := 96, st := 0 }), (0, { cells := (lvN v).cells, sz := 3, elem := 96, st := 0 })] n (Post T Tryz.f113.results.toList (.tup [lvN (v.tdiv w), lvN (v.tmod w)])) := by
  intro  n
  have hy1 : 1 ≤ ys.length := by
   rcases Nat.eq_zero_or_pos ys.length with h | h
   ·rw [List.length_eq_zero_iff.1 h] at dw; simp [val] at dw; omega
   ·exact h
  obtain ⟨r, hr, k3, qs, k4, rs, rfl, hk3, hk4, hqd, hrd, hval, hrest, hql, hrl⟩ := ndivided_run (if xs.length = 0 then 0 else 1) (if ys.length = 0 then 0 else 1) xs ys kind_ok qv qw tv tw hy1 om om
  obtain ⟨hq1, hq2⟩ := quo_law (v := v) (w := w) (q := val 1073741824 qs) (r := val 1073741824 rs) (by rw [← dw, ← dv]; exact hval) (by rw [← dw]; exact hrest)
  have hz : v = 0 → val 1073741824 qs = 0 ∧ val 1073741824 rs = 0 := by
   intro h
   rw [dv, h] at hval
   have hy0 : 0 < val 1073741824 ys := by omega
   have h2 : val 1073741824 qs * val 1073741824 ys = 0 := by simp at hval; omega
   rcases Nat.mul_eq_zero.1 h2 with h3 | h3
   ·simp at hval; omega
   ·omega
  refine WC.draw (z := 10) rfl (by kernel_rfl) <| WD.U (oLdP (l := .agg [_, _, _]) rfl rfl rfl rfl rfl) rfl <| WD.U (oCall rfl ((hxs ▸ nlist_run v)) (by simp)) rfl <| WD.U (oLdP (l := .agg [_, _, _]) rfl rfl rfl rfl rfl) rfl <| WD.U (oCall rfl ((hys ▸ nlist_run w)) (by simp)) rfl <| WD.U (oCall rfl (hr) (by simp)) rfl <| Dm rfl rfl <| WD.U (oEx rfl rfl) rfl <| WD.U (oEx rfl rfl) rfl <| WD.U (oAs rfl) rfl <| WD.U (oAs rfl) rfl <| WD.nil (drawOk_of (by kernel_rfl)) rfl <| WC.draw (z := 14) rfl (by kernel_rfl) <| WD.U (oLdP (l := .agg [_, _, _]) rfl rfl rfl rfl rfl) rfl <| WD.U (oCall rfl (nsign_run _) (by simp)) rfl <| WD.U (oLdP (l := .agg [_, _, _]) rfl rfl rfl rfl rfl) rfl <| WD.U (oCall rfl (nsign_run _) (by simp)) rfl <| WD.U (oNeq rfl rfl) rfl <| Dm rfl rfl <| WD.U (oCall rfl (nmade_run (decide (v.sign ≠ w.sign)) k3 qs hk3 hqd om) (by simp)) rfl <| WD.U (oLdP (l := .agg [_, _, _]) rfl rfl rfl rfl rfl) rfl <| WD.U (oCall rfl (nsign_run _) (by simp)) rfl <| WD.U (OP.cast (b := .v (.bool (decide (v < 0)))) (oLss rfl rfl) (by rw [dec_sign])) rfl <| Dm rfl rfl ?_
  refine WD.U (oCall rfl (nmade_run (decide (v < 0)) k4 rs hk4 hrd om) (by simp)) rfl <| WD.S0 (oSt (cs' := [_, _, _]) rfl rfl rfl rfl rfl rfl rfl rfl) <| WD.S0 (oSt (cs' := [_, _, _]) rfl rfl rfl rfl rfl rfl rfl rfl) <| WD.nil (drawOk_of (by kernel_rfl)) rfl <| Ck [4,5] rfl <| WC.ret <| post (n := 0) (.inr rfl) rfl ?_ (by simp)
  rw [hq1, hq2, ← made_quo (fun h => (hz h).1) hw0, ← made_sg (fun h => (hz h).2)]; rfl
 refine Rg 4 rfl <| WO.S (oBx rfl rfl) rfl <| WO.S (oBx rfl rfl) rfl <| WO.S (oAl rfl) rfl <| WO.S (oAl rfl) rfl <| Wn <| WC.assoc <| Rg 10 rfl <| WO.U (oFaP rfl rfl rfl rfl rfl) rfl <| WO.U (oLdP rfl rfl rfl rfl rfl) rfl <| WO.U (oLenM rfl rfl) rfl <| WO.U (oEql rfl rfl) rfl <| WO.D (fun h11 => ?_) (fun h11 => ?_)
 rotate_left
 ·refine Um rfl rfl <| K1 rfl rfl <| K1 rfl rfl <| K1 rfl rfl <| K1 rfl rfl <| WO.U (oPkF rfl rfl) rfl <| Nk [2,3,4,5,17] rfl <| WC.cF rfl <| WC.skips <| Ck [2,3,4,5] rfl ?_
  exact J3 _
 refine Um rfl rfl <| WO.Ug rfl (oFaP rfl rfl rfl rfl rfl) rfl <| WO.Ug rfl (oLdP rfl rfl rfl rfl rfl) rfl <| WO.Ug rfl (oLenM rfl rfl) rfl <| WO.Ug rfl (oEql rfl rfl) rfl <| WO.D (fun h16 => ?_) (fun h16 => ?_)
 rotate_left
 ·refine WO.U (oPkT rfl rfl) rfl <| Nk [2,3,4,5,17] rfl <| WC.cF rfl <| WC.skips <| Ck [2,3,4,5] rfl ?_
  exact J3 _
 refine WO.U (oPkT rfl rfl) rfl <| Nk [2,3,4,5,17] rfl <| WC.cT rfl <| WC.assoc ?_
 have hia := na_small (ndg_len.1 h11)
 have hiw := na_small (ndg_len.1 h16)
 have sv := ndg_len.1 h11
 have b1 : (v.tdiv w).natAbs ≤ v.natAbs := by rw [Int.natAbs_tdiv]; exact Nat.div_le_self _ _
 have b2 : (v.tmod w).natAbs ≤ v.natAbs := by rw [Int.natAbs_tmod]; exact Nat.mod_le _ _
 unfold smallN at sv
 refine WC.draw (z := 14) rfl (by kernel_rfl) <| WD.U (oFaP rfl rfl rfl rfl rfl) rfl <| WD.U (cI v (oLdP rfl rfl rfl rfl rfl) hia) rfl <| WD.U (oFaP rfl rfl rfl rfl rfl) rfl <| WD.U (cI w (oLdP rfl rfl rfl rfl rfl) hiw) rfl <| WD.U (oQuo64 rfl rfl hw0 om) rfl <| WD.U (oBd (cs := [_, _, _]) rfl rfl rfl rfl rfl) rfl <| WD.U (oFaP rfl rfl rfl rfl rfl) rfl <| WD.U (cI v (oLdP rfl rfl rfl rfl rfl) hia) rfl <| WD.U (oFaP rfl rfl rfl rfl rfl) rfl <| WD.U (cI w (oLdP rfl rfl rfl rfl rfl) hiw) rfl <| WD.U (oRem rfl rfl hw0) rfl <| WD.U (oBd (cs := [_, _, _]) rfl rfl rfl rfl rfl) rfl <| WD.S0 (oSt (cs' := [_, _, _]) rfl rfl rfl rfl rfl rfl rfl rfl) <| WD.S0 (oSt (cs' := [_, _, _]) rfl rfl rfl rfl rfl rfl rfl rfl) <| WD.nil (drawOk_of (by kernel_rfl)) rfl <| Ck [4,5] rfl <| WC.rets <| post (n := 0) (.inr rfl) rfl ?_ (by simp)
 rw [lvN_small (v := v.tdiv w) (by unfold smallN; omega), lvN_small (v := v.tmod w) (by unfold smallN; omega)]; rfl
theorem nless_run (v w : Int) (hv : len30 v < 1099511627775) (hw : len30 w < 1099511627775) : Run Tryz.prog T E0 (.call 115 [lvN v, lvN w] (lvN (v - w))) := by
 refine mkcall Tryz.func115 rfl rfl (Nat.le_of_ble_eq_true rfl) <| Rg 3 rfl <| WO.S (oBx rfl rfl) rfl <| WO.S (oBx rfl rfl) rfl <| WO.S (oAl rfl) rfl <| Wn <| WC.draw (z := 5) rfl (by kernel_rfl) <| WD.U (oLdP (l := .agg [_, _, _]) rfl rfl rfl rfl rfl) rfl <| WD.U (oLdP (l := .agg [_, _, _]) rfl rfl rfl rfl rfl) rfl <| WD.U (oCall rfl (nminus_run _) (by simp)) rfl <| WD.U (oCall rfl (nplus_run v (-w) hv (by rw [len30_neg]; exact hw)) (by simp)) rfl <| WD.S0 (oSt (cs' := [_, _, _]) rfl rfl rfl rfl rfl rfl rfl rfl) <| WD.nil (drawOk_of (by kernel_rfl)) rfl <| WC.ret <| post (n := 0) (.inr rfl) rfl ?_ (by simp)
 rw [Int.sub_eq_add_neg]; rfl
theorem ncmp_run (v w : Int) (hv : len30 v < 1099511627775) (hw : len30 w < 1099511627775) : Run Tryz.prog T E0 (.call 90 [lvN v, lvN w] (.v (.int .i64 (v - w).sign))) := by
 refine mkcall Tryz.func90 rfl rfl (Nat.le_of_ble_eq_true rfl) <| Rg 3 rfl <| WO.S (oBx rfl rfl) rfl <| WO.S (oBx rfl rfl) rfl <| Ua rfl rfl <| Wn <| Rg 5 rfl <| WO.U (oLdP (l := .agg [_, _, _]) rfl rfl rfl rfl rfl) rfl <| WO.U (oLdP (l := .agg [_, _, _]) rfl rfl rfl rfl rfl) rfl <| WO.U (oCall rfl (nless_run v w hv hw) (by simp)) rfl <| WO.U (oCall rfl (nsign_run _) (by simp)) rfl <| Ua rfl rfl <| Wn <| WC.ret ?_
 exact post (n := 0) (.inr rfl) rfl rfl (by simp)
theorem nabs_run (v : Int) : Run Tryz.prog T E0 (.call 114 [lvN v] (lvN v.natAbs)) := by
 refine mkcall Tryz.func114 rfl rfl (Nat.le_of_ble_eq_true rfl) <| Rg 2 rfl <| WO.S (oBx rfl rfl) rfl <| WO.S (oAl rfl) rfl <| Wn <| WC.assoc <| Rg 3 rfl <| WO.U (oLdP (l := .agg [_, _, _]) rfl rfl rfl rfl rfl) rfl <| WO.U (oCall rfl (nsign_run _) (by simp)) rfl <| WO.U (oLss rfl rfl) rfl <| WO.D (fun h5 => ?_) (fun h5 => ?_)
 rotate_left
 ·refine Wn <| WC.cF rfl <| WC.skips <| Rg 2 rfl <| WO.U (oLdP (l := .agg [_, _, _]) rfl rfl rfl rfl rfl) rfl <| WO.S0 (oSt (cs' := [_, _, _]) rfl rfl rfl rfl rfl rfl rfl rfl) <| Wn <| WC.ret <| post (n := 0) (.inr rfl) rfl ?_ (by simp)
  have : ¬ v < 0 := fun k => h5 (Int.sign_neg_iff.2 k)
  have e : (v.natAbs : Int) = v := by omega
  rw [e]; rfl
 refine Wn <| WC.cT rfl <| WC.assoc <| Rg 3 rfl <| WO.U (oLdP (l := .agg [_, _, _]) rfl rfl rfl rfl rfl) rfl <| WO.U (oCall rfl (nminus_run _) (by simp)) rfl <| WO.S0 (oSt (cs' := [_, _, _]) rfl rfl rfl rfl rfl rfl rfl rfl) <| Wn <| WC.rets <| post (n := 0) (.inr rfl) rfl ?_ (by simp)
 have := Int.sign_neg_iff.1 h5
 have e : (v.natAbs : Int) = -v := by omega
 rw [e]; rfl
theorem ngcd_run (v w : Int) (hv : len30 v < 549755813888) (hw : len30 w < 549755813888) : Run Tryz.prog T E0 (.call 88 [lvN v, lvN w] (lvN (v.gcd w : Nat))) := by
 refine mkcall Tryz.func88 rfl rfl (Nat.le_of_ble_eq_true rfl) <| Rg 3 rfl <| WO.S (oBx rfl rfl) rfl <| WO.S (oBx rfl rfl) rfl <| WO.S (oAl rfl) rfl <| Wn <| WC.block <| WC.loopV (α := Int × Int) (fun ⟨a, b⟩ => [(2, .ptr 0 0), (3, .ptr 1 0), (4, .ptr 2 0)]) (fun ⟨a, b⟩ => [(0, { cells := (lvN a).cells, sz := 3, elem := 96, st := 0 }), (1, { cells := (lvN b).cells, sz := 3, elem := 96, st := 0 }), (2, { cells := [.v (.int .i64 0), .v (.bool false), .sl 0 []], sz := 3, elem := 96, st := 0 })]) (fun ⟨a, b⟩ n => Int.gcd a b = v.gcd w ∧ len30 a < 549755813888 ∧ len30 b < 549755813888 ∧ 3 ≤ n) (fun ⟨a, b⟩ => b.natAbs) (v, w) ⟨rfl, rfl, rfl, trivial⟩ ⟨rfl, rfl, rfl, trivial⟩ ⟨rfl, hv, hw, om⟩ ?_
 rintro ⟨a, b⟩ n hF
 change WC _ _ _ _ _ (_ :: _) (_ :: _) n _
 obtain ⟨hg, hla, hlb, hn3⟩ := hF
 refine WC.assoc <| Rg 3 rfl <| WO.U (oLdP (l := .agg [_, _, _]) rfl rfl rfl rfl rfl) rfl <| WO.U (oCall rfl (nsign_run _) (by simp)) rfl <| WO.U (oNeq rfl rfl) rfl <| WO.D (fun h9 => ?_) (fun h9 => ?_)
 rotate_left
 ·refine Wn <| WC.cF rfl <| WC.exits <| loopR_exit <| after_exit rfl <| Rg 3 rfl <| WO.U (oLdP (l := .agg [_, _, _]) rfl rfl rfl rfl rfl) rfl <| WO.U (oCall rfl (nabs_run a) (by simp)) rfl <| WO.S0 (oSt (cs' := [_, _, _]) rfl rfl rfl rfl rfl rfl rfl rfl) <| Wn <| WC.ret <| post (n := 0) (.inr rfl) rfl ?_ (by simp)
  have hb0 : b = 0 := by
   have := Int.sign_eq_zero_iff_zero (a := b); omega
  subst hb0
  rw [Int.gcd_zero_right] at hg
  rw [← hg]; rfl
 refine Wn <| WC.cT rfl <| WC.skips <| WC.block1 ?_
 have hb0 : b ≠ 0 := by
  intro h; subst h; simp at h9
 have hlm : len30 (a.tmod b) < 549755813888 := by have := len30_tmod a b; omega
 have hlt : (a.tmod b).natAbs < b.natAbs := by rw [Int.natAbs_tmod]; exact Nat.mod_lt _ om
 refine Rg 10 rfl <| WO.U (oLdP (l := .agg [_, _, _]) rfl rfl rfl rfl rfl) rfl <| WO.U (oLdP (l := .agg [_, _, _]) rfl rfl rfl rfl rfl) rfl <| WO.U (oCall rfl (nover_run a b hb0 hla hlb) (by simp)) rfl <| Um rfl rfl <| WO.U (oEx rfl rfl) rfl <| WO.U (oEx rfl rfl) rfl <| WO.S (oAl rfl) rfl <| WO.S (oAl rfl) rfl <| WO.S0 (oSt (cs' := [_, _, _]) rfl rfl rfl (g1 om g0) rfl rfl rfl rfl) <| WO.S0 (oSt (cs' := [_, _, _]) rfl rfl rfl (g1 om g0) rfl rfl rfl rfl) <| Wn <| WC.draw1z (z := 4) rfl (by kernel_rfl) <| WD.U (oLdP (l := .agg [_, _, _]) rfl rfl (g1 om (g1 om (g1 om (g1 om (g1 (by decide) g0))))) rfl rfl) rfl <| WD.U (oLdP (l := .agg [_, _, _]) rfl rfl g0 rfl rfl) rfl <| WD.S0 (oSt (cs' := [_, _, _]) rfl rfl rfl (g1 om (g1 om (g1 om (g1 om g0)))) rfl rfl rfl rfl) <| WD.S0 (oSt (cs' := [_, _, _]) rfl rfl rfl (g1 (by decide) (g1 om (g1 om (g1 om (g1 om (g1 (by decide) g0)))))) rfl rfl rfl rfl) <| WD.nil (drawOk_of (by kernel_rfl)) rfl <| after0_normal <| loopR_normal <| ⟨⟨b, a.tmod b⟩, ⟨rfl, rfl, rfl, trivial⟩, ⟨g1 (by decide) g0, g0, g1 (by decide) (g1 (by decide) (g1 om (g1 om (g1 om (g1 om (g1 (by decide) (g1 (by decide) g0))))))), trivial⟩, ⟨by rw [gcd_tmod, hg], hlb, hlm, om⟩, hlt⟩
theorem nmake_run (v w : Int) (hw0 : w ≠ 0) (hv : len30 v < 549755813888) (hw : len30 w < 549755813888) : Run Tryz.prog T E0 (.call 91 [lvN v, lvN w] (lvQ (Rat.divInt v w))) := by
 refine mkcall Tryz.func91 rfl rfl (Nat.le_of_ble_eq_true rfl) ?_
 have J3 : ∀ (a b : Int) (hb : 0 < b) (hab : Rat.divInt v w = Rat.divInt a b) (ha1 : len30 a < 549755813888) (hb1 : len30 b < 549755813888) (n : Nat) (hn : 3 ≤ n), WC Tryz.prog T E0 Tryz.f91.ntmps (codeR (codeR (codeOf Tryz.f91))) [(2, .ptr 0 0), (3, .ptr 1 0), (4, .ptr 2 0)] [(0, { cells := (lvN a).cells, sz := 3, elem := 96, st := 0 }), (1, { cells := (lvN b).cells, sz := 3, elem := 96, st := 0 }), (2, { cells := [.v (.int .i64 0), .v (.bool false), .sl 0 [], .v (.int .i64 0), .v (.bool false), .sl 0 []], sz := 6, elem := 98, st := 0 })] n (Post T Tryz.f91.results.toList (lvQ (Rat.divInt v w))) := by
  intro a b hb hab ha1 hb1 n hn
  obtain ⟨hm1, hm2⟩ := make_law (p := a) hb
  have hgp : 0 < a.gcd b := Int.gcd_pos_of_ne_zero_right _ om
  have hlg : len30 ((a.gcd b : Nat) : Int) < 549755813888 := by
   have h1 : a.gcd b ≤ b.natAbs := Nat.le_of_dvd om (Nat.gcd_dvd_right _ _)
   have := len30_mono (v := ((a.gcd b : Nat) : Int)) (w := b) (by simpa using h1)
   omega
  obtain ⟨g, hg⟩ : ∃ g : Int, g = (a.gcd b : Nat) := ⟨_, rfl⟩
  rw [← hg] at hm1 hm2 hlg
  have l1 : len30 (1 : Int) ≤ 3 := len30_small (by decide)
  refine Rg 5 rfl <| WO.U (oLdP (l := .agg [_, _, _]) rfl rfl g0 rfl rfl) rfl <| WO.U (oLdP (l := .agg [_, _, _]) rfl rfl (g1 (by decide) g0) rfl rfl) rfl <| WO.U (oCall rfl (hg ▸ ngcd_run a b ha1 hb1) (by simp)) rfl <| WO.S (oAl rfl) rfl <| WO.S0 (oSt (cs' := [_, _, _]) rfl rfl rfl g0 rfl rfl rfl rfl) <| Wn <| WC.assoc <| WC.draw (z := 4) rfl (by kernel_rfl) <| WD.U (oLdP (l := .agg [_, _, _]) rfl rfl g0 rfl rfl) rfl <| WD.U (oCall rfl (nof_run _ (by unfold I64; omega)) (by simp)) rfl <| WD.U (oCall rfl (ncmp_run g 1 om om) (by simp)) rfl <| WD.U (oNeq rfl rfl) rfl <| WD.D (fun h19 => ?_) (fun h19 => ?_)
  rotate_left
  ·refine WD.nil (drawOk_of (by kernel_rfl)) rfl <| WC.cF rfl <| WC.skips <| Rg 4 rfl <| WO.U (oLdP (l := .agg [_, _, _]) rfl rfl (g1 om (g1 om g0)) rfl rfl) rfl <| WO.U (oLdP (l := .agg [_, _, _]) rfl rfl (g1 om (g1 om (g1 (by decide) g0))) rfl rfl) rfl <| WO.U (oBd (cs := [_, _, _, _, _, _]) rfl rfl rfl rfl rfl) rfl <| WO.S0 (oSt (cs' := [_, _, _, _, _, _]) rfl rfl rfl (g1 om (g1 om (g1 (by decide) (g1 (by decide) g0)))) rfl rfl rfl rfl) <| Wn <| WC.ret <| post (n := 0) (.inr rfl) rfl ?_ (by simp)
   have hg1 : g = 1 := by
    have := Int.sign_eq_zero_iff_zero (a := g - 1); omega
   rw [hg1, Int.tdiv_one] at hm1 hm2
   rw [hab, lvQ_eq, ← hm1, ← hm2]; rfl
  refine WD.nil (drawOk_of (by kernel_rfl)) rfl <| WC.cT rfl <| WC.assoc <| Rg 7 rfl <| WO.U (oLdP (l := .agg [_, _, _]) rfl rfl (g1 om (g1 om g0)) rfl rfl) rfl <| WO.U (oLdP (l := .agg [_, _, _]) rfl rfl g0 rfl rfl) rfl <| WO.U (oCall rfl (nover_run a g om ha1 hlg) (by simp)) rfl <| Um rfl rfl <| WO.U (oEx rfl rfl) rfl <| WO.U (oEx rfl rfl) rfl <| WO.S0 (oSt (cs' := [_, _, _]) rfl rfl rfl (g1 om (g1 om g0)) rfl rfl rfl rfl) <| Nk [2,3,4,5] rfl <| Rg 7 rfl <| WO.U (oLdP (l := .agg [_, _, _]) rfl rfl (g1 (by decide) (g1 om (g1 om (g1 (by decide) g0)))) rfl rfl) rfl <| WO.U (oLdP (l := .agg [_, _, _]) rfl rfl (g1 om g0) rfl rfl) rfl <| WO.U (oCall rfl (nover_run b g om hb1 hlg) (by simp)) rfl <| Um rfl rfl <| WO.U (oEx rfl rfl) rfl <| WO.U (oEx rfl rfl) rfl <| WO.S0 (oSt (cs' := [_, _, _]) rfl rfl rfl (g1 (by decide) (g1 om (g1 om (g1 (by decide) g0)))) rfl rfl rfl rfl) <| Wn <| Rg 4 rfl <| WO.U (oLdP (l := .agg [_, _, _]) rfl rfl (g1 (by decide) g0) rfl rfl) rfl ?_
  refine WO.U (oLdP (l := .agg [_, _, _]) rfl rfl g0 rfl rfl) rfl <| WO.U (oBd (cs := [_, _, _, _, _, _]) rfl rfl rfl rfl rfl) rfl <| WO.S0 (oSt (cs' := [_, _, _, _, _, _]) rfl rfl rfl (g1 (by decide) (g1 (by decide) (g1 om (g1 om (g1 (by decide) (g1 (by decide) g0)))))) rfl rfl rfl rfl) <| Wn <| WC.ret <| post (n := 0) (.inr rfl) rfl ?_ (by simp)
  rw [hab, lvQ_eq, ← hm1, ← hm2]; rfl
 refine Rg 3 rfl <| WO.S (oBx rfl rfl) rfl <| WO.S (oBx rfl rfl) rfl <| WO.S (oAl rfl) rfl <| Wn <| WC.assoc <| Rg 3 rfl <| WO.U (oLdP (l := .agg [_, _, _]) rfl rfl rfl rfl rfl) rfl <| WO.U (oCall rfl (nsign_run _) (by simp)) rfl <| WO.U (oLss rfl rfl) rfl <| WO.D (fun h8 => ?_) (fun h8 => ?_)
 rotate_left
 ·refine Wn <| WC.cF rfl <| WC.skips <| Ck [2,3,4] rfl ?_
  have hw1 : ¬ w < 0 := fun k => h8 (Int.sign_neg_iff.2 k)
  refine WC.weakM _ ?_ (J3 v w om rfl hv hw _ om)
  exact ⟨rfl, rfl, rfl, trivial⟩
 refine Wn <| WC.cT rfl <| WC.draw (z := 6) rfl (by kernel_rfl) <| WD.U (oLdP (l := .agg [_, _, _]) rfl rfl rfl rfl rfl) rfl <| WD.U (oCall rfl (nminus_run _) (by simp)) rfl <| WD.U (oLdP (l := .agg [_, _, _]) rfl rfl rfl rfl rfl) rfl <| WD.U (oCall rfl (nminus_run _) (by simp)) rfl <| WD.S0 (oSt (cs' := [_, _, _]) rfl rfl rfl rfl rfl rfl rfl rfl) <| WD.S0 (oSt (cs' := [_, _, _]) rfl rfl rfl rfl rfl rfl rfl rfl) <| WD.nil (drawOk_of (by kernel_rfl)) rfl <| Ck [2,3,4] rfl ?_
 have hw1 := Int.sign_neg_iff.1 h8
 refine WC.weakM _ ?_ (J3 (-v) (-w) om (divInt_pos hw1) (by rw [len30_neg]; exact hv) (by rw [len30_neg]; exact hw) _ om)
 exact ⟨rfl, rfl, rfl, trivial⟩
theorem nwhole_run (v : Int) (hv : I64 v) : Run Tryz.prog T E0 (.call 72 [.v (.int .i64 v)] (lvQ (v : Rat))) := by
 refine mkcall Tryz.func72 rfl rfl (Nat.le_of_ble_eq_true rfl) <| Rg 1 rfl <| WO.S (oAl rfl) rfl <| Wn <| Rg 5 rfl <| Um rfl rfl <| WO.U (oCall rfl (nof_run v hv) (by simp)) rfl <| WO.U (oCall rfl (nof_run _ (by unfold I64; omega)) (by simp)) rfl <| WO.U (oBd (cs := [_, _, _, _, _, _]) rfl rfl rfl rfl rfl) rfl <| WO.S0 (oSt (cs' := [_, _, _, _, _, _]) rfl rfl rfl rfl rfl rfl rfl rfl) <| Wn <| WC.ret <| post (n := 0) (.inr rfl) rfl ?_ (by simp)
 rfl
theorem nradd_run (x y : Rat) (hx : Bd 34359738368 x) (hy : Bd 34359738368 y) : Run Tryz.prog T E0 (.call 73 [lvQ x, lvQ y] (lvQ (x + y))) := by
 obtain ⟨hx1, hx2⟩ := hx.l30
 obtain ⟨hy1, hy2⟩ := hy.l30
 have m1 := len30_mul x.num y.den
 have m2 := len30_mul y.num x.den
 have m3 := len30_add (x.num * y.den) (y.num * x.den)
 have m4 := len30_mul x.den y.den
 refine mkcall Tryz.func73 rfl rfl (Nat.le_of_ble_eq_true rfl) <| Rg 3 rfl <| WO.S (oBx rfl rfl) rfl <| WO.S (oBx rfl rfl) rfl <| WO.S (oAl rfl) rfl <| Wn <| WC.draw (z := 18) rfl (by kernel_rfl) <| WD.U (oFaP rfl rfl rfl rfl rfl) rfl <| WD.U (oLdP (l := .agg [_, _, _]) rfl rfl rfl rfl rfl) rfl <| WD.U (oFaP rfl rfl rfl rfl rfl) rfl <| WD.U (oLdP (l := .agg [_, _, _]) rfl rfl rfl rfl rfl) rfl <| WD.U (oCall rfl (ntimes_run x.num y.den om om) (by simp)) rfl <| WD.U (oFaP rfl rfl rfl rfl rfl) rfl <| WD.U (oLdP (l := .agg [_, _, _]) rfl rfl rfl rfl rfl) rfl <| WD.U (oFaP rfl rfl rfl rfl rfl) rfl <| WD.U (oLdP (l := .agg [_, _, _]) rfl rfl rfl rfl rfl) rfl <| WD.U (oCall rfl (ntimes_run y.num x.den om om) (by simp)) rfl <| WD.U (oCall rfl (nplus_run (x.num * y.den) (y.num * x.den) om om) (by simp)) rfl <| WD.U (oFaP rfl rfl rfl rfl rfl) rfl <| WD.U (oLdP (l := .agg [_, _, _]) rfl rfl rfl rfl rfl) rfl <| WD.U (oFaP rfl rfl rfl rfl rfl) rfl <| WD.U (oLdP (l := .agg [_, _, _]) rfl rfl rfl rfl rfl) rfl <| WD.U (oCall rfl (ntimes_run x.den y.den om om) (by simp)) rfl <| WD.U (oCall rfl (nmake_run (x.num * y.den + y.num * x.den) (x.den * y.den) (Int.mul_ne_zero (den_ne _) (den_ne _)) om om) (by simp)) rfl ?_
 refine WD.S0 (oSt (cs' := [_, _, _, _, _, _]) rfl rfl rfl rfl rfl rfl rfl rfl) <| WD.nil (drawOk_of (by kernel_rfl)) rfl <| Ck [4] rfl <| WC.ret <| post (n := 0) (.inr rfl) rfl ?_ (by simp)
 rw [← add_raw]; rfl
theorem nrneg_run (x : Rat) : Run Tryz.prog T E0 (.call 122 [lvQ x] (lvQ (-x))) := by
 refine mkcall Tryz.func122 rfl rfl (Nat.le_of_ble_eq_true rfl) <| Rg 2 rfl <| WO.S (oBx rfl rfl) rfl <| WO.S (oAl rfl) rfl <| Wn <| WC.draw (z := 7) rfl (by kernel_rfl) <| WD.U (oFaP rfl rfl rfl rfl rfl) rfl <| WD.U (oLdP (l := .agg [_, _, _]) rfl rfl rfl rfl rfl) rfl <| WD.U (oCall rfl (nminus_run x.num) (by simp)) rfl <| WD.U (oFaP rfl rfl rfl rfl rfl) rfl <| WD.U (oLdP (l := .agg [_, _, _]) rfl rfl rfl rfl rfl) rfl <| WD.U (oBd (cs := [_, _, _, _, _, _]) rfl rfl rfl rfl rfl) rfl <| WD.S0 (oSt (cs' := [_, _, _, _, _, _]) rfl rfl rfl rfl rfl rfl rfl rfl) <| WD.nil (drawOk_of (by kernel_rfl)) rfl <| WC.ret <| post (n := 0) (.inr rfl) rfl ?_ (by simp)
 rw [lvQ_eq (-x), Rat.neg_num, Rat.neg_den]; rfl
theorem nrsign_run (x : Rat) : Run Tryz.prog T E0 (.call 95 [lvQ x] (.v (.int .i64 x.num.sign))) := by
 refine mkcall Tryz.func95 rfl rfl (Nat.le_of_ble_eq_true rfl) <| Rg 2 rfl <| WO.S (oBx rfl rfl) rfl <| Ua rfl rfl <| Wn <| Rg 4 rfl <| WO.U (oFaP rfl rfl rfl rfl rfl) rfl <| WO.U (oLdP (l := .agg [_, _, _]) rfl rfl rfl rfl rfl) rfl <| WO.U (oCall rfl (nsign_run x.num) (by simp)) rfl <| Ua rfl rfl <| Wn <| WC.ret ?_
 exact post (n := 0) (.inr rfl) rfl rfl (by simp)
theorem nrless_run (x y : Rat) (hx : Bd 34359738368 x) (hy : Bd 34359738368 y) : Run Tryz.prog T E0 (.call 94 [lvQ x, lvQ y] (lvQ (x - y))) := by
 refine mkcall Tryz.func94 rfl rfl (Nat.le_of_ble_eq_true rfl) <| Rg 3 rfl <| WO.S (oBx rfl rfl) rfl <| WO.S (oBx rfl rfl) rfl <| WO.S (oAl rfl) rfl <| Wn <| WC.draw (z := 5) rfl (by kernel_rfl) <| WD.U (oLdP (l := .agg [_, _, _, _, _, _]) rfl rfl rfl rfl rfl) rfl <| WD.U (oLdP (l := .agg [_, _, _, _, _, _]) rfl rfl rfl rfl rfl) rfl <| WD.U (oCall rfl (nrneg_run y) (by simp)) rfl <| WD.U (oCall rfl (nradd_run x (-y) hx hy.neg) (by simp)) rfl <| WD.S0 (oSt (cs' := [_, _, _, _, _, _]) rfl rfl rfl rfl rfl rfl rfl rfl) <| WD.nil (drawOk_of (by kernel_rfl)) rfl <| WC.ret <| post (n := 0) (.inr rfl) rfl ?_ (by simp)
 rw [Rat.sub_eq_add_neg]; rfl
theorem nrcmp_run (x y : Rat) (hx : Bd 34359738368 x) (hy : Bd 34359738368 y) : Run Tryz.prog T E0 (.call 75 [lvQ x, lvQ y] (.v (.int .i64 (x - y).num.sign))) := by
 refine mkcall Tryz.func75 rfl rfl (Nat.le_of_ble_eq_true rfl) <| Rg 3 rfl <| WO.S (oBx rfl rfl) rfl <| WO.S (oBx rfl rfl) rfl <| Ua rfl rfl <| Wn <| Rg 5 rfl <| WO.U (oLdP (l := .agg [_, _, _, _, _, _]) rfl rfl rfl rfl rfl) rfl <| WO.U (oLdP (l := .agg [_, _, _, _, _, _]) rfl rfl rfl rfl rfl) rfl <| WO.U (oCall rfl (nrless_run x y hx hy) (by simp)) rfl <| WO.U (oCall rfl (nrsign_run (x - y)) (by simp)) rfl <| Ua rfl rfl <| Wn <| WC.ret ?_
 exact post (n := 0) (.inr rfl) rfl rfl (by simp)
theorem nnvalid_run (a : NM) (h1 : I64 a.1) (h2 : I64 a.2) : Run Tryz.prog T E0 (.call 71 [lvM a] (.v (.bool (decide (VN a))))) := by
 have m1 := len30_i64 h1
 have m2 := len30_i64 h2
 have l1 : len30 (1 : Int) ≤ 3 := len30_small (by decide)
 have l2 : len30 ((a.1.gcd a.2 : Nat) : Int) ≤ 3 := len30_of (by
  unfold I64 at h1 h2
  by_cases h0 : a.2 = 0
  ·rw [h0]; simp; omega
  ·have h1 : a.1.gcd a.2 ≤ a.2.natAbs := Nat.le_of_dvd om (Nat.gcd_dvd_right _ _)
   simp; omega)
 have h1' := h1
 have h2' := h2
 unfold I64 at h1 h2
 refine mkcall Tryz.func71 rfl rfl (Nat.le_of_ble_eq_true rfl) <| Rg 2 rfl <| WO.S (oBx rfl rfl) rfl <| Ua rfl rfl <| Wn <| WC.assoc <| Rg 18 rfl <| WO.U (oFaP rfl rfl rfl rfl rfl) rfl <| WO.U (oLdP rfl rfl rfl rfl rfl) rfl <| WO.U (oLss rfl rfl) rfl <| WO.D (fun h5 => ?_) (fun h5 => ?_)
 ·refine Um rfl rfl <| K1 rfl rfl <| K1 rfl rfl <| K1 rfl rfl <| WO.U (oPkT rfl rfl) rfl <| Um rfl rfl <| K1 rfl rfl <| K1 rfl rfl <| K1 rfl rfl <| WO.U (oPkT rfl rfl) rfl <| Um rfl rfl <| K1 rfl rfl <| K1 rfl rfl <| K1 rfl rfl <| WO.U (oPkT rfl rfl) rfl <| Nk [1,20] rfl <| WC.cT rfl <| WC.assoc ?_
  have hV : ¬ VN a := by unfold VN; omega
  refine Rg 1 rfl <| Ua rfl rfl <| Wn <| WC.rets <| post (n := 0) (.inr rfl) rfl ?_ (by simp)
  exact congrArg (fun z => LV.v (.bool z)) (decide_eq_false hV).symm
 refine Um rfl rfl <| WO.Ug rfl (oFaP rfl rfl rfl rfl rfl) rfl <| WO.Ug rfl (oLdP rfl rfl rfl rfl rfl) rfl <| WO.Ug rfl (oGtr rfl rfl) rfl <| WO.D (fun h9 => ?_) (fun h9 => ?_)
 ·refine WO.U (oPkF rfl rfl) rfl <| Um rfl rfl <| K1 rfl rfl <| K1 rfl rfl <| K1 rfl rfl <| WO.U (oPkT rfl rfl) rfl <| Um rfl rfl <| K1 rfl rfl <| K1 rfl rfl <| K1 rfl rfl <| WO.U (oPkT rfl rfl) rfl <| Nk [1,20] rfl <| WC.cT rfl <| WC.assoc ?_
  have hV : ¬ VN a := by unfold VN; omega
  refine Rg 1 rfl <| Ua rfl rfl <| Wn <| WC.rets <| post (n := 0) (.inr rfl) rfl ?_ (by simp)
  exact congrArg (fun z => LV.v (.bool z)) (decide_eq_false hV).symm
 refine WO.U (oPkF rfl rfl) rfl <| Um rfl rfl <| WO.Ug rfl (oFaP rfl rfl rfl rfl rfl) rfl <| WO.Ug rfl (oLdP rfl rfl rfl rfl rfl) rfl <| WO.Ug rfl (oGtr rfl rfl) rfl <| WO.D (fun h14 => ?_) (fun h14 => ?_)
 ·refine WO.U (oPkF rfl rfl) rfl <| Um rfl rfl <| K1 rfl rfl <| K1 rfl rfl <| K1 rfl rfl <| WO.U (oPkT rfl rfl) rfl <| Nk [1,20] rfl <| WC.cT rfl <| WC.assoc ?_
  have hV : ¬ VN a := by unfold VN; omega
  refine Rg 1 rfl <| Ua rfl rfl <| Wn <| WC.rets <| post (n := 0) (.inr rfl) rfl ?_ (by simp)
  exact congrArg (fun z => LV.v (.bool z)) (decide_eq_false hV).symm
 refine WO.U (oPkF rfl rfl) rfl <| Um rfl rfl <| WO.Ug rfl (oFaP rfl rfl rfl rfl rfl) rfl <| WO.Ug rfl (oLdP rfl rfl rfl rfl rfl) rfl <| WO.Ug rfl (oLss rfl rfl) rfl <| WO.D (fun h19 => ?_) (fun h19 => ?_)
 ·refine WO.U (oPkF rfl rfl) rfl <| Nk [1,20] rfl <| WC.cT rfl <| WC.assoc ?_
  have hV : ¬ VN a := by unfold VN; omega
  refine Rg 1 rfl <| Ua rfl rfl <| Wn <| WC.rets <| post (n := 0) (.inr rfl) rfl ?_ (by simp)
  exact congrArg (fun z => LV.v (.bool z)) (decide_eq_false hV).symm
 refine WO.U (oPkF rfl rfl) rfl <| Nk [1,20] rfl <| WC.cF rfl <| WC.skips <| WC.draw (z := 11) rfl (by kernel_rfl) <| WD.U (oFaP rfl rfl rfl rfl rfl) rfl <| WD.U (oLdP rfl rfl rfl rfl rfl) rfl <| WD.U (oCall rfl (nof_run _ (by unfold I64; omega)) (by simp)) rfl <| WD.U (oFaP rfl rfl rfl rfl rfl) rfl <| WD.U (oLdP rfl rfl rfl rfl rfl) rfl <| WD.U (oCall rfl (nof_run _ (by unfold I64; omega)) (by simp)) rfl <| WD.U (oCall rfl (ngcd_run a.1 a.2 om om) (by simp)) rfl <| WD.U (oCall rfl (nof_run _ (by unfold I64; omega)) (by simp)) rfl <| WD.U (oCall rfl (ncmp_run (a.1.gcd a.2 : Nat) 1 om om) (by simp)) rfl <| WD.U (oEql rfl rfl) rfl <| WD.U (oAs rfl) rfl <| WD.nil (drawOk_of (by kernel_rfl)) rfl <| WC.ret <| post (n := 0) (.inr rfl) rfl ?_ (by simp)
 have hV : decide ((((a.1.gcd a.2 : Nat) : Int) - 1).sign = 0) = decide (VN a) := by
  apply decide_eq_decide.2; rw [gcd_one]; unfold VN; omega
 exact congrArg (fun z => LV.v (.bool z)) hV
theorem nto_run (a : NM) (h1 : I64 a.1) (h2 : I64 a.2) (hv : VN a) : Run Tryz.prog T E0 (.call 74 [lvM a] (lvQ (Rat.divInt a.1 a.2))) := by
 refine mkcall Tryz.func74 rfl rfl (Nat.le_of_ble_eq_true rfl) <| Rg 2 rfl <| WO.S (oBx rfl rfl) rfl <| WO.S (oAl rfl) rfl <| Wn <| WC.draw (z := 8) rfl (by kernel_rfl) <| WD.U (oFaP rfl rfl rfl rfl rfl) rfl <| WD.U (oLdP rfl rfl rfl rfl rfl) rfl <| WD.U (oCall rfl (nof_run a.1 h1) (by simp)) rfl <| WD.U (oFaP rfl rfl rfl rfl rfl) rfl <| WD.U (oLdP rfl rfl rfl rfl rfl) rfl <| WD.U (oCall rfl (nof_run a.2 h2) (by simp)) rfl <| WD.U (oBd (cs := [_, _, _, _, _, _]) rfl rfl rfl rfl rfl) rfl <| WD.S0 (oSt (cs' := [_, _, _, _, _, _]) rfl rfl rfl rfl rfl rfl rfl rfl) <| WD.nil (drawOk_of (by kernel_rfl)) rfl <| WC.ret <| post (n := 0) (.inr rfl) rfl ?_ (by simp)
 obtain ⟨e1, e2⟩ := valid_rat hv
 rw [lvQ_eq, e1, e2]; rfl
end Go.Proofs.YthpnlndhebcngaaGreat
set_option linter.unusedVariables false
set_option linter.unusedSimpArgs false
set_option maxRecDepth 100000
set_option maxHeartbeats 8000000
namespace Go.Proofs.YthpnlndhebcngaaGreat
open Go.Ab Go.RowKit
theorem rsub_run (x y : X) (hx : Bd 34359738368 x.1) (hy : Bd 34359738368 y.1) : Run Tryz.prog T E0 (.call 109 [lvX x, lvX y] (lvX (xadd x (xneg y)))) := by
 refine mkcall Tryz.func109 rfl rfl (Nat.le_of_ble_eq_true rfl) <| Rg 3 rfl <| WO.S (oBx rfl rfl) rfl <| WO.S (oBx rfl rfl) rfl <| WO.S (oAl rfl) rfl <| Wn <| WC.draw (z := 5) rfl (by kernel_rfl) <| WD.U (oLdP (l := lvX x) rfl rfl (by repeat (first | exact g0 | refine g1 (by decide) ?_)) rfl rfl) rfl ?_
 refine WD.U (oLdP (l := lvX y) rfl rfl (by repeat (first | exact g0 | refine g1 (by decide) ?_)) rfl rfl) rfl ?_
 refine WD.U (oCall rfl (rneg_run y) dD) rfl <| WD.U (oCall rfl (radd_run x (xneg y) (hx.mono (by decide)) (hy.neg.mono (by decide))) dD) rfl <| WD.S0 (oSt (cs' := xc (xadd x (xneg y))) rfl rfl rfl (by repeat (first | exact g0 | refine g1 (by decide) ?_)) rfl rfl rfl rfl) ?_
 refine WD.nil (drawOk_of (by kernel_rfl)) rfl <| WC.ret <| post (n := 0) (.inr rfl) rfl ?_ dD
 rfl
theorem rcmp_run (x y : X) (hx : Bd 34359738368 x.1) (hy : Bd 34359738368 y.1) : Run Tryz.prog T E0 (.call 85 [lvX x, lvX y] (.v (.int .i64 (x.1 - y.1).num.sign))) := by
 refine mkcall Tryz.func85 rfl rfl (Nat.le_of_ble_eq_true rfl) <| Rg 3 rfl <| WO.S (oBx rfl rfl) rfl <| WO.S (oBx rfl rfl) rfl <| Ua rfl rfl <| Wn <| Rg 5 rfl <| WO.U (oLdP (l := lvX x) rfl rfl (by repeat (first | exact g0 | refine g1 (by decide) ?_)) rfl rfl) rfl ?_
 refine WO.U (oLdP (l := lvX y) rfl rfl (by repeat (first | exact g0 | refine g1 (by decide) ?_)) rfl rfl) rfl ?_
 refine WO.U (oCall rfl (rsub_run x y hx hy) dD) rfl <| WO.U (OP.cast (b := .v (.int .i64 (x.1 - y.1).num.sign)) (oCall rfl (rsign_run (xadd x (xneg y))) dD) (by rw [show (xadd x (xneg y)).1 = x.1 - y.1 from (Rat.sub_eq_add_neg _ _).symm])) rfl <| Ua rfl rfl <| Wn <| WC.ret <| post (n := 0) (.inr rfl) rfl ?_ dD
 rfl
theorem mchoice_run (m : Nat) (c : CH) (hI : IC c) (hm : m < 1000000) : Run Tryz.prog T E0 (.call 67 [.v (.int .i64 (m : Int)), lvC c] (.v (.bool (VC m c)))) := by
 refine mkcall Tryz.func67 rfl rfl (Nat.le_of_ble_eq_true rfl) <| Rg 2 rfl <| WO.S (oBx rfl rfl) rfl <| Ua rfl rfl <| Wn <| WC.assoc <| Rg 16 rfl <| WO.U (oFaP rfl rfl rfl rfl rfl) rfl <| WO.U (oLdP (l := lvM c.1) rfl rfl (by repeat (first | exact g0 | refine g1 (by decide) ?_)) rfl rfl) rfl ?_
 refine WO.U (oCall rfl (nvalid_run c.1 hI.1 hI.2.1) dD) rfl <| WO.B (fun h11 => ?_) (fun h11 => ?_)
 rotate_left
 ·refine WO.U (oNot rfl) rfl <| Um rfl rfl <| K1 rfl rfl <| K1 rfl rfl <| K1 rfl rfl <| K1 rfl rfl <| WO.U (oPkT rfl rfl) rfl <| Um rfl rfl <| K1 rfl rfl <| K1 rfl rfl <| K1 rfl rfl <| K1 rfl rfl <| WO.U (oPkT rfl rfl) rfl <| Nk [0,3,24] rfl <| WC.cT rfl <| WC.assoc <| Rg 1 rfl <| Ua rfl rfl <| Wn <| WC.rets <| post (n := 0) (.inr rfl) rfl ?_ dD
  exact congrArg (fun z => LV.v (.bool z)) (show false = VC m c from (VC_no1 h11).symm)
 refine WO.U (oNot rfl) rfl <| Um rfl rfl <| WO.Ug rfl (oFaP rfl rfl rfl rfl rfl) rfl <| WO.Ug rfl (oLdP rfl rfl (by repeat (first | exact g0 | refine g1 (by decide) ?_)) rfl rfl) rfl ?_
 refine WO.Ug rfl (oLenM rfl rfl) rfl <| WO.Ug rfl (oLss rfl rfl) rfl <| WO.D (fun h17 => ?_) (fun h17 => ?_)
 ·refine WO.U (oPkF rfl rfl) rfl <| Um rfl rfl <| K1 rfl rfl <| K1 rfl rfl <| K1 rfl rfl <| K1 rfl rfl <| WO.U (oPkT rfl rfl) rfl <| Nk [0,3,24] rfl <| WC.cT rfl <| WC.assoc <| Rg 1 rfl <| Ua rfl rfl <| Wn <| WC.rets <| post (n := 0) (.inr rfl) rfl ?_ dD
  exact congrArg (fun z => LV.v (.bool z)) (show false = VC m c from (VC_no2 om).symm)
 refine WO.U (oPkF rfl rfl) rfl <| Um rfl rfl <| WO.Ug rfl (oFaP rfl rfl rfl rfl rfl) rfl <| WO.Ug rfl (oLdP rfl rfl (by repeat (first | exact g0 | refine g1 (by decide) ?_)) rfl rfl) rfl ?_
 refine WO.Ug rfl (oLenM rfl rfl) rfl <| WO.Ug rfl (oGtr rfl rfl) rfl <| WO.D (fun h23 => ?_) (fun h23 => ?_)
 ·refine WO.U (oPkF rfl rfl) rfl <| Nk [0,3,24] rfl <| WC.cT rfl <| WC.assoc <| Rg 1 rfl <| Ua rfl rfl <| Wn <| WC.rets <| post (n := 0) (.inr rfl) rfl ?_ dD
  exact congrArg (fun z => LV.v (.bool z)) (show false = VC m c from (VC_no2 om).symm)
 refine WO.U (oPkF rfl rfl) rfl <| Nk [0,3,24] rfl <| WC.cF rfl <| WC.skips <| Rg 1 rfl <| WO.S (oAl rfl) rfl <| Wn <| Rg 1 rfl <| Ua rfl rfl <| Wn <| WC.assoc <| Rg 4 rfl <| WO.U (oFaP rfl rfl rfl rfl rfl) rfl <| WO.U (oLdP rfl rfl (by repeat (first | exact g0 | refine g1 (by decide) ?_)) rfl rfl) rfl ?_
 refine WO.U (oLenM rfl rfl) rfl <| Um rfl rfl <| Wn <| WC.block <| WC.loopV (α := Nat × X) (fun ⟨i, s⟩ => [(0, .v (.int .i64 (m : Int))), (5, .ptr 18 0), (6, .v (.int .i64 (lastB c.2.2 i))), (26, .sl c.2.1 (c.2.2.map brc)), (27, .v (.int .i64 (c.2.2.length : Int))), (28, .v (.int .i64 (i : Int)))]) (fun ⟨i, s⟩ => [(18, { cells := xc (s), sz := 4, elem := 111, st := 0 })]) (fun ⟨i, s⟩ n => i ≤ c.2.2.length ∧ s.1 = psum c.2.2 i ∧ (∀ j, j < i → okB m c.2.2 j = true) ∧ 18 < n) (fun ⟨i, s⟩ => c.2.2.length - i) (0, x0) ⟨rfl, rfl, rfl, rfl, rfl, rfl, trivial⟩ ⟨(by repeat (first | exact g0 | refine g1 (by decide) ?_)), trivial⟩ ⟨Nat.zero_le _, rfl, fun j hj => absurd hj om, om⟩ ?_
 rintro ⟨i, s⟩ n hF
 change WC _ _ _ _ _ (_ :: _) (_ :: _) n _
 obtain ⟨hi, hs, hok, hn⟩ := hF
 refine Rg 1 rfl <| WO.U (oLss rfl rfl) rfl <| WO.D (fun h29 => ?_) (fun h29 => ?_)
 rotate_left
 ·refine Wn <| WC.cF rfl <| WC.exits <| loopR_exit <| after_exit rfl ?_
  have hok' : ∀ j, j < c.2.2.length → okB m c.2.2 j = true := fun j hj => hok j om
  have hsb := psum_bd (bs := c.2.2) i om (fun j hj => (okB_vn (hok j hj)).1)
  have hil : i = c.2.2.length := by omega
  refine WC.draw (z := 5) rfl (by kernel_rfl) <| WD.U (oLdP (l := lvX s) rfl rfl gG rfl rfl) rfl ?_
  refine WD.U (oCall rfl (whole_run 1 (by unfold I64; omega)) dD) rfl <| WD.U (oCall rfl (rcmp_run s (xint 1) (by rw [hs]; exact hsb.mono om) (Bd1.mono (by decide))) dD) rfl <| WD.U (OP.cast (b := .v (.bool (decide (psum c.2.2 c.2.2.length = 1)))) (oEql rfl rfl) (congrArg (fun z => LV.v (.bool z)) (decide_eq_decide.2 (by rw [show (s.1 - (xint 1).1) = psum c.2.2 c.2.2.length - 1 by rw [hs, hil]; rfl]; exact sign_one)))) rfl <| WD.U (oAs rfl) rfl <| WD.nil (drawOk_of (by kernel_rfl)) rfl <| WC.ret <| post (n := 0) (.inr rfl) rfl ?_ dD
  exact congrArg (fun z => LV.v (.bool z)) (show decide (psum c.2.2 c.2.2.length = 1) = VC m c from (VC_yes h11 om om hok').symm)
 refine Wn <| WC.cT rfl <| WC.skips <| WC.block ?_
 have hIb := hI.2.2 _ (getD_mem (us := c.2.2) (i := i) om)
 refine Rg 4 rfl <| WO.U (oIxM rfl rfl rfl rfl rfl om rfl) rfl <| WO.U (oLd (l := .agg [_, _, _]) rfl rfl rfl) rfl <| WO.S (oAl rfl) rfl <| WO.S0 (oSt (cs' := [_, _, _]) rfl rfl rfl gG rfl rfl rfl rfl) ?_
 refine Wn <| WC.assoc <| Rg 22 rfl <| WO.U (oFaP rfl rfl rfl rfl rfl) rfl <| WO.U (oLdP rfl rfl gG rfl rfl) rfl ?_
 refine Um rfl rfl <| WO.U (oLeq rfl rfl) rfl <| WO.D (fun h35 => ?_) (fun h35 => ?_)
 ·refine Um rfl rfl <| K1 rfl rfl <| K1 rfl rfl <| K1 rfl rfl <| K1 rfl rfl <| WO.U (oPkT rfl rfl) rfl <| Um rfl rfl <| K1 rfl rfl <| K1 rfl rfl <| K1 rfl rfl <| K1 rfl rfl <| WO.U (oPkT rfl rfl) rfl <| Um rfl rfl <| K1 rfl rfl <| K1 rfl rfl <| K1 rfl rfl <| K1 rfl rfl <| WO.U (oPkT rfl rfl) rfl <| Nk [0,5,8,26,27,28,37,38,39,40,43,44,45,46,49,50,51,52,53] rfl <| WC.cT rfl <| WC.assoc <| Rg 1 rfl <| Ua rfl rfl ?_
  refine Nk [4] rfl <| WC.rets <| after_ret <| loopR_ret <| after_ret <| post (n := 0) (.inr rfl) rfl ?_ dD
  exact congrArg (fun z => LV.v (.bool z)) (show false = VC m c from (VC_no3 (i := i) om (okB_no (.inl om))).symm)
 refine Um rfl rfl <| WO.Ug rfl (oFaP rfl rfl rfl rfl rfl) rfl <| WO.Ug rfl (oLdP rfl rfl gG rfl rfl) rfl ?_
 refine WO.Ug rfl (oMv rfl) rfl <| WO.Ug rfl (oGeq rfl rfl) rfl <| WO.D (fun h40 => ?_) (fun h40 => ?_)
 ·refine WO.U (oPkF rfl rfl) rfl <| Um rfl rfl <| K1 rfl rfl <| K1 rfl rfl <| K1 rfl rfl <| K1 rfl rfl <| WO.U (oPkT rfl rfl) rfl <| Um rfl rfl <| K1 rfl rfl <| K1 rfl rfl <| K1 rfl rfl <| K1 rfl rfl <| WO.U (oPkT rfl rfl) rfl <| Nk [0,5,8,26,27,28,37,38,39,40,43,44,45,46,49,50,51,52,53] rfl <| WC.cT rfl <| WC.assoc <| Rg 1 rfl <| Ua rfl rfl <| Nk [4] rfl <| WC.rets <| after_ret <| loopR_ret ?_
  refine after_ret <| post (n := 0) (.inr rfl) rfl ?_ dD
  exact congrArg (fun z => LV.v (.bool z)) (show false = VC m c from (VC_no3 (i := i) om (okB_no (.inr (.inl om)))).symm)
 refine WO.U (oPkF rfl rfl) rfl <| Um rfl rfl <| WO.Ug rfl (oFaP rfl rfl rfl rfl rfl) rfl <| WO.Ug rfl (oLdP (l := lvM (c.2.2.getD i default).2) rfl rfl gG rfl rfl) rfl ?_
 refine WO.Ug rfl (oCall rfl (nvalid_run (c.2.2.getD i default).2 hIb.2.1 hIb.2.2) dD) rfl <| WO.B (fun h45 => ?_) (fun h45 => ?_)
 rotate_left
 ·refine WO.Ug rfl (oNot rfl) rfl <| WO.U (oPkF rfl rfl) rfl <| Um rfl rfl <| K1 rfl rfl <| K1 rfl rfl <| K1 rfl rfl <| K1 rfl rfl <| WO.U (oPkT rfl rfl) rfl <| Nk [0,5,8,26,27,28,37,38,39,40,43,44,45,46,49,50,51,52,53] rfl <| WC.cT rfl <| WC.assoc <| Rg 1 rfl <| Ua rfl rfl <| Nk [4] rfl <| WC.rets <| after_ret <| loopR_ret <| after_ret <| post (n := 0) (.inr rfl) rfl ?_ dD
  exact congrArg (fun z => LV.v (.bool z)) (show false = VC m c from (VC_no3 (i := i) om (okB_no (.inr (.inr (.inl h45))))).symm)
 refine WO.Ug rfl (oNot rfl) rfl <| WO.U (oPkF rfl rfl) rfl <| Um rfl rfl <| WO.Ug rfl (oFaP rfl rfl rfl rfl rfl) rfl <| WO.Ug rfl (oFaP rfl rfl rfl rfl rfl) rfl <| WO.Ug rfl (oLdP rfl rfl gG rfl rfl) rfl ?_
 refine WO.Ug rfl (oLeq rfl rfl) rfl <| WO.D (fun h52 => ?_) (fun h52 => ?_)
 ·refine WO.U (oPkF rfl rfl) rfl <| Nk [0,5,8,26,27,28,37,38,39,40,43,44,45,46,49,50,51,52,53] rfl <| WC.cT rfl <| WC.assoc <| Rg 1 rfl <| Ua rfl rfl <| Nk [4] rfl <| WC.rets <| after_ret <| loopR_ret <| after_ret <| post (n := 0) (.inr rfl) rfl ?_ dD
  exact congrArg (fun z => LV.v (.bool z)) (show false = VC m c from (VC_no3 (i := i) om (okB_no (.inr (.inr (.inr om))))).symm)
 refine WO.U (oPkF rfl rfl) rfl <| Nk [0,5,8,26,27,28,37,38,39,40,43,44,45,46,49,50,51,52,53] rfl <| WC.cF rfl <| WC.skips ?_
 have hvb : VN (c.2.2.getD i default).2 := of_decide_eq_true h45
 have hokI : okB m c.2.2 i = true := okB_yes om om h45 om
 have hsb := psum_bd (bs := c.2.2) i om (fun j hj => (okB_vn (hok j hj)).1)
 refine Rg 3 rfl <| WO.U (oFaP rfl rfl rfl rfl rfl) rfl <| WO.U (oLdP rfl rfl gG rfl rfl) rfl ?_
 refine Ua rfl rfl <| Nk [0,5,6,8,26,27,28,37,38,39,40,43,44,45,46,49,50,51,52] rfl <| WC.draw1z (z := 6) rfl (by kernel_rfl) <| WD.U (oLdP (l := lvX s) rfl rfl gG rfl rfl) rfl ?_
 refine WD.U (oFaP rfl rfl rfl rfl rfl) rfl <| WD.U (oLdP (l := lvM (c.2.2.getD i default).2) rfl rfl gG rfl rfl) rfl ?_
 refine WD.U (OP.cast (b := lvX (nx (c.2.2.getD i default).2)) (oCall rfl (nrat_run (c.2.2.getD i default).2 hIb.2.1 hIb.2.2 (by have := hvb.1; omega)) dD) rfl) rfl <| WD.U (oCall rfl (radd_run s (nx (c.2.2.getD i default).2) (by rw [hs]; exact hsb.mono om) (hvb.bd.mono (by decide))) dD) rfl <| WD.S0 (oSt (cs' := xc (xadd s (nx (c.2.2.getD i default).2))) rfl rfl rfl gG rfl rfl rfl rfl) ?_
 refine WD.nil (drawOk_of (by kernel_rfl)) rfl <| after_normal <| Ck [0,5,6,26,27,28,37,38,39,40,43,44,45,46,49,50,51,52] rfl <| WC.reg1z (z := 2) rfl <| WO.U (cI (((i + 1 : Nat) : Int)) (oAdd64 rfl rfl om) om) rfl <| Um rfl rfl <| Wn <| loopR_normal <| ⟨⟨i + 1, xadd s (nx (c.2.2.getD i default).2)⟩, ⟨rfl, rfl, rfl, rfl, rfl, rfl, trivial⟩, ⟨gG, trivial⟩, ⟨om, by rw [psum, ← hs]; rfl, fun j hj => ?_, om⟩, by show c.2.2.length - (i + 1) < c.2.2.length - i; omega⟩
 by_cases e : j = i
 ·rw [e]; exact hokI
 ·exact hok j om
end Go.Proofs.YthpnlndhebcngaaGreat
