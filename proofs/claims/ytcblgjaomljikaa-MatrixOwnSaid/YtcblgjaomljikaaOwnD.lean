/- Part D of the proof of matrixOwn_holds: what it rests on. No condition. -/
import Derived.Test.YtcblgjaomljikaaOwnC
set_option linter.unusedVariables false
set_option linter.unusedSimpArgs false
set_option maxRecDepth 100000
set_option maxHeartbeats 4000000
namespace Go.Proofs.Ytcblgjaomljikaa
open Go.Ab Go.RowKit
theorem long_run (k1 k2 : Nat) (xs ys : List Nat) (hx : Dg 4294967296 xs) (hy : Dg 4294967296 ys) (ty : Trm ys) (hl : 2 ≤ ys.length) (hle : ys.length ≤ xs.length) (lx : xs.length < 549755813888) : ∃ r, Run Try.prog T E0 (.call 221 [.sl k1 (xs.map d32), .sl k2 (ys.map d32)] r) ∧ ∃ qs rs, r = .tup [.sl 1 (qs.map d32), .sl 1 (rs.map d32)] ∧ Dg 4294967296 qs ∧ Dg 4294967296 rs ∧ val 4294967296 qs * val 4294967296 ys + val 4294967296 rs = val 4294967296 xs ∧ val 4294967296 rs < val 4294967296 ys ∧ qs.length ≤ xs.length ∧ rs.length = ys.length := by
 obtain ⟨sh, hsh⟩ : ∃ sh, sh = 32 - blen (ys.getD (ys.length - 1) default) := ⟨_, rfl⟩
 obtain ⟨n1, n2, n3⟩ := norm_facts hy ty hl hsh
 obtain ⟨vs, hvs⟩ : ∃ vs, vs = dgs 4294967296 (val 4294967296 ys * 2 ^ sh) := ⟨_, rfl⟩
 rw [← hvs] at n2 n3
 rw [← n2] at n3
 have hvd : Dg 4294967296 vs := by rw [hvs]; exact jX (by decide) _
 have hvv : val 4294967296 vs = val 4294967296 ys * 2 ^ sh := by rw [hvs]; exact gP (by decide) _
 have hyl : ys.getD (ys.length - 1) default < 4294967296 := bO hy om
 obtain ⟨_, _, _, hr1, us0, rfl, rfl, rfl, hud0, huv0, hul0⟩ := oQ k1 xs sh hx n1 om
 obtain ⟨_, _, _, hr2, ws, rfl, rfl, rfl, hwd, hwv, hwl⟩ := oQ k2 ys sh hy n1 om
 have htr : trim ws = vs := by rw [kK (by decide) hwd, hwv, hvs]
 have hp31 : (2 : Nat) ^ sh ≤ 2 ^ 31 := Nat.pow_le_pow_right (by decide) om
 have hp0 : 0 < (2 : Nat) ^ sh := Nat.pow_pos (by decide)
 have hV0 : 0 < val 4294967296 vs := by
  have h1 := cQ 4294967296 vs (vs.length - 1) om
  rw [cA (by omega : vs.length - 1 < vs.length)] at h1
  simp only [val] at h1
  have h2 : 0 < (4294967296 : Nat) ^ (vs.length - 1) := Nat.pow_pos (by decide)
  have h3 := Nat.mul_le_mul h2 n3
  have h4 := Nat.mul_add ((4294967296 : Nat) ^ (vs.length - 1)) (vs.getD (vs.length - 1) default) (4294967296 * val 4294967296 (List.drop (vs.length - 1 + 1) vs))
  omega
 refine fO Try.func221 J J (cW J) <| Rg 2 J <| Ua J J <| Ua J J <| Wn <| Rg 8 J <| Um J J <| Um J J <| aA (aX J J) J <| aA (dK J J om) J <| aA (bY (j := ys.length - 1) J J J J om om J) J <| aA (dQ J J J) J <| aA (cI ((sh : Int)) (aE J (zeros32_run _ hyl) (by simp)) (by rw [hsh])) J <| Ua J J <| Wn <| Rg 9 J <| Um J J <| Um J J <| bL (qL J hr1 (by simp)) J <| Um J J <| Um J J <| bL (qL J hr2 (by simp)) J <| bL (aS (b := .sl 1 (vs.map d32)) (hH [.sl 1 (ws.map d32)] [((0 + 2 + 8 + 5), { cells := (ws.map d32).flatten, sz := 1, elem := 189, st := 1 })] J (kL 1 ws om om) (.own _ (by simp) g0 (by show (0 : Nat) ≠ 2; decide) J (by decide) (by simp [keys]) J gJ dL .nil) (by intro p hp; simp at hp; subst hp; exact ⟨_, g0, by show (0 : Nat) ≠ 2; decide, rfl⟩)) (by rw [htr]; rfl)) J <| Ua J J ?_
 refine Ua J J <| Nk [6,7,8] J <| Rg 3 J <| Um J J <| aA (aX J J) J <| Ua J J <| Wn <| Rg 6 J <| Um J J <| aA (kF J J) J <| Um J J <| aA (dK J J om) J <| bL (oMk (a := xs.length + 1 - ys.length) (b := xs.length + 1 - ys.length) J J J J om om (by decide) om (by show 4 * (xs.length + 1 - ys.length) ≤ _; omega) om) J <| Ua J J <| Wn <| aC <| Rg 6 J <| Um J J <| aA (kF J J) J <| Um J J <| aA (dK J J om) J <| aA (dK J J om) J <| Ua J J ?_
 refine Nk [6,7,8,9,10,11] J <| aG <| aY (α := Nat × (List Nat) × (List Nat)) (fun ⟨k, us, qs⟩ => [(6, .v (.int .i64 (sh : Int))), (7, .ref (0 + 2 + 8 + 2) 1 0 us.length), (8, .sl 1 (vs.map d32)), (9, .v (.int .i64 (vs.length : Int))), (10, .ref (0 + 2 + 8 + 9 + 3 + 4) 1 0 qs.length), (11, .v (.int .i64 ((k : Int) - 1)))]) (fun ⟨k, us, qs⟩ => [((0 + 2 + 8 + 2), { cells := (us.map d32).flatten, sz := 1, elem := 189, st := 0 }), ((0 + 2 + 8 + 9 + 3 + 4), { cells := (qs.map d32).flatten, sz := 1, elem := 189, st := 0 })]) (fun ⟨k, us, qs⟩ n => k + vs.length ≤ us.length ∧ us.length = xs.length + 1 ∧ qs.length = xs.length + 1 - ys.length ∧ Dg 4294967296 us ∧ Dg 4294967296 qs ∧ val 4294967296 us0 = val 4294967296 (qs.drop k) * val 4294967296 vs * 4294967296 ^ k + val 4294967296 us ∧ val 4294967296 (us.drop k) < val 4294967296 vs ∧ 30 ≤ n) (fun ⟨k, us, qs⟩ => k) (xs.length + 1 - ys.length, us0, List.replicate (xs.length + 1 - ys.length) 0) ⟨rfl, rfl, rfl, rfl, congrArg some (by rw [List.length_replicate]; rfl), congrArg (fun z => some (LV.v (.int .i64 z))) om, trivial⟩ ⟨rfl, g0.trans (by rw [List.map_replicate]; rfl), trivial⟩ ⟨om, hul0, by simp, hud0, by intro d hd; simp at hd; rw [hd.2]; decide, by rw [List.drop_eq_nil_of_le (by simp)]; simp [val], long_init (n := xs.length) (by decide) huv0 (fC (by decide) hx) om om om hp0 om, om⟩ ?_
 rintro ⟨k, us, qs⟩ n hF
 change WC _ _ _ _ _ (_ :: _) (_ :: _) n _
 obtain ⟨hk, hul, hql0, hud, hqd, hU, hlt, hn30⟩ := hF
 refine aC <| Rg 2 J <| Um J J <| aA (lG J J) J <| aW (fun h54 => ?_) (fun h54 => ?_)
 rotate_left
 ·refine Wn <| aR J <| aT <| aP <| aN J ?_
  have hk0 : k = 0 := by omega
  subst hk0
  rw [List.drop_zero, Nat.pow_zero, Nat.mul_one] at hU
  rw [List.drop_zero] at hlt
  refine Rg 3 J <| Um J J <| bL (oMk (a := vs.length) (b := vs.length) J J J J om om (by decide) om (by show 4 * vs.length ≤ _; omega) om) J <| Ua J J <| Wn <| aC <| Rg 3 J <| Um J J <| aA (kF J J) J <| Um J J <| Wn <| aG <| aY (α := Nat × Nat × (List Nat)) (fun ⟨i, q3, rs⟩ => [(6, .v (.int .i64 (sh : Int))), (7, .ref (0 + 2 + 8 + 2) 1 0 us.length), (10, .ref (0 + 2 + 8 + 9 + 3 + 4) 1 0 qs.length), (25, .ref q3 1 0 rs.length), (229, .v (.int .i64 (vs.length : Int))), (230, .v (.int .i64 (i : Int)))]) (fun ⟨i, q3, rs⟩ => [((0 + 2 + 8 + 2), { cells := (us.map d32).flatten, sz := 1, elem := 189, st := 0 }), ((0 + 2 + 8 + 9 + 3 + 4), { cells := (qs.map d32).flatten, sz := 1, elem := 189, st := 0 }), (q3, { cells := (rs.map d32).flatten, sz := 1, elem := 189, st := 0 })]) (fun ⟨i, q3, rs⟩ n => i ≤ vs.length ∧ rs.length = vs.length ∧ Dg 4294967296 rs ∧ val 4294967296 rs = (val 4294967296 (us.take (i + 1)) / 2 ^ sh) % 4294967296 ^ i ∧ (∀ j, i ≤ j → rs.getD j default = 0) ∧ 30 ≤ q3) (fun ⟨i, q3, rs⟩ => vs.length - i) (0, n + 2 + 1, List.replicate vs.length 0) ⟨rfl, rfl, rfl, congrArg some (by rw [List.length_replicate]; rfl), rfl, rfl, trivial⟩ ⟨g1 om g0, g1 om (g1 (by decide) g0), g0.trans (by rw [List.map_replicate]; rfl), trivial⟩ ⟨Nat.zero_le _, by simp, by intro d hd; simp at hd; rw [hd.2]; decide, by rw [nY, Nat.pow_zero, Nat.mod_one], fun j _ => jG _ _, om⟩ ?_
  rintro ⟨i, q3, rs⟩ n hR
  change WC _ _ _ _ _ (_ :: _) (_ :: _) n _
  obtain ⟨hi, hrl, hrd, hrv, hrz, hq3⟩ := hR
  refine Rg 1 J <| aA (bS J J) J <| aW (fun h231 => ?_) (fun h231 => ?_)
  rotate_left
  ·refine Wn <| aR J <| aT <| aP <| aN J ?_
   have hi' : i = vs.length := by omega
   subst hi'
   rw [rest_end (Nat.lt_trans hlt (fC (by decide) hvd)) om] at hrv
   obtain ⟨hx1, hx2⟩ := unshift hp0 (show val 4294967296 xs * 2 ^ sh = val 4294967296 qs * (val 4294967296 ys * 2 ^ sh) + val 4294967296 us by rw [← hvv, ← huv0, hU]) (by rw [← hvv]; exact hlt)
   rw [← hrv] at hx1 hx2
   refine Rg 4 J <| Um J J <| Um J J <| Ua J J <| Ua J J <| Wn <| aK <| ⟨.tup [.sl 1 (qs.map d32), .sl 1 (rs.map d32)], ⟨qs, rs, rfl, hqd, hrd, hx1, hx2, om, om⟩, ?_⟩
   exact mM (n := 0) [((0 + 2 + 8 + 9 + 3 + 4), { cells := (qs.map d32).flatten, sz := 1, elem := 189, st := 1 }), (q3, { cells := (rs.map d32).flatten, sz := 1, elem := 189, st := 1 })] (.inr J) J (.own _ (by simp) (g1 om g0) (by show (0 : Nat) ≠ 2; decide) J (by decide) (by simp [keys]) J gJ dL (.own _ (by simp) (g1 om (g1 om g0)) (by show (0 : Nat) ≠ 2; decide) J (by decide) (by simp [keys]) J gJ dL .nil)) (by intro p hp; simp at hp; rcases hp with hp | hp <;> subst hp; exact ⟨_, g1 om g0, by show (0 : Nat) ≠ 2; decide, rfl⟩; exact ⟨_, g1 om (g1 om g0), by show (0 : Nat) ≠ 2; decide, rfl⟩)
  refine Wn <| aV J <| aF <| aG <| Rg 2 J <| Um J J <| Ua J J <| cM ?_
  have hux : us.getD i default < 4294967296 := bO hud om
  have huy : us.getD (i + 1) default < 4294967296 := bO hud om
  obtain ⟨Z, hZ⟩ : ∃ Z, Z = (us.getD i default + us.getD (i + 1) default * 4294967296) / 2 ^ sh := ⟨_, rfl⟩
  refine dR (z := 20) J kR <| Dm J J <| Dm J J <| Dm J J <| Dm J J <| aL (cC J J J J J om J) J <| aL (dZ (f := d32) (us := us) (j := i) J J g0 (fun _ => rfl) J (by decide) om J) J <| aL (cI ((us.getD i default : Int)) (bX J J J) (by rw [IntKind.wrap_u64]; omega)) J <| Dm J J <| Dm J J <| aL (cI (((i + 1 : Nat) : Int)) (aQ J J om) om) J <| aL (cC (j := i + 1) J J J J om om J) J <| aL (dZ (f := d32) (us := us) (j := i + 1) J J g0 (fun _ => rfl) J (by decide) om J) J <| aL (cI ((us.getD (i + 1) default : Int)) (bX J J J) (by rw [IntKind.wrap_u64]; omega)) J <| aL (cI (((us.getD (i + 1) default * 4294967296 : Nat) : Int)) (oShlU (s := 32) J J om) om) J <| aL (eW (v := .int .u64 (((us.getD i default + us.getD (i + 1) default * 4294967296) : Nat) : Int)) J J (or_lo om om)) J <| Dm J J <| aL (cI ((Z : Int)) (eB (s := sh) J J om) (by rw [hZ]; simp)) J <| aL (cI (((Z % 4294967296 : Nat) : Int)) (bX J J J) (by rw [IntKind.wrap_u32]; omega)) J <| aL (cC J J J J J om J) J <| dP (eA (f := d32) (us := rs) (Z % 4294967296) J J J (g1 om (g1 om g0)) (fun _ => rfl) J J om J) <| bT (bE kR) J <| aD <| Ck [6,7,10,25,229,230] J ?_
  refine aI (z := 2) J <| aA (cI (((i + 1 : Nat) : Int)) (aQ J J om) om) J <| Um J J <| Wn <| aH <| ⟨⟨i + 1, q3, rs.set i (Z % 4294967296)⟩, ⟨rfl, rfl, rfl, congrArg some (by rw [List.length_set]), rfl, rfl, trivial⟩, ⟨g1 om g0, g1 om (g1 (by decide) g0), g0, trivial⟩, ⟨om, by rw [List.length_set]; exact hrl, hrd.set _ (Nat.mod_lt _ (by decide)), by rw [hZ]; exact rest_set om om hud om (hrz i (Nat.le_refl _)) hrv, ?_, hq3⟩, by show vs.length - (i + 1) < vs.length - i; omega⟩
  intro j hj
  rw [gR om]; exact hrz j om
 refine Wn <| aV J <| aF <| aG ?_
 have hu0 : us.getD (k - 1 + vs.length) default < 4294967296 := bO hud om
 have hu1 : us.getD (k - 1 + vs.length - 1) default < 4294967296 := bO hud om
 have LQh := lq_make (B := 4294967296) (by decide) (j := k - 1) hud hvd om om om (by rw [show k - 1 + 1 = k by omega]; exact hlt)
 obtain ⟨top, htop⟩ : ∃ top, top = us.getD (k - 1 + vs.length) default * 4294967296 + us.getD (k - 1 + vs.length - 1) default := ⟨_, rfl⟩
 obtain ⟨u2, hu2⟩ : ∃ z, z = us.getD (k - 1 + vs.length - 2) default := ⟨_, rfl⟩
 obtain ⟨v1, hv1⟩ : ∃ z, z = vs.getD (vs.length - 1) default := ⟨_, rfl⟩
 obtain ⟨v2, hv2⟩ : ∃ z, z = vs.getD (vs.length - 2) default := ⟨_, rfl⟩
 rw [← htop, ← hu2, ← hv1, ← hv2] at LQh
 have lu2 : u2 < 4294967296 := by rw [hu2]; exact bO hud om
 have lv1 : v1 < 4294967296 := by rw [hv1]; exact bO hvd om
 have lv2 : v2 < 4294967296 := by rw [hv2]; exact bO hvd om
 have gv1 : 2147483648 ≤ v1 := by rw [hv1]; exact n3
 have htop2 : top < 18446744073709551616 := by omega
 have hRB := LQh.lt_pow (fC (B := 4294967296) (by decide) hvd)
 refine cJ (z := 18) J kR <| Dm J J <| Dm J J <| Dm J J <| aL (cI (((k - 1 + vs.length : Nat) : Int)) (aQ J J om) om) J <| aL (cC (j := k - 1 + vs.length) J J J J om om J) J <| aL (dZ (f := d32) (us := us) (j := k - 1 + vs.length) J J g0 (fun _ => rfl) J (by decide) om J) J <| aL (cI ((us.getD (k - 1 + vs.length) default : Int)) (bX J J J) (by rw [IntKind.wrap_u64]; omega)) J <| aL (cI (((us.getD (k - 1 + vs.length) default * 4294967296 : Nat) : Int)) (oShlU (s := 32) J J om) om) J <| Dm J J <| Dm J J <| Dm J J <| aL (cI (((k - 1 + vs.length : Nat) : Int)) (aQ J J om) om) J <| aL (dK J J om) J <| aL (cC (j := k - 1 + vs.length - 1) J J J J om om J) J <| aL (dZ (f := d32) (us := us) (j := k - 1 + vs.length - 1) J J g0 (fun _ => rfl) J (by decide) om J) J <| aL (cI ((us.getD (k - 1 + vs.length - 1) default : Int)) (bX J J J) (by rw [IntKind.wrap_u64]; omega)) J <| aL (cI ((top : Int)) (eW (v := .int .u64 ((us.getD (k - 1 + vs.length) default * 4294967296 + us.getD (k - 1 + vs.length - 1) default : Nat) : Int)) J J (or_hi om om)) (by rw [htop])) J <| aL (fV J) J <| bT (bE kR) J <| Ck [6,7,8,9,10,11,12] J <| Rg 9 J <| Um J J <| Um J J ?_
 refine Um J J <| aA (dK J J om) J <| aA (bY (j := vs.length - 1) J J J J om om J) J <| aA (dQ J J J) J <| aA (cI ((v1 : Int)) (bX J J J) (by rw [IntKind.wrap_u64]; omega)) J <| aA (oQuoU J J om om) J <| Ua J J <| Nk [6,7,8,9,10,11,12,13] J <| Rg 9 J <| Um J J <| Um J J <| Um J J <| aA (dK J J om) J <| aA (bY (j := vs.length - 1) J J J J om om J) J <| aA (dQ J J J) J <| aA (cI ((v1 : Int)) (bX J J J) (by rw [IntKind.wrap_u64]; omega)) J <| aA (oRemU J J om) J <| Ua J J <| Nk [6,7,8,9,10,11,13,14] J <| aG <| aY (α := Nat × Nat) (fun ⟨qh, rh⟩ => [(6, .v (.int .i64 (sh : Int))), (7, .ref (0 + 2 + 8 + 2) 1 0 us.length), (8, .sl 1 (vs.map d32)), (9, .v (.int .i64 (vs.length : Int))), (10, .ref (0 + 2 + 8 + 9 + 3 + 4) 1 0 qs.length), (11, .v (.int .i64 ((k : Int) - 1))), (13, .v (.int .u64 (qh : Int))), (14, .v (.int .u64 (rh : Int)))]) (fun ⟨qh, rh⟩ => [((0 + 2 + 8 + 2), { cells := (us.map d32).flatten, sz := 1, elem := 189, st := 0 }), ((0 + 2 + 8 + 9 + 3 + 4), { cells := (qs.map d32).flatten, sz := 1, elem := 189, st := 0 })]) (fun ⟨qh, rh⟩ n => top = qh * v1 + rh ∧ val 4294967296 (us.drop (k - 1)) / val 4294967296 vs ≤ qh ∧ qh ≤ 4294967297 ∧ rh < 4294967296 ∧ 30 ≤ n) (fun ⟨qh, rh⟩ => qh) (top / v1, top % v1) ⟨J, J, J, J, J, J, J, J, trivial⟩ ⟨g0, g1 (by decide) g0, trivial⟩ ⟨(Nat.div_add_mod' top v1).symm, lq_start LQh (by decide), lq_first LQh (by decide), by have := Nat.mod_lt top (show 0 < v1 by omega); omega, om⟩ ?_
 rintro ⟨qh, rh⟩ n hG
 change WC _ _ _ _ _ (_ :: _) (_ :: _) n _
 obtain ⟨hG1, hG2, hG3, hG4, hn31⟩ := hG
 refine aC <| cJ (z := 24) J kR <| Dm J J <| aL (lG J J) J <| WD.D (fun h91 => ?_) (fun h91 => ?_)
 ·refine Dm J J <| iN J J <| iN J J <| iN J J <| iN J J <| iN J J <| iN J J <| iN J J <| iN J J <| iN J J <| iN J J <| iN J J <| iN J J <| iN J J <| iN J J <| iN J J <| iN J J <| iN J J <| iN J J <| iN J J <| iN J J <| aL (cG J J) J <| bT (bE kR) J <| Ck [6,7,8,9,10,11,13,14,93,94,95,96,97,98,99,100,101,102,103,104,105,106,107,108,109,110,111,112,113] J ?_
  refine aV J <| aF <| eQ ?_
  obtain ⟨hdc1, hdc2⟩ := lq_dec LQh hG1 hG2 (by first | exact .inl om | exact .inr om)
  refine Rg 3 J <| Um J J <| aA (cI (((qh - 1 : Nat) : Int)) (gH J J) om) J <| Ua J J <| Nk [6,7,8,9,10,11,13,14,93,94,95,96,97,98,99,100,101,102,103,104,105,106,107,108,109,110,111,112] J <| Rg 9 J <| Um J J <| Um J J <| Um J J <| aA (dK J J om) J <| aA (bY (j := vs.length - 1) J J J J om om J) J <| aA (dQ J J J) J <| aA (cI ((v1 : Int)) (bX J J J) (by rw [IntKind.wrap_u64]; omega)) J <| aA (cI (((rh + v1 : Nat) : Int)) (iT J J) om) J <| Ua J J <| Nk [6,7,8,9,10,11,13,14,93,94,95,96,97,98,99,100,101,102,103,104,105,106,107,108,109,110,111,112] J <| Rg 2 J <| Um J J <| aA (lG J J) J <| aW (fun h125 => ?_) (fun h125 => ?_)
  rotate_left
  ·refine Nk [6,7,8,9,10,11,13,14,93,94,95,96,97,98,99,100,101,102,103,104,105,106,107,108,109,110,111,112,125] J <| bH J <| bJ <| eX <| aH <| ⟨⟨qh - 1, rh + v1⟩, ⟨J, J, J, J, J, J, J, J, trivial⟩, ⟨g0, g1 (by decide) g0, trivial⟩, ⟨dec_eq hG1 hdc1, hdc2, om, om, om⟩, by show qh - 1 < qh; omega⟩
  refine Nk [6,7,8,9,10,11,13,14,93,94,95,96,97,98,99,100,101,102,103,104,105,106,107,108,109,110,111,112,125] J <| bI J <| WC.exit <| lX J <| aP <| aN J <| Ck [6,7,8,9,10,11,13,93,94,95,96,97,98,99,100,101,102,103,104,105,106,107,108,109,110,111,112] J ?_
  obtain ⟨hql, hqo⟩ := lq_break LQh hG1 hdc1 hG4 om hG3
  replace hG2 := hdc2
  obtain ⟨q1, hq1⟩ : ∃ q1, q1 = qh - 1 := ⟨_, rfl⟩
  rw [← hq1] at hqo hql hG2 ⊢
  refine Rg 2 J <| Ua J J <| Ua J J <| Nk [6,7,8,9,10,11,13,15,16,93,94,95,96,97,98,99,100,101,102,103,104,105,106,107,108,109,110,111,112] J <| aC <| Rg 3 J <| Um J J <| aA (aX J J) J <| Um J J <| Nk [6,7,8,9,10,11,13,15,16,93,94,95,96,97,98,99,100,101,102,103,104,105,106,107,108,109,110,111,112,126,127,128] J <| aG ?_
  refine aY (α := Nat × Nat × Nat × (List Nat)) (fun ⟨i, c, b, us1⟩ => [(6, .v (.int .i64 (sh : Int))), (7, .ref (0 + 2 + 8 + 2) 1 0 us1.length), (8, .sl 1 (vs.map d32)), (9, .v (.int .i64 (vs.length : Int))), (10, .ref (0 + 2 + 8 + 9 + 3 + 4) 1 0 qs.length), (11, .v (.int .i64 ((k : Int) - 1))), (13, .v (.int .u64 (q1 : Int))), (15, .v (.int .u64 (b : Int))), (16, .v (.int .u64 (c : Int))), (126, .sl 1 (vs.map d32)), (127, .v (.int .i64 (vs.length : Int))), (128, .v (.int .i64 (i : Int)))]) (fun ⟨i, c, b, us1⟩ => [((0 + 2 + 8 + 2), { cells := (us1.map d32).flatten, sz := 1, elem := 189, st := 0 }), ((0 + 2 + 8 + 9 + 3 + 4), { cells := (qs.map d32).flatten, sz := 1, elem := 189, st := 0 })]) (fun ⟨i, c, b, us1⟩ n => i ≤ vs.length ∧ us1.length = us.length ∧ Dg 4294967296 us1 ∧ c < 4294967296 ∧ b ≤ 1 ∧ val 4294967296 us1 + 4294967296 ^ (k - 1) * (q1 * val 4294967296 (vs.take i)) = val 4294967296 us + 4294967296 ^ (k - 1 + i) * (c + b) ∧ us1.take (k - 1) = us.take (k - 1) ∧ us1.drop (k - 1 + i) = us.drop (k - 1 + i) ∧ 30 ≤ n) (fun ⟨i, c, b, us1⟩ => vs.length - i) (0, 0, 0, us) ⟨J, J, J, J, J, J, J, J, J, J, J, J, trivial⟩ ⟨g0, g1 (by decide) g0, trivial⟩ ⟨Nat.zero_le _, rfl, hud, by decide, by decide, by simp [val], rfl, rfl, om⟩ ?_
  rintro ⟨i, c, b, us1⟩ n hL
  change WC _ _ _ _ _ (_ :: _) (_ :: _) n _
  obtain ⟨hi, hl1, hd1, hc1, hb1, he1, ht1, hp1, hn32⟩ := hL
  refine Rg 1 J <| aA (bS J J) J <| aW (fun h129 => ?_) (fun h129 => ?_)
  ·refine Wn <| aV J <| aF <| aG ?_
   have hvi : vs.getD i default < 4294967296 := bO hvd om
   have hui : us1.getD (k - 1 + i) default < 4294967296 := bO hd1 om
   have hqv := gQ hql hvi
   obtain ⟨p, hpe⟩ : ∃ p, p = q1 * vs.getD i default + c := ⟨_, rfl⟩
   obtain ⟨u, hue⟩ : ∃ u, u = us1.getD (k - 1 + i) default := ⟨_, rfl⟩
   have hpb : p < 18446744073709551616 := by omega
   obtain ⟨d, hde⟩ : ∃ d, d = (u + 4294967296 - p % 4294967296 - b) % 4294967296 := ⟨_, rfl⟩
   refine Rg 5 J <| Um J J <| aA (bY J J J J J om J) J <| aA (dQ J J J) J <| Ua J J <| Ua J J <| Nk [6,7,8,9,10,11,13,15,16,17,18,126,127,128] J <| Rg 7 J <| Um J J <| Um J J <| aA (cI ((vs.getD i default : Int)) (bX J J J) (by rw [IntKind.wrap_u64]; omega)) J <| aA (cI (((q1 * vs.getD i default : Nat) : Int)) (lJ J J) (by rw [← Int.natCast_mul]; omega)) J <| Um J J <| aA (cI ((p : Int)) (iT J J) om) J <| Ua J J <| Nk [6,7,8,9,10,11,13,15,17,19,126,127,128] J <| Rg 3 J <| Um J J <| aA (cI (((p / 4294967296 : Nat) : Int)) (eB (s := 32) J J om) om) J <| Ua J J <| Nk [6,7,8,9,10,11,13,15,16,17,19,126,127,128] J ?_
   refine Rg 14 J <| Um J J <| Um J J <| Um J J <| aA (cI (((k - 1 + i : Nat) : Int)) (aQ J J om) om) J <| aA (cC (j := k - 1 + i) J J J J om om J) J <| aA (dZ (f := d32) (us := us1) (j := k - 1 + i) J J g0 (fun _ => rfl) J (by decide) om J) J <| aA (cI ((u : Int)) (bX J J J) (by rw [IntKind.wrap_u64]; omega)) J <| Um J J <| aA (cI (((p % 4294967296 : Nat) : Int)) (bX J J J) (by rw [IntKind.wrap_u32]; omega)) J <| aA (cI (((p % 4294967296 : Nat) : Int)) (bX J J J) (by rw [IntKind.wrap_u64]; omega)) J <| aA (gH J J) J <| Um J J <| aA (cI (((((u + 18446744073709551616 - p % 4294967296 - b) % 18446744073709551616) : Nat) : Int)) (gH J J) om) J <| Ua J J <| Nk [6,7,8,9,10,11,13,16,17,20,126,127,128] J <| Rg 8 J <| Um J J <| Um J J <| Um J J <| aA (cI (((k - 1 + i : Nat) : Int)) (aQ J J om) om) J <| Um J J <| aA (cI ((d : Int)) (bX J J J) (by rw [IntKind.wrap_u32]; omega)) J ?_
   refine aA (cC (j := k - 1 + i) J J J J om om J) J <| bB (eA (f := d32) (us := us1) d J J J g0 (fun _ => rfl) J J om J) <| Nk [6,7,8,9,10,11,13,16,20,126,127,128] J <| aI (z := 3) J <| Um J J <| aA (cI (((if u < p % 4294967296 + b then 1 else 0 : Nat) : Int)) (eB (s := 63) J J om) (by split <;> omega)) J <| Ua J J <| Wn <| aD <| Ck [6,7,8,9,10,11,13,15,16,126,127,128] J <| aI (z := 2) J <| aA (cI (((i + 1 : Nat) : Int)) (aQ J J om) om) J <| Um J J <| Wn <| aH <| ⟨⟨i + 1, p / 4294967296, if u < p % 4294967296 + b then 1 else 0, us1.set (k - 1 + i) d⟩, ⟨rfl, congrArg some (by rw [List.length_set]), rfl, rfl, rfl, rfl, rfl, rfl, rfl, rfl, rfl, rfl, trivial⟩, ⟨g0, g1 (by decide) (g1 (by decide) g0), trivial⟩, ⟨om, by rw [List.length_set]; exact hl1, hd1.set _ om, om, by split <;> omega, ?_, by rw [cK om]; exact ht1, by rw [cX om]; exact eT hp1 om, om⟩, by show vs.length - (i + 1) < vs.length - i; omega⟩
   rw [hpe]
   exact kJ he1 om (by rw [← hpe, ← hue, hde]; split <;> omega)
  refine Wn <| aR J <| aT <| aP <| aN J ?_
  have hi' : i = vs.length := by omega
  subst hi'
  rw [List.take_of_length_le (Nat.le_refl _)] at he1
  obtain ⟨u, hue⟩ : ∃ u, u = us1.getD (k - 1 + vs.length) default := ⟨_, rfl⟩
  have hul1 : u < 4294967296 := by rw [hue]; exact bO hd1 om
  obtain ⟨d, hde⟩ : ∃ d, d = (u + 4294967296 - c - b) % 4294967296 := ⟨_, rfl⟩
  have hd4 : d < 4294967296 := by omega
  refine Rg 12 J <| Um J J <| Um J J <| Um J J <| aA (cI (((k - 1 + vs.length : Nat) : Int)) (aQ J J om) om) J <| aA (cC (j := k - 1 + vs.length) J J J J om om J) J <| aA (dZ (f := d32) (us := us1) (j := k - 1 + vs.length) J J g0 (fun _ => rfl) J (by decide) om J) J <| aA (cI ((u : Int)) (bX J J J) (by rw [IntKind.wrap_u64]; omega)) J <| Um J J <| aA (gH J J) J <| Um J J <| aA (cI (((((u + 18446744073709551616 - c - b) % 18446744073709551616) : Nat) : Int)) (gH J J) om) J <| Ua J J <| Nk [6,7,8,9,10,11,13,21] J <| Rg 8 J <| Um J J <| Um J J <| Um J J <| aA (cI (((k - 1 + vs.length : Nat) : Int)) (aQ J J om) om) J <| Um J J <| aA (cI ((d : Int)) (bX J J J) (by rw [IntKind.wrap_u32]; omega)) J <| aA (cC (j := k - 1 + vs.length) J J J J om om J) J <| bB (eA (f := d32) (us := us1) d J J J g0 (fun _ => rfl) J J om J) ?_
  refine Nk [6,7,8,9,10,11,13,21] J <| aC <| Rg 3 J <| Um J J <| aA (cI (((if u < c + b then 1 else 0 : Nat) : Int)) (eB (s := 63) J J om) (by split <;> omega)) J <| aA (fR J J) J <| aW (fun h184 => ?_) (fun h184 => ?_)
  rotate_left
  ·have hneg : c + b ≤ u := by
    rcases Nat.lt_or_ge u (c + b) with h | h
    ·rw [if_pos h] at h184; simp at h184
    ·exact h
   have hs2 := iW (o := 0) (d := d) he1 om (by rw [← hue]; omega)
   rw [Nat.mul_zero, Nat.add_zero] at hs2
   refine Wn <| aR J <| aF ?_
   have hlF : (us1.set (k - 1 + vs.length) d).length = us.length := by rw [List.length_set]; exact hl1
   have hdF : Dg 4294967296 (us1.set (k - 1 + vs.length) d) := hd1.set _ hd4
   have hltF := nN (by decide) hV0 om om (by rw [cK om]; exact ht1) hs2 hG2
   have hUF := gS (qs := qs) (j := k - 1) om (by rw [show k - 1 + 1 = k by omega]; exact hU) hs2
   refine aI (z := 6) J <| Um J J <| Um J J <| Um J J <| aA (cI ((q1 : Int)) (bX J J J) (by rw [IntKind.wrap_u32]; omega)) J <| aA (cC (j := k - 1) J J J J om om J) J <| bB (eA (f := d32) (us := qs) q1 J J J (g1 (by decide) (g1 (by decide) g0)) (fun _ => rfl) J J om J) <| Wn <| aD <| Ck [6,7,8,9,10,11] J <| aI (z := 3) J <| Um J J <| aA (cI (((k - 1 : Nat) : Int) - 1) (dK J J om) om) J <| Ua J J <| Wn <| aH <| ⟨⟨k - 1, (us1.set (k - 1 + vs.length) d), qs.set (k - 1) q1⟩, ⟨rfl, congrArg some (by rw [List.length_set]), rfl, rfl, congrArg some (by rw [List.length_set]), rfl, trivial⟩, ⟨g1 (by decide) g0, g0, trivial⟩, ⟨by rw [hlF]; omega, by rw [hlF]; exact hul, by rw [List.length_set]; exact hql0, hdF, hqd.set _ om, hUF, hltF, om⟩, by show k - 1 < k; omega⟩
  have hneg : u < c + b := by
   rcases Nat.lt_or_ge u (c + b) with h | h
   ·exact h
   ·rw [if_neg om] at h184; simp at h184
  have hs2 := iW (o := 1) (d := d) he1 om (by rw [← hue]; omega)
  have hlT : (us1.set (k - 1 + vs.length) d).length = us.length := by rw [List.length_set]; exact hl1
  have hdT : Dg 4294967296 (us1.set (k - 1 + vs.length) d) := hd1.set _ hd4
  have htT : (us1.set (k - 1 + vs.length) d).take (k - 1) = us.take (k - 1) := by rw [cK om]; exact ht1
  have hpT : (us1.set (k - 1 + vs.length) d).drop (k - 1 + vs.length + 1) = us.drop (k - 1 + vs.length + 1) := by rw [cX om]; exact eT hp1 om
  obtain ⟨hgt, hq1p⟩ := neg_gt (by decide) hdT om hlT hRB hpT htT hs2
  refine Wn <| aV J <| aC <| Rg 3 J <| Um J J <| aA (cI (((q1 - 1 : Nat) : Int)) (gH J J) om) J <| Ua J J <| Wn <| aC <| Rg 1 J <| Ua J J <| Wn <| aC <| aC <| Rg 3 J <| Um J J <| aA (aX J J) J <| Um J J <| Nk [6,7,8,9,10,11,13,22,187,188,189] J <| aG <| aY (α := Nat × Nat × (List Nat)) (fun ⟨i2, c2, us3⟩ => [(6, .v (.int .i64 (sh : Int))), (7, .ref (0 + 2 + 8 + 2) 1 0 us3.length), (8, .sl 1 (vs.map d32)), (9, .v (.int .i64 (vs.length : Int))), (10, .ref (0 + 2 + 8 + 9 + 3 + 4) 1 0 qs.length), (11, .v (.int .i64 ((k : Int) - 1))), (13, .v (.int .u64 ((q1 - 1 : Nat) : Int))), (22, .v (.int .u32 (c2 : Int))), (187, .sl 1 (vs.map d32)), (188, .v (.int .i64 (vs.length : Int))), (189, .v (.int .i64 (i2 : Int)))]) (fun ⟨i2, c2, us3⟩ => [((0 + 2 + 8 + 2), { cells := (us3.map d32).flatten, sz := 1, elem := 189, st := 0 }), ((0 + 2 + 8 + 9 + 3 + 4), { cells := (qs.map d32).flatten, sz := 1, elem := 189, st := 0 })]) (fun ⟨i2, c2, us3⟩ n => i2 ≤ vs.length ∧ us3.length = us.length ∧ Dg 4294967296 us3 ∧ c2 ≤ 1 ∧ val 4294967296 us3 + 4294967296 ^ (k - 1 + i2) * c2 = val 4294967296 (us1.set (k - 1 + vs.length) d) + 4294967296 ^ (k - 1) * val 4294967296 (vs.take i2) ∧ us3.take (k - 1) = us.take (k - 1) ∧ us3.drop (k - 1 + vs.length) = (us1.set (k - 1 + vs.length) d).drop (k - 1 + vs.length) ∧ 30 ≤ n) (fun ⟨i2, c2, us3⟩ => vs.length - i2) (0, 0, (us1.set (k - 1 + vs.length) d)) ⟨rfl, congrArg some (by rw [List.length_set]), rfl, rfl, rfl, rfl, rfl, rfl, rfl, rfl, rfl, trivial⟩ ⟨g0, g1 (by decide) (g1 (by decide) g0), trivial⟩ ⟨Nat.zero_le _, hlT, hdT, by decide, by simp [val], htT, rfl, om⟩ ?_
  rintro ⟨i2, c2, us3⟩ n hM
  change WC _ _ _ _ _ (_ :: _) (_ :: _) n _
  obtain ⟨hi2, hl3, hd3, hc3, he3, ht3, hp3, hn33⟩ := hM
  refine Rg 1 J <| aA (bS J J) J <| aW (fun h190 => ?_) (fun h190 => ?_)
  ·refine Wn <| aV J <| aF <| aG <| Rg 5 J <| Um J J <| aA (bY J J J J J om J) J <| aA (dQ J J J) J <| Ua J J <| Ua J J <| Nk [6,7,8,9,10,11,13,22,23,24,187,188,189] J ?_
   have hu3 : us3.getD (k - 1 + i2) default < 4294967296 := bO hd3 om
   have hv3 : vs.getD i2 default < 4294967296 := bO hvd om
   refine aI (z := 19) J <| Um J J <| Um J J <| Um J J <| aA (cI (((k - 1 + i2 : Nat) : Int)) (aQ J J om) om) J <| Um J J <| Um J J <| Um J J <| aA (cI (((k - 1 + i2 : Nat) : Int)) (aQ J J om) om) J <| aA (cC (j := k - 1 + i2) J J J J om om J) J <| aA (dZ (f := d32) (us := us3) (j := k - 1 + i2) J J g0 (fun _ => rfl) J (by decide) om J) J <| Um J J <| Um J J <| aA (aE J (iO (us3.getD (k - 1 + i2) default) (vs.getD i2 default) c2 hu3 hv3 hc3) (by simp)) J <| Um J J <| aA (bU J J) J <| aA (bU J J) J <| aA (cC (j := k - 1 + i2) J J J J om om J) J <| bB (eA (f := d32) (us := us3) ((us3.getD (k - 1 + i2) default + vs.getD i2 default + c2) % 4294967296) J J J g0 (fun _ => rfl) J J om J) <| Ua J J <| Wn <| aD <| Ck [6,7,8,9,10,11,13,22,187,188,189] J <| aI (z := 2) J ?_
   refine aA (cI (((i2 + 1 : Nat) : Int)) (aQ J J om) om) J <| Um J J <| Wn <| aH <| ⟨⟨i2 + 1, _, us3.set (k - 1 + i2) ((us3.getD (k - 1 + i2) default + vs.getD i2 default + c2) % 4294967296)⟩, ⟨rfl, congrArg some (by rw [List.length_set]), rfl, rfl, rfl, rfl, rfl, rfl, rfl, rfl, rfl, trivial⟩, ⟨g0, g1 (by decide) (g1 (by decide) g0), trivial⟩, ⟨om, by rw [List.length_set]; exact hl3, hd3.set _ om, om, iZ he3 om, by rw [cK om]; exact ht3, by rw [cX om]; exact hp3, om⟩, by show vs.length - (i2 + 1) < vs.length - i2; omega⟩
  refine Wn <| aR J <| aT <| aP <| aN J ?_
  have hi' : i2 = vs.length := by omega
  subst hi'
  rw [List.take_of_length_le (Nat.le_refl _)] at he3
  have hu3 : us3.getD (k - 1 + vs.length) default < 4294967296 := bO hd3 om
  refine Rg 10 J <| Um J J <| Um J J <| Um J J <| aA (cI (((k - 1 + vs.length : Nat) : Int)) (aQ J J om) om) J <| aA (cC (j := k - 1 + vs.length) J J J J om om J) J <| aA (dZ (f := d32) (us := us3) (j := k - 1 + vs.length) J J g0 (fun _ => rfl) J (by decide) om J) J <| Um J J <| aA (cI ((((us3.getD (k - 1 + vs.length) default + c2) % 4294967296 : Nat) : Int)) (oAdd32 J J) om) J <| aA (cC (j := k - 1 + vs.length) J J J J om om J) J <| bB (eA (f := d32) (us := us3) ((us3.getD (k - 1 + vs.length) default + c2) % 4294967296) J J J g0 (fun _ => rfl) J J om J) <| Nk [6,7,8,9,10,11,13] J ?_
  have hlF : (us3.set (k - 1 + vs.length) ((us3.getD (k - 1 + vs.length) default + c2) % 4294967296)).length = us.length := by rw [List.length_set]; exact hl3
  have hdF : Dg 4294967296 (us3.set (k - 1 + vs.length) ((us3.getD (k - 1 + vs.length) default + c2) % 4294967296)) := hd3.set _ om
  have h4 := iY he3 om
  obtain ⟨hs4, hltF⟩ := pQ (by decide) hV0 hdF om hlF hRB (by rw [cX om]; exact (eT hp3 om).trans hpT) (by rw [cK om]; exact ht3) hs2 h4 hG2 hq1p hqo hgt om
  have hUF := gS (qs := qs) (j := k - 1) om (by rw [show k - 1 + 1 = k by omega]; exact hU) hs4
  refine aI (z := 6) J <| Um J J <| Um J J <| Um J J <| aA (cI (((q1 - 1 : Nat) : Int)) (bX J J J) (by rw [IntKind.wrap_u32]; omega)) J <| aA (cC (j := k - 1) J J J J om om J) J <| bB (eA (f := d32) (us := qs) (q1 - 1) J J J (g1 (by decide) (g1 (by decide) g0)) (fun _ => rfl) J J om J) <| Wn <| aD <| aI (z := 3) J <| Um J J <| aA (cI (((k - 1 : Nat) : Int) - 1) (dK J J om) om) J <| Ua J J <| Wn <| aH <| ⟨⟨k - 1, (us3.set (k - 1 + vs.length) ((us3.getD (k - 1 + vs.length) default + c2) % 4294967296)), qs.set (k - 1) (q1 - 1)⟩, ⟨rfl, congrArg some (by rw [List.length_set]), rfl, rfl, congrArg some (by rw [List.length_set]), rfl, trivial⟩, ⟨g1 (by decide) g0, g0, trivial⟩, ⟨by rw [hlF]; omega, by rw [hlF]; exact hul, by rw [List.length_set]; exact hql0, hdF, hqd.set _ om, hUF, hltF, om⟩, by show k - 1 < k; omega⟩
 refine Dm J J <| fF J (cR J) J <| fF J (cR J) J <| fF J (cR J) J <| fF J (dK J J om) J <| fF J (bY (j := vs.length - 2) J J J J om om J) J <| fF J (dQ J J J) J <| fF J (cI ((v2 : Int)) (bX J J J) (by rw [IntKind.wrap_u64]; omega)) J <| fF J (cI (((qh * v2 : Nat) : Int)) (lJ J J) (by rw [← Int.natCast_mul]; have := gQ (a := qh) (b := v2) om om; omega)) J <| fF J (cR J) J <| fF J (cI (((rh * 4294967296 : Nat) : Int)) (oShlU (s := 32) J J om) om) J <| fF J (cR J) J <| fF J (cR J) J <| fF J (cR J) J <| fF J (cI (((k - 1 + vs.length : Nat) : Int)) (aQ J J om) om) J <| fF J (dK J J om) J <| fF J (cC (j := k - 1 + vs.length - 2) J J J J om om J) J <| fF J (dZ (f := d32) (us := us) (j := k - 1 + vs.length - 2) J J g0 (fun _ => rfl) J (by decide) om J) J <| fF J (cI ((u2 : Int)) (bX J J J) (by rw [IntKind.wrap_u64]; omega)) J <| fF J (eW (v := .int .u64 ((rh * 4294967296 + u2 : Nat) : Int)) J J (or_hi om om)) J <| fF J (fU J J) J <| WD.D (fun h112 => ?_) (fun h112 => ?_)
 rotate_left
 ·refine aL (cD J J) J <| bT (bE kR) J <| Ck [6,7,8,9,10,11,13,14,93,94,95,96,97,98,99,100,101,102,103,104,105,106,107,108,109,110,111,112,113] J <| aR J <| aT <| aP <| aN J <| Ck [6,7,8,9,10,11,13,93,94,95,96,97,98,99,100,101,102,103,104,105,106,107,108,109,110,111,112] J ?_
  have hqo := lq_ok LQh hG1 (show qh < 4294967296 by omega) om
  have hql : qh < 4294967296 := by omega
  obtain ⟨q1, hq1⟩ : ∃ q1, q1 = qh := ⟨_, rfl⟩
  rw [← hq1] at hqo hql hG2 ⊢
  refine Rg 2 J <| Ua J J <| Ua J J <| Nk [6,7,8,9,10,11,13,15,16,93,94,95,96,97,98,99,100,101,102,103,104,105,106,107,108,109,110,111,112] J <| aC <| Rg 3 J <| Um J J <| aA (aX J J) J <| Um J J <| Nk [6,7,8,9,10,11,13,15,16,93,94,95,96,97,98,99,100,101,102,103,104,105,106,107,108,109,110,111,112,126,127,128] J <| aG ?_
  refine aY (α := Nat × Nat × Nat × (List Nat)) (fun ⟨i, c, b, us1⟩ => [(6, .v (.int .i64 (sh : Int))), (7, .ref (0 + 2 + 8 + 2) 1 0 us1.length), (8, .sl 1 (vs.map d32)), (9, .v (.int .i64 (vs.length : Int))), (10, .ref (0 + 2 + 8 + 9 + 3 + 4) 1 0 qs.length), (11, .v (.int .i64 ((k : Int) - 1))), (13, .v (.int .u64 (q1 : Int))), (15, .v (.int .u64 (b : Int))), (16, .v (.int .u64 (c : Int))), (126, .sl 1 (vs.map d32)), (127, .v (.int .i64 (vs.length : Int))), (128, .v (.int .i64 (i : Int)))]) (fun ⟨i, c, b, us1⟩ => [((0 + 2 + 8 + 2), { cells := (us1.map d32).flatten, sz := 1, elem := 189, st := 0 }), ((0 + 2 + 8 + 9 + 3 + 4), { cells := (qs.map d32).flatten, sz := 1, elem := 189, st := 0 })]) (fun ⟨i, c, b, us1⟩ n => i ≤ vs.length ∧ us1.length = us.length ∧ Dg 4294967296 us1 ∧ c < 4294967296 ∧ b ≤ 1 ∧ val 4294967296 us1 + 4294967296 ^ (k - 1) * (q1 * val 4294967296 (vs.take i)) = val 4294967296 us + 4294967296 ^ (k - 1 + i) * (c + b) ∧ us1.take (k - 1) = us.take (k - 1) ∧ us1.drop (k - 1 + i) = us.drop (k - 1 + i) ∧ 30 ≤ n) (fun ⟨i, c, b, us1⟩ => vs.length - i) (0, 0, 0, us) ⟨J, J, J, J, J, J, J, J, J, J, J, J, trivial⟩ ⟨g0, g1 (by decide) g0, trivial⟩ ⟨Nat.zero_le _, rfl, hud, by decide, by decide, by simp [val], rfl, rfl, om⟩ ?_
  rintro ⟨i, c, b, us1⟩ n hL
  change WC _ _ _ _ _ (_ :: _) (_ :: _) n _
  obtain ⟨hi, hl1, hd1, hc1, hb1, he1, ht1, hp1, hn32⟩ := hL
  refine Rg 1 J <| aA (bS J J) J <| aW (fun h129 => ?_) (fun h129 => ?_)
  ·refine Wn <| aV J <| aF <| aG ?_
   have hvi : vs.getD i default < 4294967296 := bO hvd om
   have hui : us1.getD (k - 1 + i) default < 4294967296 := bO hd1 om
   have hqv := gQ hql hvi
   obtain ⟨p, hpe⟩ : ∃ p, p = q1 * vs.getD i default + c := ⟨_, rfl⟩
   obtain ⟨u, hue⟩ : ∃ u, u = us1.getD (k - 1 + i) default := ⟨_, rfl⟩
   have hpb : p < 18446744073709551616 := by omega
   obtain ⟨d, hde⟩ : ∃ d, d = (u + 4294967296 - p % 4294967296 - b) % 4294967296 := ⟨_, rfl⟩
   refine Rg 5 J <| Um J J <| aA (bY J J J J J om J) J <| aA (dQ J J J) J <| Ua J J <| Ua J J <| Nk [6,7,8,9,10,11,13,15,16,17,18,126,127,128] J <| Rg 7 J <| Um J J <| Um J J <| aA (cI ((vs.getD i default : Int)) (bX J J J) (by rw [IntKind.wrap_u64]; omega)) J <| aA (cI (((q1 * vs.getD i default : Nat) : Int)) (lJ J J) (by rw [← Int.natCast_mul]; omega)) J <| Um J J <| aA (cI ((p : Int)) (iT J J) om) J <| Ua J J <| Nk [6,7,8,9,10,11,13,15,17,19,126,127,128] J <| Rg 3 J <| Um J J <| aA (cI (((p / 4294967296 : Nat) : Int)) (eB (s := 32) J J om) om) J <| Ua J J <| Nk [6,7,8,9,10,11,13,15,16,17,19,126,127,128] J ?_
   refine Rg 14 J <| Um J J <| Um J J <| Um J J <| aA (cI (((k - 1 + i : Nat) : Int)) (aQ J J om) om) J <| aA (cC (j := k - 1 + i) J J J J om om J) J <| aA (dZ (f := d32) (us := us1) (j := k - 1 + i) J J g0 (fun _ => rfl) J (by decide) om J) J <| aA (cI ((u : Int)) (bX J J J) (by rw [IntKind.wrap_u64]; omega)) J <| Um J J <| aA (cI (((p % 4294967296 : Nat) : Int)) (bX J J J) (by rw [IntKind.wrap_u32]; omega)) J <| aA (cI (((p % 4294967296 : Nat) : Int)) (bX J J J) (by rw [IntKind.wrap_u64]; omega)) J <| aA (gH J J) J <| Um J J <| aA (cI (((((u + 18446744073709551616 - p % 4294967296 - b) % 18446744073709551616) : Nat) : Int)) (gH J J) om) J <| Ua J J <| Nk [6,7,8,9,10,11,13,16,17,20,126,127,128] J <| Rg 8 J <| Um J J <| Um J J <| Um J J <| aA (cI (((k - 1 + i : Nat) : Int)) (aQ J J om) om) J <| Um J J <| aA (cI ((d : Int)) (bX J J J) (by rw [IntKind.wrap_u32]; omega)) J ?_
   refine aA (cC (j := k - 1 + i) J J J J om om J) J <| bB (eA (f := d32) (us := us1) d J J J g0 (fun _ => rfl) J J om J) <| Nk [6,7,8,9,10,11,13,16,20,126,127,128] J <| aI (z := 3) J <| Um J J <| aA (cI (((if u < p % 4294967296 + b then 1 else 0 : Nat) : Int)) (eB (s := 63) J J om) (by split <;> omega)) J <| Ua J J <| Wn <| aD <| Ck [6,7,8,9,10,11,13,15,16,126,127,128] J <| aI (z := 2) J <| aA (cI (((i + 1 : Nat) : Int)) (aQ J J om) om) J <| Um J J <| Wn <| aH <| ⟨⟨i + 1, p / 4294967296, if u < p % 4294967296 + b then 1 else 0, us1.set (k - 1 + i) d⟩, ⟨rfl, congrArg some (by rw [List.length_set]), rfl, rfl, rfl, rfl, rfl, rfl, rfl, rfl, rfl, rfl, trivial⟩, ⟨g0, g1 (by decide) (g1 (by decide) g0), trivial⟩, ⟨om, by rw [List.length_set]; exact hl1, hd1.set _ om, om, by split <;> omega, ?_, by rw [cK om]; exact ht1, by rw [cX om]; exact eT hp1 om, om⟩, by show vs.length - (i + 1) < vs.length - i; omega⟩
   rw [hpe]
   exact kJ he1 om (by rw [← hpe, ← hue, hde]; split <;> omega)
  refine Wn <| aR J <| aT <| aP <| aN J ?_
  have hi' : i = vs.length := by omega
  subst hi'
  rw [List.take_of_length_le (Nat.le_refl _)] at he1
  obtain ⟨u, hue⟩ : ∃ u, u = us1.getD (k - 1 + vs.length) default := ⟨_, rfl⟩
  have hul1 : u < 4294967296 := by rw [hue]; exact bO hd1 om
  obtain ⟨d, hde⟩ : ∃ d, d = (u + 4294967296 - c - b) % 4294967296 := ⟨_, rfl⟩
  have hd4 : d < 4294967296 := by omega
  refine Rg 12 J <| Um J J <| Um J J <| Um J J <| aA (cI (((k - 1 + vs.length : Nat) : Int)) (aQ J J om) om) J <| aA (cC (j := k - 1 + vs.length) J J J J om om J) J <| aA (dZ (f := d32) (us := us1) (j := k - 1 + vs.length) J J g0 (fun _ => rfl) J (by decide) om J) J <| aA (cI ((u : Int)) (bX J J J) (by rw [IntKind.wrap_u64]; omega)) J <| Um J J <| aA (gH J J) J <| Um J J <| aA (cI (((((u + 18446744073709551616 - c - b) % 18446744073709551616) : Nat) : Int)) (gH J J) om) J <| Ua J J <| Nk [6,7,8,9,10,11,13,21] J <| Rg 8 J <| Um J J <| Um J J <| Um J J <| aA (cI (((k - 1 + vs.length : Nat) : Int)) (aQ J J om) om) J <| Um J J <| aA (cI ((d : Int)) (bX J J J) (by rw [IntKind.wrap_u32]; omega)) J <| aA (cC (j := k - 1 + vs.length) J J J J om om J) J <| bB (eA (f := d32) (us := us1) d J J J g0 (fun _ => rfl) J J om J) ?_
  refine Nk [6,7,8,9,10,11,13,21] J <| aC <| Rg 3 J <| Um J J <| aA (cI (((if u < c + b then 1 else 0 : Nat) : Int)) (eB (s := 63) J J om) (by split <;> omega)) J <| aA (fR J J) J <| aW (fun h184 => ?_) (fun h184 => ?_)
  rotate_left
  ·have hneg : c + b ≤ u := by
    rcases Nat.lt_or_ge u (c + b) with h | h
    ·rw [if_pos h] at h184; simp at h184
    ·exact h
   have hs2 := iW (o := 0) (d := d) he1 om (by rw [← hue]; omega)
   rw [Nat.mul_zero, Nat.add_zero] at hs2
   refine Wn <| aR J <| aF ?_
   have hlF : (us1.set (k - 1 + vs.length) d).length = us.length := by rw [List.length_set]; exact hl1
   have hdF : Dg 4294967296 (us1.set (k - 1 + vs.length) d) := hd1.set _ hd4
   have hltF := nN (by decide) hV0 om om (by rw [cK om]; exact ht1) hs2 hG2
   have hUF := gS (qs := qs) (j := k - 1) om (by rw [show k - 1 + 1 = k by omega]; exact hU) hs2
   refine aI (z := 6) J <| Um J J <| Um J J <| Um J J <| aA (cI ((q1 : Int)) (bX J J J) (by rw [IntKind.wrap_u32]; omega)) J <| aA (cC (j := k - 1) J J J J om om J) J <| bB (eA (f := d32) (us := qs) q1 J J J (g1 (by decide) (g1 (by decide) g0)) (fun _ => rfl) J J om J) <| Wn <| aD <| Ck [6,7,8,9,10,11] J <| aI (z := 3) J <| Um J J <| aA (cI (((k - 1 : Nat) : Int) - 1) (dK J J om) om) J <| Ua J J <| Wn <| aH <| ⟨⟨k - 1, (us1.set (k - 1 + vs.length) d), qs.set (k - 1) q1⟩, ⟨rfl, congrArg some (by rw [List.length_set]), rfl, rfl, congrArg some (by rw [List.length_set]), rfl, trivial⟩, ⟨g1 (by decide) g0, g0, trivial⟩, ⟨by rw [hlF]; omega, by rw [hlF]; exact hul, by rw [List.length_set]; exact hql0, hdF, hqd.set _ om, hUF, hltF, om⟩, by show k - 1 < k; omega⟩
  have hneg : u < c + b := by
   rcases Nat.lt_or_ge u (c + b) with h | h
   ·exact h
   ·rw [if_neg om] at h184; simp at h184
  have hs2 := iW (o := 1) (d := d) he1 om (by rw [← hue]; omega)
  have hlT : (us1.set (k - 1 + vs.length) d).length = us.length := by rw [List.length_set]; exact hl1
  have hdT : Dg 4294967296 (us1.set (k - 1 + vs.length) d) := hd1.set _ hd4
  have htT : (us1.set (k - 1 + vs.length) d).take (k - 1) = us.take (k - 1) := by rw [cK om]; exact ht1
  have hpT : (us1.set (k - 1 + vs.length) d).drop (k - 1 + vs.length + 1) = us.drop (k - 1 + vs.length + 1) := by rw [cX om]; exact eT hp1 om
  obtain ⟨hgt, hq1p⟩ := neg_gt (by decide) hdT om hlT hRB hpT htT hs2
  refine Wn <| aV J <| aC <| Rg 3 J <| Um J J <| aA (cI (((q1 - 1 : Nat) : Int)) (gH J J) om) J <| Ua J J <| Wn <| aC <| Rg 1 J <| Ua J J <| Wn <| aC <| aC <| Rg 3 J <| Um J J <| aA (aX J J) J <| Um J J <| Nk [6,7,8,9,10,11,13,22,187,188,189] J <| aG <| aY (α := Nat × Nat × (List Nat)) (fun ⟨i2, c2, us3⟩ => [(6, .v (.int .i64 (sh : Int))), (7, .ref (0 + 2 + 8 + 2) 1 0 us3.length), (8, .sl 1 (vs.map d32)), (9, .v (.int .i64 (vs.length : Int))), (10, .ref (0 + 2 + 8 + 9 + 3 + 4) 1 0 qs.length), (11, .v (.int .i64 ((k : Int) - 1))), (13, .v (.int .u64 ((q1 - 1 : Nat) : Int))), (22, .v (.int .u32 (c2 : Int))), (187, .sl 1 (vs.map d32)), (188, .v (.int .i64 (vs.length : Int))), (189, .v (.int .i64 (i2 : Int)))]) (fun ⟨i2, c2, us3⟩ => [((0 + 2 + 8 + 2), { cells := (us3.map d32).flatten, sz := 1, elem := 189, st := 0 }), ((0 + 2 + 8 + 9 + 3 + 4), { cells := (qs.map d32).flatten, sz := 1, elem := 189, st := 0 })]) (fun ⟨i2, c2, us3⟩ n => i2 ≤ vs.length ∧ us3.length = us.length ∧ Dg 4294967296 us3 ∧ c2 ≤ 1 ∧ val 4294967296 us3 + 4294967296 ^ (k - 1 + i2) * c2 = val 4294967296 (us1.set (k - 1 + vs.length) d) + 4294967296 ^ (k - 1) * val 4294967296 (vs.take i2) ∧ us3.take (k - 1) = us.take (k - 1) ∧ us3.drop (k - 1 + vs.length) = (us1.set (k - 1 + vs.length) d).drop (k - 1 + vs.length) ∧ 30 ≤ n) (fun ⟨i2, c2, us3⟩ => vs.length - i2) (0, 0, (us1.set (k - 1 + vs.length) d)) ⟨rfl, congrArg some (by rw [List.length_set]), rfl, rfl, rfl, rfl, rfl, rfl, rfl, rfl, rfl, trivial⟩ ⟨g0, g1 (by decide) (g1 (by decide) g0), trivial⟩ ⟨Nat.zero_le _, hlT, hdT, by decide, by simp [val], htT, rfl, om⟩ ?_
  rintro ⟨i2, c2, us3⟩ n hM
  change WC _ _ _ _ _ (_ :: _) (_ :: _) n _
  obtain ⟨hi2, hl3, hd3, hc3, he3, ht3, hp3, hn33⟩ := hM
  refine Rg 1 J <| aA (bS J J) J <| aW (fun h190 => ?_) (fun h190 => ?_)
  ·refine Wn <| aV J <| aF <| aG <| Rg 5 J <| Um J J <| aA (bY J J J J J om J) J <| aA (dQ J J J) J <| Ua J J <| Ua J J <| Nk [6,7,8,9,10,11,13,22,23,24,187,188,189] J ?_
   have hu3 : us3.getD (k - 1 + i2) default < 4294967296 := bO hd3 om
   have hv3 : vs.getD i2 default < 4294967296 := bO hvd om
   refine aI (z := 19) J <| Um J J <| Um J J <| Um J J <| aA (cI (((k - 1 + i2 : Nat) : Int)) (aQ J J om) om) J <| Um J J <| Um J J <| Um J J <| aA (cI (((k - 1 + i2 : Nat) : Int)) (aQ J J om) om) J <| aA (cC (j := k - 1 + i2) J J J J om om J) J <| aA (dZ (f := d32) (us := us3) (j := k - 1 + i2) J J g0 (fun _ => rfl) J (by decide) om J) J <| Um J J <| Um J J <| aA (aE J (iO (us3.getD (k - 1 + i2) default) (vs.getD i2 default) c2 hu3 hv3 hc3) (by simp)) J <| Um J J <| aA (bU J J) J <| aA (bU J J) J <| aA (cC (j := k - 1 + i2) J J J J om om J) J <| bB (eA (f := d32) (us := us3) ((us3.getD (k - 1 + i2) default + vs.getD i2 default + c2) % 4294967296) J J J g0 (fun _ => rfl) J J om J) <| Ua J J <| Wn <| aD <| Ck [6,7,8,9,10,11,13,22,187,188,189] J <| aI (z := 2) J ?_
   refine aA (cI (((i2 + 1 : Nat) : Int)) (aQ J J om) om) J <| Um J J <| Wn <| aH <| ⟨⟨i2 + 1, _, us3.set (k - 1 + i2) ((us3.getD (k - 1 + i2) default + vs.getD i2 default + c2) % 4294967296)⟩, ⟨rfl, congrArg some (by rw [List.length_set]), rfl, rfl, rfl, rfl, rfl, rfl, rfl, rfl, rfl, trivial⟩, ⟨g0, g1 (by decide) (g1 (by decide) g0), trivial⟩, ⟨om, by rw [List.length_set]; exact hl3, hd3.set _ om, om, iZ he3 om, by rw [cK om]; exact ht3, by rw [cX om]; exact hp3, om⟩, by show vs.length - (i2 + 1) < vs.length - i2; omega⟩
  refine Wn <| aR J <| aT <| aP <| aN J ?_
  have hi' : i2 = vs.length := by omega
  subst hi'
  rw [List.take_of_length_le (Nat.le_refl _)] at he3
  have hu3 : us3.getD (k - 1 + vs.length) default < 4294967296 := bO hd3 om
  refine Rg 10 J <| Um J J <| Um J J <| Um J J <| aA (cI (((k - 1 + vs.length : Nat) : Int)) (aQ J J om) om) J <| aA (cC (j := k - 1 + vs.length) J J J J om om J) J <| aA (dZ (f := d32) (us := us3) (j := k - 1 + vs.length) J J g0 (fun _ => rfl) J (by decide) om J) J <| Um J J <| aA (cI ((((us3.getD (k - 1 + vs.length) default + c2) % 4294967296 : Nat) : Int)) (oAdd32 J J) om) J <| aA (cC (j := k - 1 + vs.length) J J J J om om J) J <| bB (eA (f := d32) (us := us3) ((us3.getD (k - 1 + vs.length) default + c2) % 4294967296) J J J g0 (fun _ => rfl) J J om J) <| Nk [6,7,8,9,10,11,13] J ?_
  have hlF : (us3.set (k - 1 + vs.length) ((us3.getD (k - 1 + vs.length) default + c2) % 4294967296)).length = us.length := by rw [List.length_set]; exact hl3
  have hdF : Dg 4294967296 (us3.set (k - 1 + vs.length) ((us3.getD (k - 1 + vs.length) default + c2) % 4294967296)) := hd3.set _ om
  have h4 := iY he3 om
  obtain ⟨hs4, hltF⟩ := pQ (by decide) hV0 hdF om hlF hRB (by rw [cX om]; exact (eT hp3 om).trans hpT) (by rw [cK om]; exact ht3) hs2 h4 hG2 hq1p hqo hgt om
  have hUF := gS (qs := qs) (j := k - 1) om (by rw [show k - 1 + 1 = k by omega]; exact hU) hs4
  refine aI (z := 6) J <| Um J J <| Um J J <| Um J J <| aA (cI (((q1 - 1 : Nat) : Int)) (bX J J J) (by rw [IntKind.wrap_u32]; omega)) J <| aA (cC (j := k - 1) J J J J om om J) J <| bB (eA (f := d32) (us := qs) (q1 - 1) J J J (g1 (by decide) (g1 (by decide) g0)) (fun _ => rfl) J J om J) <| Wn <| aD <| aI (z := 3) J <| Um J J <| aA (cI (((k - 1 : Nat) : Int) - 1) (dK J J om) om) J <| Ua J J <| Wn <| aH <| ⟨⟨k - 1, (us3.set (k - 1 + vs.length) ((us3.getD (k - 1 + vs.length) default + c2) % 4294967296)), qs.set (k - 1) (q1 - 1)⟩, ⟨rfl, congrArg some (by rw [List.length_set]), rfl, rfl, congrArg some (by rw [List.length_set]), rfl, trivial⟩, ⟨g1 (by decide) g0, g0, trivial⟩, ⟨by rw [hlF]; omega, by rw [hlF]; exact hul, by rw [List.length_set]; exact hql0, hdF, hqd.set _ om, hUF, hltF, om⟩, by show k - 1 < k; omega⟩
 refine aL (cD J J) J <| bT (bE kR) J <| Ck [6,7,8,9,10,11,13,14,93,94,95,96,97,98,99,100,101,102,103,104,105,106,107,108,109,110,111,112,113] J <| aV J <| aF <| eQ ?_
 obtain ⟨hdc1, hdc2⟩ := lq_dec LQh hG1 hG2 (by first | exact .inl om | exact .inr om)
 refine Rg 3 J <| Um J J <| aA (cI (((qh - 1 : Nat) : Int)) (gH J J) om) J <| Ua J J <| Nk [6,7,8,9,10,11,13,14,93,94,95,96,97,98,99,100,101,102,103,104,105,106,107,108,109,110,111,112] J <| Rg 9 J <| Um J J <| Um J J <| Um J J <| aA (dK J J om) J <| aA (bY (j := vs.length - 1) J J J J om om J) J <| aA (dQ J J J) J <| aA (cI ((v1 : Int)) (bX J J J) (by rw [IntKind.wrap_u64]; omega)) J <| aA (cI (((rh + v1 : Nat) : Int)) (iT J J) om) J <| Ua J J <| Nk [6,7,8,9,10,11,13,14,93,94,95,96,97,98,99,100,101,102,103,104,105,106,107,108,109,110,111,112] J <| Rg 2 J <| Um J J <| aA (lG J J) J <| aW (fun h125 => ?_) (fun h125 => ?_)
 rotate_left
 ·refine Nk [6,7,8,9,10,11,13,14,93,94,95,96,97,98,99,100,101,102,103,104,105,106,107,108,109,110,111,112,125] J <| bH J <| bJ <| eX <| aH <| ⟨⟨qh - 1, rh + v1⟩, ⟨J, J, J, J, J, J, J, J, trivial⟩, ⟨g0, g1 (by decide) g0, trivial⟩, ⟨dec_eq hG1 hdc1, hdc2, om, om, om⟩, by show qh - 1 < qh; omega⟩
 refine Nk [6,7,8,9,10,11,13,14,93,94,95,96,97,98,99,100,101,102,103,104,105,106,107,108,109,110,111,112,125] J <| bI J <| WC.exit <| lX J <| aP <| aN J <| Ck [6,7,8,9,10,11,13,93,94,95,96,97,98,99,100,101,102,103,104,105,106,107,108,109,110,111,112] J ?_
 obtain ⟨hql, hqo⟩ := lq_break LQh hG1 hdc1 hG4 om hG3
 replace hG2 := hdc2
 obtain ⟨q1, hq1⟩ : ∃ q1, q1 = qh - 1 := ⟨_, rfl⟩
 rw [← hq1] at hqo hql hG2 ⊢
 refine Rg 2 J <| Ua J J <| Ua J J <| Nk [6,7,8,9,10,11,13,15,16,93,94,95,96,97,98,99,100,101,102,103,104,105,106,107,108,109,110,111,112] J <| aC <| Rg 3 J <| Um J J <| aA (aX J J) J <| Um J J <| Nk [6,7,8,9,10,11,13,15,16,93,94,95,96,97,98,99,100,101,102,103,104,105,106,107,108,109,110,111,112,126,127,128] J <| aG ?_
 refine aY (α := Nat × Nat × Nat × (List Nat)) (fun ⟨i, c, b, us1⟩ => [(6, .v (.int .i64 (sh : Int))), (7, .ref (0 + 2 + 8 + 2) 1 0 us1.length), (8, .sl 1 (vs.map d32)), (9, .v (.int .i64 (vs.length : Int))), (10, .ref (0 + 2 + 8 + 9 + 3 + 4) 1 0 qs.length), (11, .v (.int .i64 ((k : Int) - 1))), (13, .v (.int .u64 (q1 : Int))), (15, .v (.int .u64 (b : Int))), (16, .v (.int .u64 (c : Int))), (126, .sl 1 (vs.map d32)), (127, .v (.int .i64 (vs.length : Int))), (128, .v (.int .i64 (i : Int)))]) (fun ⟨i, c, b, us1⟩ => [((0 + 2 + 8 + 2), { cells := (us1.map d32).flatten, sz := 1, elem := 189, st := 0 }), ((0 + 2 + 8 + 9 + 3 + 4), { cells := (qs.map d32).flatten, sz := 1, elem := 189, st := 0 })]) (fun ⟨i, c, b, us1⟩ n => i ≤ vs.length ∧ us1.length = us.length ∧ Dg 4294967296 us1 ∧ c < 4294967296 ∧ b ≤ 1 ∧ val 4294967296 us1 + 4294967296 ^ (k - 1) * (q1 * val 4294967296 (vs.take i)) = val 4294967296 us + 4294967296 ^ (k - 1 + i) * (c + b) ∧ us1.take (k - 1) = us.take (k - 1) ∧ us1.drop (k - 1 + i) = us.drop (k - 1 + i) ∧ 30 ≤ n) (fun ⟨i, c, b, us1⟩ => vs.length - i) (0, 0, 0, us) ⟨J, J, J, J, J, J, J, J, J, J, J, J, trivial⟩ ⟨g0, g1 (by decide) g0, trivial⟩ ⟨Nat.zero_le _, rfl, hud, by decide, by decide, by simp [val], rfl, rfl, om⟩ ?_
 rintro ⟨i, c, b, us1⟩ n hL
 change WC _ _ _ _ _ (_ :: _) (_ :: _) n _
 obtain ⟨hi, hl1, hd1, hc1, hb1, he1, ht1, hp1, hn32⟩ := hL
 refine Rg 1 J <| aA (bS J J) J <| aW (fun h129 => ?_) (fun h129 => ?_)
 ·refine Wn <| aV J <| aF <| aG ?_
  have hvi : vs.getD i default < 4294967296 := bO hvd om
  have hui : us1.getD (k - 1 + i) default < 4294967296 := bO hd1 om
  have hqv := gQ hql hvi
  obtain ⟨p, hpe⟩ : ∃ p, p = q1 * vs.getD i default + c := ⟨_, rfl⟩
  obtain ⟨u, hue⟩ : ∃ u, u = us1.getD (k - 1 + i) default := ⟨_, rfl⟩
  have hpb : p < 18446744073709551616 := by omega
  obtain ⟨d, hde⟩ : ∃ d, d = (u + 4294967296 - p % 4294967296 - b) % 4294967296 := ⟨_, rfl⟩
  refine Rg 5 J <| Um J J <| aA (bY J J J J J om J) J <| aA (dQ J J J) J <| Ua J J <| Ua J J <| Nk [6,7,8,9,10,11,13,15,16,17,18,126,127,128] J <| Rg 7 J <| Um J J <| Um J J <| aA (cI ((vs.getD i default : Int)) (bX J J J) (by rw [IntKind.wrap_u64]; omega)) J <| aA (cI (((q1 * vs.getD i default : Nat) : Int)) (lJ J J) (by rw [← Int.natCast_mul]; omega)) J <| Um J J <| aA (cI ((p : Int)) (iT J J) om) J <| Ua J J <| Nk [6,7,8,9,10,11,13,15,17,19,126,127,128] J <| Rg 3 J <| Um J J <| aA (cI (((p / 4294967296 : Nat) : Int)) (eB (s := 32) J J om) om) J <| Ua J J <| Nk [6,7,8,9,10,11,13,15,16,17,19,126,127,128] J ?_
  refine Rg 14 J <| Um J J <| Um J J <| Um J J <| aA (cI (((k - 1 + i : Nat) : Int)) (aQ J J om) om) J <| aA (cC (j := k - 1 + i) J J J J om om J) J <| aA (dZ (f := d32) (us := us1) (j := k - 1 + i) J J g0 (fun _ => rfl) J (by decide) om J) J <| aA (cI ((u : Int)) (bX J J J) (by rw [IntKind.wrap_u64]; omega)) J <| Um J J <| aA (cI (((p % 4294967296 : Nat) : Int)) (bX J J J) (by rw [IntKind.wrap_u32]; omega)) J <| aA (cI (((p % 4294967296 : Nat) : Int)) (bX J J J) (by rw [IntKind.wrap_u64]; omega)) J <| aA (gH J J) J <| Um J J <| aA (cI (((((u + 18446744073709551616 - p % 4294967296 - b) % 18446744073709551616) : Nat) : Int)) (gH J J) om) J <| Ua J J <| Nk [6,7,8,9,10,11,13,16,17,20,126,127,128] J <| Rg 8 J <| Um J J <| Um J J <| Um J J <| aA (cI (((k - 1 + i : Nat) : Int)) (aQ J J om) om) J <| Um J J <| aA (cI ((d : Int)) (bX J J J) (by rw [IntKind.wrap_u32]; omega)) J ?_
  refine aA (cC (j := k - 1 + i) J J J J om om J) J <| bB (eA (f := d32) (us := us1) d J J J g0 (fun _ => rfl) J J om J) <| Nk [6,7,8,9,10,11,13,16,20,126,127,128] J <| aI (z := 3) J <| Um J J <| aA (cI (((if u < p % 4294967296 + b then 1 else 0 : Nat) : Int)) (eB (s := 63) J J om) (by split <;> omega)) J <| Ua J J <| Wn <| aD <| Ck [6,7,8,9,10,11,13,15,16,126,127,128] J <| aI (z := 2) J <| aA (cI (((i + 1 : Nat) : Int)) (aQ J J om) om) J <| Um J J <| Wn <| aH <| ⟨⟨i + 1, p / 4294967296, if u < p % 4294967296 + b then 1 else 0, us1.set (k - 1 + i) d⟩, ⟨rfl, congrArg some (by rw [List.length_set]), rfl, rfl, rfl, rfl, rfl, rfl, rfl, rfl, rfl, rfl, trivial⟩, ⟨g0, g1 (by decide) (g1 (by decide) g0), trivial⟩, ⟨om, by rw [List.length_set]; exact hl1, hd1.set _ om, om, by split <;> omega, ?_, by rw [cK om]; exact ht1, by rw [cX om]; exact eT hp1 om, om⟩, by show vs.length - (i + 1) < vs.length - i; omega⟩
  rw [hpe]
  exact kJ he1 om (by rw [← hpe, ← hue, hde]; split <;> omega)
 refine Wn <| aR J <| aT <| aP <| aN J ?_
 have hi' : i = vs.length := by omega
 subst hi'
 rw [List.take_of_length_le (Nat.le_refl _)] at he1
 obtain ⟨u, hue⟩ : ∃ u, u = us1.getD (k - 1 + vs.length) default := ⟨_, rfl⟩
 have hul1 : u < 4294967296 := by rw [hue]; exact bO hd1 om
 obtain ⟨d, hde⟩ : ∃ d, d = (u + 4294967296 - c - b) % 4294967296 := ⟨_, rfl⟩
 have hd4 : d < 4294967296 := by omega
 refine Rg 12 J <| Um J J <| Um J J <| Um J J <| aA (cI (((k - 1 + vs.length : Nat) : Int)) (aQ J J om) om) J <| aA (cC (j := k - 1 + vs.length) J J J J om om J) J <| aA (dZ (f := d32) (us := us1) (j := k - 1 + vs.length) J J g0 (fun _ => rfl) J (by decide) om J) J <| aA (cI ((u : Int)) (bX J J J) (by rw [IntKind.wrap_u64]; omega)) J <| Um J J <| aA (gH J J) J <| Um J J <| aA (cI (((((u + 18446744073709551616 - c - b) % 18446744073709551616) : Nat) : Int)) (gH J J) om) J <| Ua J J <| Nk [6,7,8,9,10,11,13,21] J <| Rg 8 J <| Um J J <| Um J J <| Um J J <| aA (cI (((k - 1 + vs.length : Nat) : Int)) (aQ J J om) om) J <| Um J J <| aA (cI ((d : Int)) (bX J J J) (by rw [IntKind.wrap_u32]; omega)) J <| aA (cC (j := k - 1 + vs.length) J J J J om om J) J <| bB (eA (f := d32) (us := us1) d J J J g0 (fun _ => rfl) J J om J) ?_
 refine Nk [6,7,8,9,10,11,13,21] J <| aC <| Rg 3 J <| Um J J <| aA (cI (((if u < c + b then 1 else 0 : Nat) : Int)) (eB (s := 63) J J om) (by split <;> omega)) J <| aA (fR J J) J <| aW (fun h184 => ?_) (fun h184 => ?_)
 rotate_left
 ·have hneg : c + b ≤ u := by
   rcases Nat.lt_or_ge u (c + b) with h | h
   ·rw [if_pos h] at h184; simp at h184
   ·exact h
  have hs2 := iW (o := 0) (d := d) he1 om (by rw [← hue]; omega)
  rw [Nat.mul_zero, Nat.add_zero] at hs2
  refine Wn <| aR J <| aF ?_
  have hlF : (us1.set (k - 1 + vs.length) d).length = us.length := by rw [List.length_set]; exact hl1
  have hdF : Dg 4294967296 (us1.set (k - 1 + vs.length) d) := hd1.set _ hd4
  have hltF := nN (by decide) hV0 om om (by rw [cK om]; exact ht1) hs2 hG2
  have hUF := gS (qs := qs) (j := k - 1) om (by rw [show k - 1 + 1 = k by omega]; exact hU) hs2
  refine aI (z := 6) J <| Um J J <| Um J J <| Um J J <| aA (cI ((q1 : Int)) (bX J J J) (by rw [IntKind.wrap_u32]; omega)) J <| aA (cC (j := k - 1) J J J J om om J) J <| bB (eA (f := d32) (us := qs) q1 J J J (g1 (by decide) (g1 (by decide) g0)) (fun _ => rfl) J J om J) <| Wn <| aD <| Ck [6,7,8,9,10,11] J <| aI (z := 3) J <| Um J J <| aA (cI (((k - 1 : Nat) : Int) - 1) (dK J J om) om) J <| Ua J J <| Wn <| aH <| ⟨⟨k - 1, (us1.set (k - 1 + vs.length) d), qs.set (k - 1) q1⟩, ⟨rfl, congrArg some (by rw [List.length_set]), rfl, rfl, congrArg some (by rw [List.length_set]), rfl, trivial⟩, ⟨g1 (by decide) g0, g0, trivial⟩, ⟨by rw [hlF]; omega, by rw [hlF]; exact hul, by rw [List.length_set]; exact hql0, hdF, hqd.set _ om, hUF, hltF, om⟩, by show k - 1 < k; omega⟩
 have hneg : u < c + b := by
  rcases Nat.lt_or_ge u (c + b) with h | h
  ·exact h
  ·rw [if_neg om] at h184; simp at h184
 have hs2 := iW (o := 1) (d := d) he1 om (by rw [← hue]; omega)
 have hlT : (us1.set (k - 1 + vs.length) d).length = us.length := by rw [List.length_set]; exact hl1
 have hdT : Dg 4294967296 (us1.set (k - 1 + vs.length) d) := hd1.set _ hd4
 have htT : (us1.set (k - 1 + vs.length) d).take (k - 1) = us.take (k - 1) := by rw [cK om]; exact ht1
 have hpT : (us1.set (k - 1 + vs.length) d).drop (k - 1 + vs.length + 1) = us.drop (k - 1 + vs.length + 1) := by rw [cX om]; exact eT hp1 om
 obtain ⟨hgt, hq1p⟩ := neg_gt (by decide) hdT om hlT hRB hpT htT hs2
 refine Wn <| aV J <| aC <| Rg 3 J <| Um J J <| aA (cI (((q1 - 1 : Nat) : Int)) (gH J J) om) J <| Ua J J <| Wn <| aC <| Rg 1 J <| Ua J J <| Wn <| aC <| aC <| Rg 3 J <| Um J J <| aA (aX J J) J <| Um J J <| Nk [6,7,8,9,10,11,13,22,187,188,189] J <| aG <| aY (α := Nat × Nat × (List Nat)) (fun ⟨i2, c2, us3⟩ => [(6, .v (.int .i64 (sh : Int))), (7, .ref (0 + 2 + 8 + 2) 1 0 us3.length), (8, .sl 1 (vs.map d32)), (9, .v (.int .i64 (vs.length : Int))), (10, .ref (0 + 2 + 8 + 9 + 3 + 4) 1 0 qs.length), (11, .v (.int .i64 ((k : Int) - 1))), (13, .v (.int .u64 ((q1 - 1 : Nat) : Int))), (22, .v (.int .u32 (c2 : Int))), (187, .sl 1 (vs.map d32)), (188, .v (.int .i64 (vs.length : Int))), (189, .v (.int .i64 (i2 : Int)))]) (fun ⟨i2, c2, us3⟩ => [((0 + 2 + 8 + 2), { cells := (us3.map d32).flatten, sz := 1, elem := 189, st := 0 }), ((0 + 2 + 8 + 9 + 3 + 4), { cells := (qs.map d32).flatten, sz := 1, elem := 189, st := 0 })]) (fun ⟨i2, c2, us3⟩ n => i2 ≤ vs.length ∧ us3.length = us.length ∧ Dg 4294967296 us3 ∧ c2 ≤ 1 ∧ val 4294967296 us3 + 4294967296 ^ (k - 1 + i2) * c2 = val 4294967296 (us1.set (k - 1 + vs.length) d) + 4294967296 ^ (k - 1) * val 4294967296 (vs.take i2) ∧ us3.take (k - 1) = us.take (k - 1) ∧ us3.drop (k - 1 + vs.length) = (us1.set (k - 1 + vs.length) d).drop (k - 1 + vs.length) ∧ 30 ≤ n) (fun ⟨i2, c2, us3⟩ => vs.length - i2) (0, 0, (us1.set (k - 1 + vs.length) d)) ⟨rfl, congrArg some (by rw [List.length_set]), rfl, rfl, rfl, rfl, rfl, rfl, rfl, rfl, rfl, trivial⟩ ⟨g0, g1 (by decide) (g1 (by decide) g0), trivial⟩ ⟨Nat.zero_le _, hlT, hdT, by decide, by simp [val], htT, rfl, om⟩ ?_
 rintro ⟨i2, c2, us3⟩ n hM
 change WC _ _ _ _ _ (_ :: _) (_ :: _) n _
 obtain ⟨hi2, hl3, hd3, hc3, he3, ht3, hp3, hn33⟩ := hM
 refine Rg 1 J <| aA (bS J J) J <| aW (fun h190 => ?_) (fun h190 => ?_)
 ·refine Wn <| aV J <| aF <| aG <| Rg 5 J <| Um J J <| aA (bY J J J J J om J) J <| aA (dQ J J J) J <| Ua J J <| Ua J J <| Nk [6,7,8,9,10,11,13,22,23,24,187,188,189] J ?_
  have hu3 : us3.getD (k - 1 + i2) default < 4294967296 := bO hd3 om
  have hv3 : vs.getD i2 default < 4294967296 := bO hvd om
  refine aI (z := 19) J <| Um J J <| Um J J <| Um J J <| aA (cI (((k - 1 + i2 : Nat) : Int)) (aQ J J om) om) J <| Um J J <| Um J J <| Um J J <| aA (cI (((k - 1 + i2 : Nat) : Int)) (aQ J J om) om) J <| aA (cC (j := k - 1 + i2) J J J J om om J) J <| aA (dZ (f := d32) (us := us3) (j := k - 1 + i2) J J g0 (fun _ => rfl) J (by decide) om J) J <| Um J J <| Um J J <| aA (aE J (iO (us3.getD (k - 1 + i2) default) (vs.getD i2 default) c2 hu3 hv3 hc3) (by simp)) J <| Um J J <| aA (bU J J) J <| aA (bU J J) J <| aA (cC (j := k - 1 + i2) J J J J om om J) J <| bB (eA (f := d32) (us := us3) ((us3.getD (k - 1 + i2) default + vs.getD i2 default + c2) % 4294967296) J J J g0 (fun _ => rfl) J J om J) <| Ua J J <| Wn <| aD <| Ck [6,7,8,9,10,11,13,22,187,188,189] J <| aI (z := 2) J ?_
  refine aA (cI (((i2 + 1 : Nat) : Int)) (aQ J J om) om) J <| Um J J <| Wn <| aH <| ⟨⟨i2 + 1, _, us3.set (k - 1 + i2) ((us3.getD (k - 1 + i2) default + vs.getD i2 default + c2) % 4294967296)⟩, ⟨rfl, congrArg some (by rw [List.length_set]), rfl, rfl, rfl, rfl, rfl, rfl, rfl, rfl, rfl, trivial⟩, ⟨g0, g1 (by decide) (g1 (by decide) g0), trivial⟩, ⟨om, by rw [List.length_set]; exact hl3, hd3.set _ om, om, iZ he3 om, by rw [cK om]; exact ht3, by rw [cX om]; exact hp3, om⟩, by show vs.length - (i2 + 1) < vs.length - i2; omega⟩
 refine Wn <| aR J <| aT <| aP <| aN J ?_
 have hi' : i2 = vs.length := by omega
 subst hi'
 rw [List.take_of_length_le (Nat.le_refl _)] at he3
 have hu3 : us3.getD (k - 1 + vs.length) default < 4294967296 := bO hd3 om
 refine Rg 10 J <| Um J J <| Um J J <| Um J J <| aA (cI (((k - 1 + vs.length : Nat) : Int)) (aQ J J om) om) J <| aA (cC (j := k - 1 + vs.length) J J J J om om J) J <| aA (dZ (f := d32) (us := us3) (j := k - 1 + vs.length) J J g0 (fun _ => rfl) J (by decide) om J) J <| Um J J <| aA (cI ((((us3.getD (k - 1 + vs.length) default + c2) % 4294967296 : Nat) : Int)) (oAdd32 J J) om) J <| aA (cC (j := k - 1 + vs.length) J J J J om om J) J <| bB (eA (f := d32) (us := us3) ((us3.getD (k - 1 + vs.length) default + c2) % 4294967296) J J J g0 (fun _ => rfl) J J om J) <| Nk [6,7,8,9,10,11,13] J ?_
 have hlF : (us3.set (k - 1 + vs.length) ((us3.getD (k - 1 + vs.length) default + c2) % 4294967296)).length = us.length := by rw [List.length_set]; exact hl3
 have hdF : Dg 4294967296 (us3.set (k - 1 + vs.length) ((us3.getD (k - 1 + vs.length) default + c2) % 4294967296)) := hd3.set _ om
 have h4 := iY he3 om
 obtain ⟨hs4, hltF⟩ := pQ (by decide) hV0 hdF om hlF hRB (by rw [cX om]; exact (eT hp3 om).trans hpT) (by rw [cK om]; exact ht3) hs2 h4 hG2 hq1p hqo hgt om
 have hUF := gS (qs := qs) (j := k - 1) om (by rw [show k - 1 + 1 = k by omega]; exact hU) hs4
 refine aI (z := 6) J <| Um J J <| Um J J <| Um J J <| aA (cI (((q1 - 1 : Nat) : Int)) (bX J J J) (by rw [IntKind.wrap_u32]; omega)) J <| aA (cC (j := k - 1) J J J J om om J) J <| bB (eA (f := d32) (us := qs) (q1 - 1) J J J (g1 (by decide) (g1 (by decide) g0)) (fun _ => rfl) J J om J) <| Wn <| aD <| aI (z := 3) J <| Um J J <| aA (cI (((k - 1 : Nat) : Int) - 1) (dK J J om) om) J <| Ua J J <| Wn <| aH <| ⟨⟨k - 1, (us3.set (k - 1 + vs.length) ((us3.getD (k - 1 + vs.length) default + c2) % 4294967296)), qs.set (k - 1) (q1 - 1)⟩, ⟨rfl, congrArg some (by rw [List.length_set]), rfl, rfl, congrArg some (by rw [List.length_set]), rfl, trivial⟩, ⟨g1 (by decide) g0, g0, trivial⟩, ⟨by rw [hlF]; omega, by rw [hlF]; exact hul, by rw [List.length_set]; exact hql0, hdF, hqd.set _ om, hUF, hltF, om⟩, by show k - 1 < k; omega⟩
end Go.Proofs.Ytcblgjaomljikaa
set_option maxHeartbeats 1000000
namespace Go.Proofs.Ytcblgjaomljikaa
open Go.Ab Go.RowKit
theorem mP (v w : Int) (hw0 : w ≠ 0) (hv : len32 v < 549755813888) (hw : len32 w < 549755813888) : Run Try.prog T E0 (.call 204 [lvI v, lvI w] (.tup [lvI (v.tdiv w), lvI (v.tmod w)])) := by
 obtain ⟨xs, hxs, dv, qv, tv, lxv⟩ := xs_of v
 obtain ⟨ys, hys, dw, qw, tw, lyw⟩ := xs_of w
 have bv := oH v
 have bw := oH w
 have hwa : 0 < w.natAbs := by omega
 have hyl : 0 < ys.length := by
  rcases Nat.eq_zero_or_pos ys.length with h | h
  ·rw [List.length_eq_zero_iff.1 h] at dw; simp [val] at dw; omega
  ·exact h
 refine bC Try.func204 J J (cW J) ?_
 have J3 : ∀  (n : Nat) , WC Try.prog T E0 Try.f204.ntmps (codeR (codeR (codeOf Try.f204))) [(2, .ptr 0 0), (3, .ptr 1 0), (4, .ptr 2 0), (5, .ptr 3 0)] [(3, { cells := [.v (.int .i64 0), .sl 0 []], sz := 2, elem := 112, st := 0 }), (2, { cells := [.v (.int .i64 0), .sl 0 []], sz := 2, elem := 112, st := 0 }), (1, { cells := (lvI w).cells, sz := 2, elem := 112, st := 0 }), (0, { cells := (lvI v).cells, sz := 2, elem := 112, st := 0 })] n (Post T Try.f204.results.toList (.tup [lvI (v.tdiv w), lvI (v.tmod w)])) := by
  intro  n
  refine Rg 7 J <| aA (bF (l := .agg [_, _]) J J J J J) J <| aA (aE J ((hxs ▸ eI v)) (by simp)) J <| Um J J <| aA (bU J J) J <| aA (bU J J) J <| Ua J J <| Ua J J <| Wn <| Rg 7 J <| aA (bF (l := .agg [_, _]) J J J J J) J <| aA (aE J ((hys ▸ eI w)) (by simp)) J <| Um J J <| aA (bU J J) J <| aA (bU J J) J <| Ua J J <| Ua J J <| Nk [2,4,5,6,7,8,9] J <| aC <| Rg 4 J <| Um J J <| Um J J <| aA (aE J (jV 1 1 xs ys qv qw tv tw om om) (by simp)) J ?_
  refine aA (bS J J) J <| aW (fun h47 => ?_) (fun h47 => ?_)
  ·refine Wn <| aV J <| aC <| cJ (z := 4) J kR <| aL (mJ (cs := [_, _]) J J J J J) J <| aL (bF (l := .agg [_, _]) J J J J J) J <| dP (dH (cs' := [_, _]) J J J J J J J J) <| dP (dH (cs' := [_, _]) J J J J J J J J) <| bT (bE kR) J <| bM <| post (n := 0) (.inr J) J ?_ (by simp)
   obtain ⟨e1, e2⟩ := quo_small (v := v) (w := w) (by have := Int.sign_neg_iff.1 (show ((val 4294967296 xs : Int) - val 4294967296 ys).sign < 0 from h47); omega)
   rw [e1, e2]; rfl
  refine Wn <| aR J <| aF <| aC ?_
  have hge : val 4294967296 ys ≤ val 4294967296 xs := by
   rcases Nat.lt_or_ge (val 4294967296 xs) (val 4294967296 ys) with h | h
   ·exact absurd (Int.sign_neg_iff.2 (show (val 4294967296 xs : Int) - val 4294967296 ys < 0 by omega)) h47
   ·exact h
  have hv0 : v ≠ 0 := by omega
  have hpm := sign_pm hv0 hw0
  have hp1 := sign_1 hv0
  have hll : ys.length ≤ xs.length := by
   rcases Nat.lt_or_ge xs.length ys.length with h | h
   ·have := fD (by decide) qv tw h; omega
   ·exact h
  obtain ⟨σ, hσ⟩ : ∃ σ, σ = v.sign * w.sign := ⟨_, rfl⟩
  rw [← hσ] at hpm
  refine Rg 3 J <| Um J J <| aA (aX J J) J <| aA (fR J J) J <| aW (fun h52 => ?_) (fun h52 => ?_)
  rotate_left
  ·refine Wn <| aR J <| aF ?_
   have hy2 : 2 ≤ ys.length := by omega
   obtain ⟨r, hr, qs, rs, rfl, hqd, hrd, hval, hrest, hql, hrl⟩ := long_run 1 1 xs ys qv qw tw hy2 hll om
   obtain ⟨hq1, hq2⟩ := quo_law (v := v) (w := w) (q := val 4294967296 qs) (r := val 4294967296 rs) (by rw [← dw, ← dv]; exact hval) (by rw [← dw]; exact hrest)
   refine Rg 8 J <| Um J J <| Um J J <| aA (aE J (hr) (by simp)) J <| Um J J <| aA (bU J J) J <| aA (bU J J) J <| Ua J J <| Ua J J <| Nk [4,5,6,8,12,13] J <| Rg 10 J <| Um J J <| Um J J <| aA (cI σ (lP J J (by rw [← hσ]; omega)) hσ.symm) J <| Um J J <| aA (aE J (eJ σ 1 qs om (.inl J) hqd om) (by simp)) J <| Um J J <| Um J J <| aA (aE J (eJ v.sign 1 rs om (.inl J) hrd om) (by simp)) J <| bB (dH (cs' := [_, _]) J J J J J J J J) <| bB (dH (cs' := [_, _]) J J J J J J J J) <| Wn <| aK ?_
   refine post (n := 0) (.inr J) J ?_ (by simp)
   rw [hq1, hq2, ← hσ]; rfl
  refine Wn <| aV J <| aC ?_
  have hy1 : ys.length = 1 := by omega
  have hyv : val 4294967296 ys = ys.getD 0 default := by
   obtain ⟨y, rfl⟩ := List.length_eq_one_iff.1 hy1
   simp [val]
  have hyb : ys.getD 0 default < 4294967296 := bO qw om
  obtain ⟨r, hr, ds, rest, rfl, hdd, hrest, hval, hlen⟩ := short_run 1 xs (ys.getD 0 default) qv om hyb om
  obtain ⟨hq1, hq2⟩ := quo_law (v := v) (w := w) (q := val 4294967296 ds) (r := rest) (by rw [← dw, ← dv, hyv]; exact hval) (by rw [← dw, hyv]; exact hrest)
  have hrd : Dg 4294967296 [rest] := by intro d hd; simp at hd; omega
  refine Rg 10 J <| Um J J <| Um J J <| aA (bY (j := 0) J J J J om om J) J <| aA (dQ J J J) J <| aA (aE J (hr) (by simp)) J <| Um J J <| aA (bU J J) J <| aA (bU J J) J <| Ua J J <| Ua J J <| Nk [4,5,6,8,10,11] J <| aC <| Rg 11 J <| Um J J <| Um J J <| aA (cI σ (lP J J (by rw [← hσ]; omega)) hσ.symm) J <| Um J J <| aA (aE J (eJ σ 1 ds om (.inl J) hdd om) (by simp)) J <| Um J J <| Um J J <| aA (dJ (cs := [_]) (rows := [[_]]) J J (by decide) J J J) J <| aA (aE J (eJ v.sign 2 [rest] om (.inr J) hrd (by simp)) (by simp)) J ?_
  refine bB (dH (cs' := [_, _]) J J J J J J J J) <| bB (dH (cs' := [_, _]) J J J J J J J J) <| Nk [4,5] J <| bM <| post (n := 0) (.inr J) J ?_ (by simp)
  rw [hq1, hq2, ← hσ]; exact congrArg (fun z => LV.tup [lvI (σ * (val 4294967296 ds : Int)), lvI (v.sign * z)]) (by simp [val])
 refine Rg 4 J <| bL (kE J J) J <| bL (kE J J) J <| bL (gM J) J <| bL (gM J) J <| Wn <| aC <| Rg 8 J <| aA (cO J J J J J) J <| aA (bF J J J J J) J <| aA (kG J J) J <| dM (fun h16 => ?_) (fun h16 => ?_)
 rotate_left
 ·refine Um J J <| K1 J J <| K1 J J <| K1 J J <| aA (cD J J) J <| Wn <| aR J <| aF <| Ck [2,3,4,5] J ?_
  exact J3 _
 refine Um J J <| aJ J (cO J J J J J) J <| aJ J (bF J J J J J) J <| aJ J (kG J J) J <| dM (fun h20 => ?_) (fun h20 => ?_)
 rotate_left
 ·refine aA (cG J J) J <| Wn <| aR J <| aF <| Ck [2,3,4,5] J ?_
  exact J3 _
 refine aA (cG J J) J <| Wn <| aV J <| aC ?_
 have hia := dC (oI.1 h16)
 have hiw := dC (oI.1 h20)
 have sv := oI.1 h16
 have b1 : (v.tdiv w).natAbs ≤ v.natAbs := by rw [Int.natAbs_tdiv]; exact Nat.div_le_self _ _
 have b2 : (v.tmod w).natAbs ≤ v.natAbs := by rw [Int.natAbs_tmod]; exact Nat.mod_le _ _
 unfold small at sv
 refine cJ (z := 14) J kR <| aL (cO J J J J J) J <| aL (cI v (bF J J J J J) hia) J <| aL (cO J J J J J) J <| aL (cI w (bF J J J J J) hiw) J <| aL (oQuo64 J J hw0 om) J <| aL (mJ (cs := [_, _]) J J J J J) J <| aL (cO J J J J J) J <| aL (cI v (bF J J J J J) hia) J <| aL (cO J J J J J) J <| aL (cI w (bF J J J J J) hiw) J <| aL (oRem J J hw0) J <| aL (mJ (cs := [_, _]) J J J J J) J <| dP (dH (cs' := [_, _]) J J J J J J J J) <| dP (dH (cs' := [_, _]) J J J J J J J J) <| bT (bE kR) J <| Ck [4,5] J <| bM <| post (n := 0) (.inr J) J ?_ (by simp)
 rw [iQ (v := v.tdiv w) (by unfold small; omega), iQ (v := v.tmod w) (by unfold small; omega)]; rfl
theorem gcd_run (v w : Int) (hv : len32 v < 549755813888) (hw : len32 w < 549755813888) : Run Try.prog T E0 (.call 180 [lvI v, lvI w] (lvI (v.gcd w : Nat))) := by
 refine bC Try.func180 J J (cW J) <| Rg 3 J <| bL (kE J J) J <| bL (kE J J) J <| bL (gM J) J <| Wn <| cJ (z := 6) J kR <| aL (bF (l := .agg [_, _]) J J J J J) J <| aL (aE J (abs_run _) (by simp)) J <| aL (bF (l := .agg [_, _]) J J J J J) J <| aL (aE J (abs_run _) (by simp)) J <| dP (dH (cs' := [_, _]) J J J J J J J J) <| dP (dH (cs' := [_, _]) J J J J J J J J) <| bT (bE kR) J <| aG <| aY (α := Nat × Nat) (fun ⟨a, b⟩ => [(2, .ptr 0 0), (3, .ptr 1 0), (4, .ptr 2 0)]) (fun ⟨a, b⟩ => [(0, { cells := (lvI (a : Int)).cells, sz := 2, elem := 112, st := 0 }), (1, { cells := (lvI (b : Int)).cells, sz := 2, elem := 112, st := 0 }), (2, { cells := [.v (.int .i64 0), .sl 0 []], sz := 2, elem := 112, st := 0 })]) (fun ⟨a, b⟩ n => Nat.gcd a b = v.gcd w ∧ len32 (a : Int) < 549755813888 ∧ len32 (b : Int) < 549755813888 ∧ 3 ≤ n) (fun ⟨a, b⟩ => b) (v.natAbs, w.natAbs) ⟨J, J, J, trivial⟩ ⟨J, J, J, trivial⟩ ⟨rfl, by rw [len32_nat]; exact hv, by rw [len32_nat]; exact hw, om⟩ ?_
 rintro ⟨a, b⟩ n hF
 change WC _ _ _ _ _ (_ :: _) (_ :: _) n _
 obtain ⟨hg, hla, hlb, hn3⟩ := hF
 refine aC <| Rg 3 J <| aA (bF (l := .agg [_, _]) J J J J J) J <| aA (aE J (iV _) (by simp)) J <| aA (eG J J) J <| aW (fun h13 => ?_) (fun h13 => ?_)
 rotate_left
 ·refine Wn <| aR J <| aT <| aP <| aN J <| Rg 2 J <| aA (bF (l := .agg [_, _]) J J J J J) J <| bB (dH (cs' := [_, _]) J J J J J J J J) <| Wn <| aK <| post (n := 0) (.inr J) J ?_ (by simp)
  have hb0 : b = 0 := by
   have := Int.sign_eq_zero_iff_zero (a := (b : Int)); omega
  subst hb0
  rw [Nat.gcd_zero_right] at hg
  rw [← hg]; rfl
 refine Wn <| aV J <| aF <| eQ ?_
 have hb0 : 0 < b := by
  rcases Nat.eq_zero_or_pos b with h | h
  ·subst h; simp at h13
  ·exact h
 have hm : (a : Int).tmod b = ((a % b : Nat) : Int) := by rw [Int.tmod_eq_emod_of_nonneg om]; simp
 have hlm : len32 ((a % b : Nat) : Int) < 549755813888 := by rw [← hm]; have := len32_tmod (a : Int) (b : Int); omega
 refine Rg 10 J <| aA (bF (l := .agg [_, _]) J J J J J) J <| aA (bF (l := .agg [_, _]) J J J J J) J <| aA (aE J (mP (a : Int) (b : Int) om hla hlb) (by simp)) J <| Um J J <| aA (bU J J) J <| aA (aS (b := lvI ((a % b : Nat) : Int)) (bU J J) (by rw [hm])) J <| bL (gM J) J <| bL (gM J) J <| bB (dH (cs' := [_, _]) J J J (g1 om g0) J J J J) <| bB (dH (cs' := [_, _]) J J J (g1 om g0) J J J J) <| Wn <| dR (z := 4) J kR <| aL (bF (l := .agg [_, _]) J J (g1 om (g1 om (g1 om (g1 om (g1 (by decide) g0))))) J J) J <| aL (bF (l := .agg [_, _]) J J g0 J J) J <| dP (dH (cs' := [_, _]) J J J (g1 om (g1 om (g1 om (g1 om g0)))) J J J J) <| dP (dH (cs' := [_, _]) J J J (g1 (by decide) (g1 om (g1 om (g1 om (g1 om (g1 (by decide) g0)))))) J J J J) <| bT (bE kR) J <| eX <| aH <| ⟨⟨b, a % b⟩, ⟨J, J, J, trivial⟩, ⟨g1 (by decide) g0, g0, g1 (by decide) (g1 (by decide) (g1 om (g1 om (g1 om (g1 om (g1 (by decide) (g1 (by decide) g0))))))), trivial⟩, ⟨by rw [← hg, Nat.gcd_comm b, ← Nat.gcd_rec b a, Nat.gcd_comm], hlb, hlm, om⟩, Nat.mod_lt _ hb0⟩
theorem gV (v w : Int) (hw0 : w ≠ 0) (hv : len32 v < 549755813888) (hw : len32 w < 549755813888) : Run Try.prog T E0 (.call 173 [lvI v, lvI w] (lvX (Rat.divInt v w, false))) := by
 have hgp : 0 < v.gcd w := Int.gcd_pos_of_ne_zero_right _ hw0
 obtain ⟨hL1, hL2⟩ := nV (a := v) hw0
 have hlg : len32 ((v.gcd w : Nat) : Int) < 549755813888 := by
  have h1 : v.gcd w ≤ w.natAbs := Nat.le_of_dvd om (Nat.gcd_dvd_right _ _)
  have := lM (v := ((v.gcd w : Nat) : Int)) (w := w) (by simpa using h1)
  omega
 obtain ⟨g, hg⟩ : ∃ g : Int, g = (v.gcd w : Nat) := ⟨_, rfl⟩
 rw [← hg] at hL1 hL2 hlg
 refine bC Try.func173 J J (cW J) ?_
 have J5 : ∀ (a b : Int) (ha : a = v.tdiv g) (hb : b = w.tdiv g) (n : Nat) , WC Try.prog T E0 Try.f173.ntmps (codeR (codeR (codeOf Try.f173))) [(2, .ptr 0 0), (3, .ptr 1 0), (4, .ptr 2 0)] [(0, { cells := (lvI a).cells, sz := 2, elem := 112, st := 0 }), (1, { cells := (lvI b).cells, sz := 2, elem := 112, st := 0 }), (2, { cells := [.v (.int .i64 0), .sl 0 [], .v (.int .i64 0), .sl 0 []], sz := 4, elem := 114, st := 0 })] n (Post T Try.f173.results.toList (lvX (Rat.divInt v w, false))) := by
  intro a b ha hb n
  subst ha hb
  refine aC <| Rg 3 J <| aA (bF (l := .agg [_, _]) J J J J J) J <| aA (aE J (iV _) (by simp)) J <| aA (bS J J) J <| aW (fun h31 => ?_) (fun h31 => ?_)
  rotate_left
  ·refine Wn <| aR J <| aF <| Rg 4 J <| aA (bF (l := .agg [_, _]) J J J J J) J <| aA (bF (l := .agg [_, _]) J J J J J) J <| aA (mJ (cs := [_, _, _, _]) J J J J J) J <| bB (dH (cs' := [_, _, _, _]) J J J J J J J J) <| Wn <| aK <| post (n := 0) (.inr J) J ?_ (by simp)
   obtain ⟨h1, h2⟩ := hL2 (by have := @Int.sign_neg_iff (w.tdiv g); omega)
   rw [lvX_f, ← h1, ← h2]; rfl
  refine Wn <| aV J <| cJ (z := 6) J kR <| aL (bF (l := .agg [_, _]) J J J J J) J <| aL (aE J (pI _) (by simp)) J <| aL (bF (l := .agg [_, _]) J J J J J) J <| aL (aE J (pI _) (by simp)) J <| dP (dH (cs' := [_, _]) J J J J J J J J) <| dP (dH (cs' := [_, _]) J J J J J J J J) <| bT (bE kR) J <| Rg 4 J <| aA (bF (l := .agg [_, _]) J J J J J) J <| aA (bF (l := .agg [_, _]) J J J J J) J <| aA (mJ (cs := [_, _, _, _]) J J J J J) J <| bB (dH (cs' := [_, _, _, _]) J J J J J J J J) <| Wn <| aK <| post (n := 0) (.inr J) J ?_ (by simp)
  obtain ⟨h1, h2⟩ := hL1 (Int.sign_neg_iff.1 h31)
  rw [lvX_f, ← h1, ← h2]; rfl
 refine Rg 3 J <| bL (kE J J) J <| bL (kE J J) J <| bL (gM J) J <| Wn <| aC <| Rg 5 J <| aA (bF (l := .agg [_, _]) J J J J J) J <| aA (bF (l := .agg [_, _]) J J J J J) J <| aA (aE J (hg ▸ gcd_run v w hv hw) (by simp)) J <| bL (gM J) J <| bB (dH (cs' := [_, _]) J J J J J J J J) <| Wn <| aC <| Rg 8 J <| aA (cO J J J J J) J <| aA (bF J J J J J) J <| aA (eG J J) J <| aW (fun h11 => ?_) (fun h11 => ?_)
 ·refine Um J J <| K1 J J <| K1 J J <| K1 J J <| aA (cG J J) J <| Nk [2,3,4,5,16] J <| aV J <| aC <| Rg 7 J <| aA (bF (l := .agg [_, _]) J J J J J) J <| aA (bF (l := .agg [_, _]) J J J J J) J <| aA (aE J (mP v g om hv hlg) (by simp)) J <| Um J J <| aA (bU J J) J <| aA (bU J J) J <| bB (dH (cs' := [_, _]) J J J J J J J J) <| Wn <| Rg 7 J <| aA (bF (l := .agg [_, _]) J J J J J) J <| aA (bF (l := .agg [_, _]) J J J J J) J <| aA (aE J (mP w g om hw hlg) (by simp)) J <| Um J J <| aA (bU J J) J ?_
  refine aA (bU J J) J <| bB (dH (cs' := [_, _]) J J J J J J J J) <| Nk [2,3,4] J <| Ck [2,3,4] J <| fI _ ?_ (J5 _ _ J J _)
  exact ⟨J, J, J, trivial⟩
 refine Um J J <| aJ J (cO J J J J J) J <| aJ J (bF J J J J J) J <| aJ J (oNilN J J) J <| dM (fun h15 => ?_) (fun h15 => ?_)
 rotate_left
 ·refine aA (cD J J) J <| Nk [2,3,4,5,16] J <| aR J <| aF <| Ck [2,3,4] J ?_
  have h1 : g = 1 := by
   have := dC (qB.1 h15); omega
  have e1 : v = v.tdiv g := by rw [h1]; simp
  have e2 : w = w.tdiv g := by rw [h1]; simp
  refine fI _ ?_ (J5 _ _ e1 e2 _)
  exact ⟨J, J, J, trivial⟩
 refine aA (cD J J) J <| Nk [2,3,4,5,16] J <| aV J <| aC <| Rg 7 J <| aA (bF (l := .agg [_, _]) J J J J J) J <| aA (bF (l := .agg [_, _]) J J J J J) J <| aA (aE J (mP v g om hv hlg) (by simp)) J <| Um J J <| aA (bU J J) J <| aA (bU J J) J <| bB (dH (cs' := [_, _]) J J J J J J J J) <| Wn <| Rg 7 J <| aA (bF (l := .agg [_, _]) J J J J J) J <| aA (bF (l := .agg [_, _]) J J J J J) J <| aA (aE J (mP w g om hw hlg) (by simp)) J <| Um J J <| aA (bU J J) J <| aA (bU J J) J <| bB (dH (cs' := [_, _]) J J J J J J J J) <| Nk [2,3,4] J ?_
 refine Ck [2,3,4] J <| fI _ ?_ (J5 _ _ J J _)
 exact ⟨J, J, J, trivial⟩
theorem pD (x : X) : Run Try.prog T E0 (.call 174 [lvX x] (.v (.bool (xw x)))) := by
 refine bC Try.func174 J J (cW J) <| Rg 2 J <| bL (kE J J) J <| Ua J J <| Wn <| Rg 11 J <| aA (cO J J J J J) J <| aA (cO J J J J J) J <| aA (bF J J J J J) J <| aA (kG J J) J <| dM (fun h6 => ?_) (fun h6 => ?_)
 ·refine Um J J <| aJ J (cO J J J J J) J <| aJ J (cO J J J J J) J <| aJ J (bF J J J J J) J <| aJ J (oLeq J J) J <| aA (cG J J) J <| Ua J J <| Wn <| aK <| post (n := 0) (.inr J) J ?_ (by simp)
  have h1 : decide (ia (xlow x) ≤ 1) = xw x := by
   rw [dC (oI.1 h6)]; exact decide_eq_decide.2 (rB x)
  exact congrArg (fun z => LV.v (.bool z)) h1
 refine Um J J <| K1 J J <| K1 J J <| K1 J J <| K1 J J <| aA (cD J J) J <| Ua J J <| Wn <| aK <| post (n := 0) (.inr J) J ?_ (by simp)
 have h1 : false = xw x := by
  have h2 := ik_ne.1 h6
  have h3 := rB x
  have h4 : ¬ x.1.den = 1 := fun k => h2 (by have := h3.2 k; have := xlow_nonneg x; unfold small; omega)
  unfold xw; rw [decide_eq_false h4]
 exact congrArg (fun z => LV.v (.bool z)) h1
theorem dY (x : X) : Run Try.prog T E0 (.call 171 [lvX x] (lvI (x.1.den : Int))) := by
 refine bC Try.func171 J J (cW J) <| Rg 2 J <| bL (kE J J) J <| bL (gM J) J <| Wn <| aC <| Rg 4 J <| aA (cO J J J J J) J <| aA (bF (l := .agg [_, _]) J J J J J) J <| aA (aE J (iV _) (by simp)) J <| aA (fR J J) J <| aW (fun h6 => ?_) (fun h6 => ?_)
 ·refine Wn <| aV J <| aC <| Rg 2 J <| aA (aE J (one_run) (by simp)) J <| bB (dH (cs' := [_, _]) J J J J J J J J) <| Wn <| bM <| post (n := 0) (.inr J) J ?_ (by simp)
  rw [xlow_zero (Int.sign_eq_zero_iff_zero.1 h6)]; rfl
 refine Wn <| aR J <| aF <| Rg 3 J <| aA (cO J J J J J) J <| aA (bF (l := .agg [_, _]) J J J J J) J <| bB (dH (cs' := [_, _]) J J J J J J J J) <| Wn <| aK <| post (n := 0) (.inr J) J ?_ (by simp)
 rw [← xlow_ne (fun k => h6 (by rw [k]; rfl))]; rfl
theorem top_run (x : X) : Run Try.prog T E0 (.call 170 [lvX x] (lvI x.1.num)) := by
 refine bC Try.func170 J J (cW J) <| Rg 2 J <| bL (kE J J) J <| bL (gM J) J <| Wn <| Rg 3 J <| aA (cO J J J J J) J <| aA (bF (l := .agg [_, _]) J J J J J) J <| bB (dH (cs' := [_, _]) J J J J J J J J) <| Wn <| aK <| post (n := 0) (.inr J) J ?_ (by simp)
 rfl
theorem gA (x : X) : Run Try.prog T E0 (.call 122 [lvX x] (.v (.int .i64 x.1.num.sign))) := by
 refine bC Try.func122 J J (cW J) <| Rg 2 J <| bL (kE J J) J <| Ua J J <| Wn <| Rg 4 J <| aA (cO J J J J J) J <| aA (bF (l := .agg [_, _]) J J J J J) J <| aA (aE J (iV x.1.num) (by simp)) J <| Ua J J <| Wn <| aK ?_
 exact post (n := 0) (.inr J) J J (by simp)
theorem qP (x : X) : Run Try.prog T E0 (.call 123 [lvX x] (lvX (xneg x))) := by
 refine bC Try.func123 J J (cW J) <| Rg 2 J <| bL (kE J J) J <| bL (gM J) J <| Wn <| cJ (z := 7) J kR <| aL (cO J J J J J) J <| aL (bF (l := .agg [_, _]) J J J J J) J <| aL (aE J (pI x.1.num) (by simp)) J <| aL (cO J J J J J) J <| aL (bF (l := .agg [_, _]) J J J J J) J <| aL (mJ (cs := [_, _, _, _]) J J J J J) J <| dP (dH (cs' := [_, _, _, _]) J J J J J J J J) <| bT (bE kR) J <| aK <| post (n := 0) (.inr J) J ?_ (by simp)
 rw [lvX_neg]; rfl
theorem iX (v : Int) (hv : I64 v) : Run Try.prog T E0 (.call 125 [.v (.int .i64 v)] (lvX (xint v))) := by
 unfold I64 at hv
 refine bC Try.func125 J J (cW J) <| Rg 1 J <| bL (gM J) J <| Wn <| Rg 4 J <| Um J J <| aA (aE J (nR _ om) (by simp)) J <| aA (mJ (cs := [_, _, _, _]) J J J J J) J <| bB (dH (cs' := [_, _, _, _]) J J J J J J J J) <| Wn <| aK <| post (n := 0) (.inr J) J ?_ (by simp)
 rw [lvX_int]; rfl
theorem radd_run (x y : X) (hx : Bd 68719476736 x.1) (hy : Bd 68719476736 y.1) : Run Try.prog T E0 (.call 108 [lvX x, lvX y] (lvX (xadd x y))) := by
 obtain ⟨hx1, hx2⟩ := hx
 obtain ⟨hy1, hy2⟩ := hy
 have m1 := dG x.1.num y.1.den
 have m2 := dG y.1.num x.1.den
 have m3 := rQ (x.1.num * y.1.den) (y.1.num * x.1.den)
 have m4 := dG x.1.den y.1.den
 refine bC Try.func108 J J (cW J) <| Rg 3 J <| bL (kE J J) J <| bL (kE J J) J <| bL (gM J) J <| Wn <| aC <| Rg 6 J <| aA (bF (l := .agg [_, _, _, _]) J J J J J) J <| aA (aE J (pD x) (by simp)) J <| dM (fun h6 => ?_) (fun h6 => ?_)
 rotate_left
 ·refine Um J J <| K1 J J <| K1 J J <| aA (cD J J) J <| Wn <| aR J <| aF <| cJ (z := 18) J kR <| aL (cO J J J J J) J <| aL (bF (l := .agg [_, _]) J J J J J) J <| aL (bF (l := .agg [_, _, _, _]) J J J J J) J <| aL (aE J (dY y) (by simp)) J <| aL (aE J (eV x.1.num y.1.den om om) (by simp)) J <| aL (cO J J J J J) J <| aL (bF (l := .agg [_, _]) J J J J J) J <| aL (bF (l := .agg [_, _, _, _]) J J J J J) J <| aL (aE J (dY x) (by simp)) J <| aL (aE J (eV y.1.num x.1.den om om) (by simp)) J <| aL (aE J (add_run (x.1.num * y.1.den) (y.1.num * x.1.den) om om) (by simp)) J <| aL (bF (l := .agg [_, _, _, _]) J J J J J) J <| aL (aE J (dY x) (by simp)) J <| aL (bF (l := .agg [_, _, _, _]) J J J J J) J <| aL (aE J (dY y) (by simp)) J <| aL (aE J (eV x.1.den y.1.den om om) (by simp)) J ?_
  refine aL (aE J (gV (x.1.num * y.1.den + y.1.num * x.1.den) (x.1.den * y.1.den) (Int.mul_ne_zero (fL _) (fL _)) om om) (by simp)) J <| dP (dH (cs' := [_, _, _, _]) J J J J J J J J) <| bT (bE kR) J <| Ck [4] J <| aK <| post (n := 0) (.inr J) J ?_ (by simp)
  rw [xadd_f (by rw [h6]; rfl)]; rfl
 refine Um J J <| aJ J (bF (l := .agg [_, _, _, _]) J J J J J) J <| aJ J (aE J (pD y) (by simp)) J <| dM (fun h9 => ?_) (fun h9 => ?_)
 ·refine aA (cG J J) J <| Wn <| aV J <| aC <| Rg 7 J <| aA (cO J J J J J) J <| aA (bF (l := .agg [_, _]) J J J J J) J <| aA (cO J J J J J) J <| aA (bF (l := .agg [_, _]) J J J J J) J <| aA (aE J (add_run x.1.num y.1.num om om) (by simp)) J <| aA (mJ (cs := [_, _, _, _]) J J J J J) J <| bB (dH (cs' := [_, _, _, _]) J J J J J J J J) <| Nk [4] J <| bM <| post (n := 0) (.inr J) J ?_ (by simp)
  rw [xadd_w h6 h9]; rfl
 refine aA (cG J J) J <| Wn <| aR J <| aF <| cJ (z := 18) J kR <| aL (cO J J J J J) J <| aL (bF (l := .agg [_, _]) J J J J J) J <| aL (bF (l := .agg [_, _, _, _]) J J J J J) J <| aL (aE J (dY y) (by simp)) J <| aL (aE J (eV x.1.num y.1.den om om) (by simp)) J <| aL (cO J J J J J) J <| aL (bF (l := .agg [_, _]) J J J J J) J <| aL (bF (l := .agg [_, _, _, _]) J J J J J) J <| aL (aE J (dY x) (by simp)) J <| aL (aE J (eV y.1.num x.1.den om om) (by simp)) J <| aL (aE J (add_run (x.1.num * y.1.den) (y.1.num * x.1.den) om om) (by simp)) J <| aL (bF (l := .agg [_, _, _, _]) J J J J J) J <| aL (aE J (dY x) (by simp)) J <| aL (bF (l := .agg [_, _, _, _]) J J J J J) J <| aL (aE J (dY y) (by simp)) J <| aL (aE J (eV x.1.den y.1.den om om) (by simp)) J <| aL (aE J (gV (x.1.num * y.1.den + y.1.num * x.1.den) (x.1.den * y.1.den) (Int.mul_ne_zero (fL _) (fL _)) om om) (by simp)) J <| dP (dH (cs' := [_, _, _, _]) J J J J J J J J) <| bT (bE kR) J ?_
 refine Ck [4] J <| aK <| post (n := 0) (.inr J) J ?_ (by simp)
 rw [xadd_f (by rw [h6, h9]; rfl)]; rfl
theorem mR (x y : X) (hx : Bd 68719476736 x.1) (hy : Bd 68719476736 y.1) : Run Try.prog T E0 (.call 110 [lvX x, lvX y] (lvX (xmul x y))) := by
 obtain ⟨hx1, hx2⟩ := hx
 obtain ⟨hy1, hy2⟩ := hy
 have m1 := dG x.1.num y.1.num
 have m4 := dG x.1.den y.1.den
 refine bC Try.func110 J J (cW J) <| Rg 3 J <| bL (kE J J) J <| bL (kE J J) J <| bL (gM J) J <| Wn <| aC <| Rg 6 J <| aA (bF (l := .agg [_, _, _, _]) J J J J J) J <| aA (aE J (pD x) (by simp)) J <| dM (fun h6 => ?_) (fun h6 => ?_)
 rotate_left
 ·refine Um J J <| K1 J J <| K1 J J <| aA (cD J J) J <| Wn <| aR J <| aF <| cJ (z := 12) J kR <| aL (cO J J J J J) J <| aL (bF (l := .agg [_, _]) J J J J J) J <| aL (cO J J J J J) J <| aL (bF (l := .agg [_, _]) J J J J J) J <| aL (aE J (eV x.1.num y.1.num om om) (by simp)) J <| aL (bF (l := .agg [_, _, _, _]) J J J J J) J <| aL (aE J (dY x) (by simp)) J <| aL (bF (l := .agg [_, _, _, _]) J J J J J) J <| aL (aE J (dY y) (by simp)) J <| aL (aE J (eV x.1.den y.1.den om om) (by simp)) J <| aL (aE J (gV (x.1.num * y.1.num) (x.1.den * y.1.den) (Int.mul_ne_zero (fL _) (fL _)) om om) (by simp)) J <| dP (dH (cs' := [_, _, _, _]) J J J J J J J J) <| bT (bE kR) J <| Ck [4] J <| aK <| post (n := 0) (.inr J) J ?_ (by simp)
  rw [xmul_f (by rw [h6]; rfl)]; rfl
 refine Um J J <| aJ J (bF (l := .agg [_, _, _, _]) J J J J J) J <| aJ J (aE J (pD y) (by simp)) J <| dM (fun h9 => ?_) (fun h9 => ?_)
 ·refine aA (cG J J) J <| Wn <| aV J <| aC <| Rg 7 J <| aA (cO J J J J J) J <| aA (bF (l := .agg [_, _]) J J J J J) J <| aA (cO J J J J J) J <| aA (bF (l := .agg [_, _]) J J J J J) J <| aA (aE J (eV x.1.num y.1.num om om) (by simp)) J <| aA (mJ (cs := [_, _, _, _]) J J J J J) J <| bB (dH (cs' := [_, _, _, _]) J J J J J J J J) <| Nk [4] J <| bM <| post (n := 0) (.inr J) J ?_ (by simp)
  rw [xmul_w h6 h9]; rfl
 refine aA (cG J J) J <| Wn <| aR J <| aF <| cJ (z := 12) J kR <| aL (cO J J J J J) J <| aL (bF (l := .agg [_, _]) J J J J J) J <| aL (cO J J J J J) J <| aL (bF (l := .agg [_, _]) J J J J J) J <| aL (aE J (eV x.1.num y.1.num om om) (by simp)) J <| aL (bF (l := .agg [_, _, _, _]) J J J J J) J <| aL (aE J (dY x) (by simp)) J <| aL (bF (l := .agg [_, _, _, _]) J J J J J) J <| aL (aE J (dY y) (by simp)) J <| aL (aE J (eV x.1.den y.1.den om om) (by simp)) J <| aL (aE J (gV (x.1.num * y.1.num) (x.1.den * y.1.den) (Int.mul_ne_zero (fL _) (fL _)) om om) (by simp)) J <| dP (dH (cs' := [_, _, _, _]) J J J J J J J J) <| bT (bE kR) J <| Ck [4] J <| aK <| post (n := 0) (.inr J) J ?_ (by simp)
 rw [xmul_f (by rw [h6, h9]; rfl)]; rfl
theorem rdiv_run (x y : X) (h0 : y.1 ≠ 0) (hx : Bd 68719476736 x.1) (hy : Bd 68719476736 y.1) : Run Try.prog T E0 (.call 124 [lvX x, lvX y] (lvX (xdiv x y))) := by
 obtain ⟨hx1, hx2⟩ := hx
 obtain ⟨hy1, hy2⟩ := hy
 have m1 := dG x.1.num y.1.den
 have m4 := dG x.1.den y.1.num
 refine bC Try.func124 J J (cW J) <| Rg 3 J <| bL (kE J J) J <| bL (kE J J) J <| bL (gM J) J <| Wn <| cJ (z := 12) J kR <| aL (cO J J J J J) J <| aL (bF (l := .agg [_, _]) J J J J J) J <| aL (bF (l := .agg [_, _, _, _]) J J J J J) J <| aL (aE J (dY y) (by simp)) J <| aL (aE J (eV x.1.num y.1.den om om) (by simp)) J <| aL (bF (l := .agg [_, _, _, _]) J J J J J) J <| aL (aE J (dY x) (by simp)) J <| aL (cO J J J J J) J <| aL (bF (l := .agg [_, _]) J J J J J) J <| aL (aE J (eV x.1.den y.1.num om om) (by simp)) J <| aL (aE J (gV (x.1.num * y.1.den) (x.1.den * y.1.num) (Int.mul_ne_zero (fL _) (num_ne h0)) om om) (by simp)) J <| dP (dH (cs' := [_, _, _, _]) J J J J J J J J) <| bT (bE kR) J <| Ck [4] J <| aK <| post (n := 0) (.inr J) J ?_ (by simp)
 rw [xdiv_f h0]; rfl
theorem nrat_run (a : NM) (h1 : I64 a.1) (h2 : I64 a.2) (h0 : a.2 ≠ 0) : Run Try.prog T E0 (.call 105 [lvM a] (lvX (Rat.divInt a.1 a.2, false))) := by
 unfold I64 at h1 h2
 have m1 := fH (v := a.1) om
 have m2 := fH (v := a.2) om
 refine bC Try.func105 J J (cW J) <| Rg 2 J <| bL (kE J J) J <| bL (gM J) J <| Wn <| cJ (z := 8) J kR <| aL (cO J J J J J) J <| aL (bF J J J J J) J <| aL (aE J (nR _ om) (by simp)) J <| aL (cO J J J J J) J <| aL (bF J J J J J) J <| aL (aE J (nR _ om) (by simp)) J <| aL (aE J (gV a.1 a.2 h0 om om) (by simp)) J <| dP (dH (cs' := [_, _, _, _]) J J J J J J J J) <| bT (bE kR) J <| aK <| post (n := 0) (.inr J) J ?_ (by simp)
 rfl
theorem nvalid_run (a : NM) (h1 : I64 a.1) (h2 : I64 a.2) : Run Try.prog T E0 (.call 118 [lvM a] (.v (.bool (decide (VN a))))) := by
 unfold I64 at h1 h2
 have m1 := fH (v := a.1) om
 have m2 := fH (v := a.2) om
 refine bC Try.func118 J J (cW J) <| Rg 2 J <| bL (kE J J) J <| Ua J J <| Wn <| aC <| Rg 18 J <| aA (cO J J J J J) J <| aA (bF J J J J J) J <| aA (bS J J) J <| aW (fun h7 => ?_) (fun h7 => ?_)
 ·refine Um J J <| K1 J J <| K1 J J <| K1 J J <| aA (cG J J) J <| Um J J <| K1 J J <| K1 J J <| K1 J J <| aA (cG J J) J <| Um J J <| K1 J J <| K1 J J <| K1 J J <| aA (cG J J) J <| Nk [1,22] J <| aV J <| aC ?_
  have hV : ¬ VN a := by unfold VN; omega
  refine Rg 1 J <| Ua J J <| Wn <| bM <| post (n := 0) (.inr J) J ?_ (by simp)
  exact congrArg (fun z => LV.v (.bool z)) (decide_eq_false hV).symm
 refine Um J J <| aJ J (cO J J J J J) J <| aJ J (bF J J J J J) J <| aJ J (fU J J) J <| aW (fun h11 => ?_) (fun h11 => ?_)
 ·refine aA (cD J J) J <| Um J J <| K1 J J <| K1 J J <| K1 J J <| aA (cG J J) J <| Um J J <| K1 J J <| K1 J J <| K1 J J <| aA (cG J J) J <| Nk [1,22] J <| aV J <| aC ?_
  have hV : ¬ VN a := by unfold VN; omega
  refine Rg 1 J <| Ua J J <| Wn <| bM <| post (n := 0) (.inr J) J ?_ (by simp)
  exact congrArg (fun z => LV.v (.bool z)) (decide_eq_false hV).symm
 refine aA (cD J J) J <| Um J J <| aJ J (cO J J J J J) J <| aJ J (bF J J J J J) J <| aJ J (fU J J) J <| aW (fun h16 => ?_) (fun h16 => ?_)
 ·refine aA (cD J J) J <| Um J J <| K1 J J <| K1 J J <| K1 J J <| aA (cG J J) J <| Nk [1,22] J <| aV J <| aC ?_
  have hV : ¬ VN a := by unfold VN; omega
  refine Rg 1 J <| Ua J J <| Wn <| bM <| post (n := 0) (.inr J) J ?_ (by simp)
  exact congrArg (fun z => LV.v (.bool z)) (decide_eq_false hV).symm
 refine aA (cD J J) J <| Um J J <| aJ J (cO J J J J J) J <| aJ J (bF J J J J J) J <| aJ J (bS J J) J <| aW (fun h21 => ?_) (fun h21 => ?_)
 ·refine aA (cD J J) J <| Nk [1,22] J <| aV J <| aC ?_
  have hV : ¬ VN a := by unfold VN; omega
  refine Rg 1 J <| Ua J J <| Wn <| bM <| post (n := 0) (.inr J) J ?_ (by simp)
  exact congrArg (fun z => LV.v (.bool z)) (decide_eq_false hV).symm
 refine aA (cD J J) J <| Nk [1,22] J <| aR J <| aF ?_
 have hg1 : a.1.gcd a.2 ≤ a.2.natAbs := Nat.le_of_dvd om (Nat.gcd_dvd_right _ _)
 refine cJ (z := 13) J kR <| aL (cO J J J J J) J <| aL (bF J J J J J) J <| aL (aE J (nR _ om) (by simp)) J <| aL (cO J J J J J) J <| aL (bF J J J J J) J <| aL (aE J (nR _ om) (by simp)) J <| aL (aE J (gcd_run a.1 a.2 om om) (by simp)) J <| aL (aE J (pC (a.1.gcd a.2 : Nat) 1152921504606846976 om) (by simp)) J <| Dm J J <| aL (bU J J) J <| aL (bU J J) J <| aL (fV J) J <| aL (fV J) J <| bT (bE kR) J <| Ck [3] J <| Rg 3 J <| Um J J <| aA (fR J J) J <| Ua J J <| Wn <| aK <| post (n := 0) (.inr J) J ?_ (by simp)
 have hV : (decide ((if -1152921504606846976 ≤ ((a.1.gcd a.2 : Nat) : Int) ∧ ((a.1.gcd a.2 : Nat) : Int) ≤ 1152921504606846976 then ((a.1.gcd a.2 : Nat) : Int) else 0) = 1)) = decide (VN a) := by
  rw [if_pos om]; apply decide_eq_decide.2; unfold VN; omega
 exact congrArg (fun z => LV.v (.bool z)) hV
theorem kD (x : X) : Run Try.prog T E0 (.call 100 [lvX x] (lvO (outN x.1))) := by
 refine bC Try.func100 J J (cW J) <| Rg 3 J <| bL (kE J J) J <| bL (gM J) J <| Ua J J <| Wn <| Rg 8 J <| aA (bF (l := .agg [_, _, _, _]) J J J J J) J <| aA (aE J (top_run x) (by simp)) J <| aA (aE J (pC x.1.num 1152921504606846976 om) (by simp)) J <| Um J J <| aA (bU J J) J <| aA (bU J J) J <| dM (fun h13 => ?_) (fun h13 => ?_)
 rotate_left
 ·refine Ua J J <| Ua J J <| Wn <| Rg 8 J <| aA (bF (l := .agg [_, _, _, _]) J J J J J) J <| aA (aE J (dY x) (by simp)) J <| aA (aE J (pC x.1.den 1152921504606846976 om) (by simp)) J <| Um J J <| aA (bU J J) J <| aA (bU J J) J <| dM (fun h19 => ?_) (fun h19 => ?_)
  ·refine Ua J J <| Ua J J <| Nk [2,4,5,6,7] J <| aC <| Rg 6 J <| Um J J <| aA (bZ J) J <| Um J J <| K1 J J <| K1 J J <| aA (cG J J) J <| Wn <| aV J <| aC ?_
   have hV : outN x.1 = none := by
    unfold outN; rw [if_neg]; simp at *; omega
   refine Rg 3 J <| aA (mJ (cs := [_, _]) J J J J J) J <| bB (dH (cs' := [_, _]) J J J J J J J J) <| Ua J J <| Wn <| bM <| post (n := 0) (.inr J) J ?_ (by simp)
   first | (rw [hV]; rfl) | (rw [hV, if_pos k1, if_pos k2]; rfl)
  refine Ua J J <| Ua J J <| Nk [2,4,5,6,7] J <| aC <| Rg 6 J <| Um J J <| aA (bZ J) J <| Um J J <| K1 J J <| K1 J J <| aA (cG J J) J <| Wn <| aV J <| aC ?_
  have hV : outN x.1 = none := by
   unfold outN; rw [if_neg]; simp at *; omega
  refine Rg 3 J <| aA (mJ (cs := [_, _]) J J J J J) J <| bB (dH (cs' := [_, _]) J J J J J J J J) <| Ua J J <| Wn <| bM <| post (n := 0) (.inr J) J ?_ (by simp)
  first | (rw [hV]; rfl) | (rw [hV, if_pos k1, if_pos k2]; rfl)
 refine Ua J J <| Ua J J <| Wn <| Rg 8 J <| aA (bF (l := .agg [_, _, _, _]) J J J J J) J <| aA (aE J (dY x) (by simp)) J <| aA (aE J (pC x.1.den 1152921504606846976 om) (by simp)) J <| Um J J <| aA (bU J J) J <| aA (bU J J) J <| dM (fun h19 => ?_) (fun h19 => ?_)
 rotate_left
 ·refine Ua J J <| Ua J J <| Nk [2,4,5,6,7] J <| aC <| Rg 6 J <| Um J J <| aA (bZ J) J <| Um J J <| aJ J (cR J) J <| aJ J (bZ J) J <| aA (cD J J) J <| Wn <| aV J <| aC ?_
  have hV : outN x.1 = none := by
   unfold outN; rw [if_neg]; simp at *; omega
  refine Rg 3 J <| aA (mJ (cs := [_, _]) J J J J J) J <| bB (dH (cs' := [_, _]) J J J J J J J J) <| Ua J J <| Wn <| bM <| post (n := 0) (.inr J) J ?_ (by simp)
  first | (rw [hV]; rfl) | (rw [hV, if_pos k1, if_pos k2]; rfl)
 refine Ua J J <| Ua J J <| Nk [2,4,5,6,7] J <| aC <| Rg 6 J <| Um J J <| aA (bZ J) J <| Um J J <| aJ J (cR J) J <| aJ J (bZ J) J <| aA (cD J J) J <| Wn <| aR J <| aF ?_
 have k1 := of_decide_eq_true h13
 have k2 := of_decide_eq_true h19
 have hV : outN x.1 = some (x.1.num, (x.1.den : Int)) := by
  unfold outN; rw [if_pos ⟨k1, k2.2⟩]
 refine Rg 5 J <| Um J J <| Um J J <| aA (mJ (cs := [_, _]) J J J J J) J <| bB (dH (cs' := [_, _]) J J J J J J J J) <| Ua J J <| Nk [2,3] J <| aK <| post (n := 0) (.inr J) J ?_ (by simp)
 first | (rw [hV]; rfl) | (rw [hV, if_pos k1, if_pos k2]; rfl)
end Go.Proofs.Ytcblgjaomljikaa
set_option maxHeartbeats 4000000
namespace Go.Proofs.Ytcblgjaomljikaa
open Go.Ab Go.RowKit
theorem idx1_run (k : Nat) (ns : List NM) (g : FuncId) (cap : List LV) (p : NM → Bool) (hcap : ∀ c, c ∈ cap → Go.Ab.Data c) (ln : ns.length < 4611686018427387904) (hp : ∀ a, a ∈ ns → Run Try.prog T E0 (.call g ([lvM a] ++ cap) (.v (.bool (p a))))) : Run Try.prog T E0 (.call 179 [.sl k (ns.map mc), .fn (.func g) [] cap] (.v (.int .i64 (fidx p ns)))) := by
 refine bC Try.func179 J J (cW J) <| Rg 1 J <| Ua J J <| Wn <| aC <| Rg 3 J <| Um J J <| aA (aX J J) J <| Um J J <| Wn <| aG <| aY (α := Nat) (fun i => [(0, .sl k (ns.map mc)), (1, .fn (.func g) [] cap), (7, .v (.int .i64 (ns.length : Int))), (8, .v (.int .i64 (i : Int)))]) (fun i => []) (fun i n => i ≤ ns.length ∧ (ns.take i).any p = false) (fun i => ns.length - i) (0) ⟨J, J, J, J, trivial⟩ trivial ⟨Nat.zero_le _, by simp⟩ ?_
 rintro i n hF
 change WC _ _ _ _ _ (_ :: _) ([]) n _
 obtain ⟨hi, ha⟩ := hF
 refine Rg 1 J <| aA (bS J J) J <| aW (fun h9 => ?_) (fun h9 => ?_)
 rotate_left
 ·refine Wn <| aR J <| aT <| aP <| aN J <| Rg 1 J <| Ua J J <| Wn <| aK <| post (n := 0) (.inr J) J ?_ (by first | (simp [-bG]; done) | simp)
  exact congrArg (fun z => LV.v (.int .i64 z)) (rM ha om).symm
 refine Wn <| aV J <| aF <| aG <| Rg 2 J <| Um J J <| Ua J J <| Wn <| Rg 6 J <| Um J J <| Um J J <| Um J J <| aA (bY J J J J J om J) J <| aA (dQ (l := .agg [_, _]) J J J) J <| aA (oCallV J J (hp _ (bD om)) (bA (by simpa [-bG] using hcap))) J <| dM (fun h16 => ?_) (fun h16 => ?_)
 rotate_left
 ·refine Wn <| bH J <| bJ <| aD <| aI (z := 2) J <| aA (cI (((i + 1 : Nat) : Int)) (aQ J J om) om) J <| Um J J <| Wn <| aH <| ⟨i + 1, ⟨J, J, J, J, trivial⟩, trivial, ⟨om, take_any ha om h16⟩, by show ns.length - (i + 1) < ns.length - i; omega⟩
 refine Wn <| bI J <| Rg 2 J <| Um J J <| Ua J J <| Nk [4] J <| aK <| aO <| cZ <| aO <| post (n := 0) (.inr J) J ?_ (by first | (simp [-bG]; done) | simp)
 exact congrArg (fun z => LV.v (.int .i64 z)) (fidx_hit ha om h16).symm
theorem con1_run (k : Nat) (ns : List NM) (g : FuncId) (cap : List LV) (p : NM → Bool) (hcap : ∀ c, c ∈ cap → Go.Ab.Data c) (ln : ns.length < 4611686018427387904) (hp : ∀ a, a ∈ ns → Run Try.prog T E0 (.call g ([lvM a] ++ cap) (.v (.bool (p a))))) : Run Try.prog T E0 (.call 116 [.sl k (ns.map mc), .fn (.func g) [] cap] (.v (.bool (ns.any p)))) := by
 refine bC Try.func116 J J (cW J) <| Rg 1 J <| Ua J J <| Wn <| Rg 5 J <| Um J J <| Um J J <| aA (aE J (idx1_run k ns g cap p hcap ln hp) (by simpa [-bG] using hcap)) J <| aA (lG J J) J <| Ua J J <| Wn <| aK <| post (n := 0) (.inr J) J ?_ (by first | (simp [-bG]; done) | simp)
 exact congrArg (fun z => LV.v (.bool z)) (oD p ns)
theorem not1_run (a : NM) (g : FuncId) (cap : List LV) (b : Bool) (hcap : ∀ c, c ∈ cap → Go.Ab.Data c) (hg : Run Try.prog T E0 (.call g ([lvM a] ++ cap) (.v (.bool b)))) : Run Try.prog T E0 (.call 202 [lvM a, .ro [.fn (.func g) [] cap]] (.v (.bool (!b)))) := by
 refine bC Try.func202 J J (cW J) <| Rg 2 J <| bL (kE J J) J <| Ua J J <| Wn <| Rg 5 J <| aA (dQ (cs := [.fn (.func g) [] cap]) (l := .fn (.func g) [] cap) J J J) J <| aA (bF (l := .agg [_, _]) J J J J J) J <| aA (oCallV J J hg (bA (by simpa [-bG] using hcap))) J <| aA (bZ J) J <| Ua J J <| Wn <| aK ?_
 exact post (n := 0) (.inr J) J J (by simp)
theorem all1_run (k : Nat) (ns : List NM) (g : FuncId) (cap : List LV) (p : NM → Bool) (hcap : ∀ c, c ∈ cap → Go.Ab.Data c) (ln : ns.length < 4611686018427387904) (hp : ∀ a, a ∈ ns → Run Try.prog T E0 (.call g ([lvM a] ++ cap) (.v (.bool (p a))))) : Run Try.prog T E0 (.call 164 [.sl k (ns.map mc), .fn (.func g) [] cap] (.v (.bool (ns.all p)))) := by
 refine bC Try.func164 J J (cW J) <| Rg 2 J <| bL (kE J J) J <| Ua J J <| Wn <| Rg 5 J <| Um J J <| aA (oMf J) J <| bL (hH [.sl k (ns.map mc), .fn (.func 202) [] [.ro [.fn (.func g) [] cap]]] [(0, { cells := [.fn (.func g) [] cap], sz := 1, elem := 174, st := 1 })] J (con1_run k ns 202 [.ro [.fn (.func g) [] cap]] (fun a => !p a) (by simpa [-bG] using hcap) ln (fun a ha => not1_run a g cap (p a) hcap (hp a ha))) (.data (by simp [-bG]) (.fnp g0 (by show (0 : Nat) ≠ 2; decide) (by simp [keys]) (fun c hc => by have hc' := List.mem_singleton.1 hc; subst hc'; exact .fn _ _ _ (by simp) hcap) .nil)) (by intro q hq; rw [List.mem_singleton] at hq; subst hq; exact ⟨_, g0, by show (0 : Nat) ≠ 2; decide, rfl⟩)) J <| aA (bZ J) J <| Ua J J <| Wn <| aK <| post (n := 0) (.inr J) J ?_ (by first | (simp [-bG]; done) | simp)
 exact congrArg (fun z => LV.v (.bool z)) (any_not p ns)
theorem idx2_run (k : Nat) (ns : List M1) (g : FuncId) (cap : List LV) (p : M1 → Bool) (hcap : ∀ c, c ∈ cap → Go.Ab.Data c) (ln : ns.length < 4611686018427387904) (hp : ∀ a, a ∈ ns → Run Try.prog T E0 (.call g ([.sl a.1 (a.2.map mc)] ++ cap) (.v (.bool (p a))))) : Run Try.prog T E0 (.call 219 [.sl k (ns.map fM), .fn (.func g) [] cap] (.v (.int .i64 (fidx p ns)))) := by
 refine bC Try.func219 J J (cW J) <| Rg 1 J <| Ua J J <| Wn <| aC <| Rg 3 J <| Um J J <| aA (aX J J) J <| Um J J <| Wn <| aG <| aY (α := Nat) (fun i => [(0, .sl k (ns.map fM)), (1, .fn (.func g) [] cap), (7, .v (.int .i64 (ns.length : Int))), (8, .v (.int .i64 (i : Int)))]) (fun i => []) (fun i n => i ≤ ns.length ∧ (ns.take i).any p = false) (fun i => ns.length - i) (0) ⟨J, J, J, J, trivial⟩ trivial ⟨Nat.zero_le _, by simp⟩ ?_
 rintro i n hF
 change WC _ _ _ _ _ (_ :: _) ([]) n _
 obtain ⟨hi, ha⟩ := hF
 refine Rg 1 J <| aA (bS J J) J <| aW (fun h9 => ?_) (fun h9 => ?_)
 rotate_left
 ·refine Wn <| aR J <| aT <| aP <| aN J <| Rg 1 J <| Ua J J <| Wn <| aK <| post (n := 0) (.inr J) J ?_ (by first | (simp [-bG]; done) | simp)
  exact congrArg (fun z => LV.v (.int .i64 z)) (rM ha om).symm
 refine Wn <| aV J <| aF <| aG <| Rg 2 J <| Um J J <| Ua J J <| Wn <| Rg 6 J <| Um J J <| Um J J <| Um J J <| aA (bY J J J J J om J) J <| aA (dQ J J J) J <| aA (oCallV J J (hp _ (bD om)) (bA (by simpa [-bG] using hcap))) J <| dM (fun h16 => ?_) (fun h16 => ?_)
 rotate_left
 ·refine Wn <| bH J <| bJ <| aD <| aI (z := 2) J <| aA (cI (((i + 1 : Nat) : Int)) (aQ J J om) om) J <| Um J J <| Wn <| aH <| ⟨i + 1, ⟨J, J, J, J, trivial⟩, trivial, ⟨om, take_any ha om h16⟩, by show ns.length - (i + 1) < ns.length - i; omega⟩
 refine Wn <| bI J <| Rg 2 J <| Um J J <| Ua J J <| Nk [4] J <| aK <| aO <| cZ <| aO <| post (n := 0) (.inr J) J ?_ (by first | (simp [-bG]; done) | simp)
 exact congrArg (fun z => LV.v (.int .i64 z)) (fidx_hit ha om h16).symm
theorem con2_run (k : Nat) (ns : List M1) (g : FuncId) (cap : List LV) (p : M1 → Bool) (hcap : ∀ c, c ∈ cap → Go.Ab.Data c) (ln : ns.length < 4611686018427387904) (hp : ∀ a, a ∈ ns → Run Try.prog T E0 (.call g ([.sl a.1 (a.2.map mc)] ++ cap) (.v (.bool (p a))))) : Run Try.prog T E0 (.call 200 [.sl k (ns.map fM), .fn (.func g) [] cap] (.v (.bool (ns.any p)))) := by
 refine bC Try.func200 J J (cW J) <| Rg 1 J <| Ua J J <| Wn <| Rg 5 J <| Um J J <| Um J J <| aA (aE J (idx2_run k ns g cap p hcap ln hp) (by simpa [-bG] using hcap)) J <| aA (lG J J) J <| Ua J J <| Wn <| aK <| post (n := 0) (.inr J) J ?_ (by first | (simp [-bG]; done) | simp)
 exact congrArg (fun z => LV.v (.bool z)) (oD p ns)
theorem not2_run (a : M1) (g : FuncId) (cap : List LV) (b : Bool) (hcap : ∀ c, c ∈ cap → Go.Ab.Data c) (hg : Run Try.prog T E0 (.call g ([.sl a.1 (a.2.map mc)] ++ cap) (.v (.bool b)))) : Run Try.prog T E0 (.call 201 [.sl a.1 (a.2.map mc), .ro [.fn (.func g) [] cap]] (.v (.bool (!b)))) := by
 refine bC Try.func201 J J (cW J) <| Rg 1 J <| Ua J J <| Wn <| Rg 5 J <| aA (dQ (cs := [.fn (.func g) [] cap]) (l := .fn (.func g) [] cap) J J J) J <| Um J J <| aA (oCallV J J hg (bA (by simpa [-bG] using hcap))) J <| aA (bZ J) J <| Ua J J <| Wn <| aK ?_
 exact post (n := 0) (.inr J) J J (by simp)
theorem all2_run (k : Nat) (ns : List M1) (g : FuncId) (cap : List LV) (p : M1 → Bool) (hcap : ∀ c, c ∈ cap → Go.Ab.Data c) (ln : ns.length < 4611686018427387904) (hp : ∀ a, a ∈ ns → Run Try.prog T E0 (.call g ([.sl a.1 (a.2.map mc)] ++ cap) (.v (.bool (p a))))) : Run Try.prog T E0 (.call 161 [.sl k (ns.map fM), .fn (.func g) [] cap] (.v (.bool (ns.all p)))) := by
 refine bC Try.func161 J J (cW J) <| Rg 2 J <| bL (kE J J) J <| Ua J J <| Wn <| Rg 5 J <| Um J J <| aA (oMf J) J <| bL (hH [.sl k (ns.map fM), .fn (.func 201) [] [.ro [.fn (.func g) [] cap]]] [(0, { cells := [.fn (.func g) [] cap], sz := 1, elem := 143, st := 1 })] J (con2_run k ns 201 [.ro [.fn (.func g) [] cap]] (fun a => !p a) (by simpa [-bG] using hcap) ln (fun a ha => not2_run a g cap (p a) hcap (hp a ha))) (.data (by simp [-bG]) (.fnp g0 (by show (0 : Nat) ≠ 2; decide) (by simp [keys]) (fun c hc => by have hc' := List.mem_singleton.1 hc; subst hc'; exact .fn _ _ _ (by simp) hcap) .nil)) (by intro q hq; rw [List.mem_singleton] at hq; subst hq; exact ⟨_, g0, by show (0 : Nat) ≠ 2; decide, rfl⟩)) J <| aA (bZ J) J <| Ua J J <| Wn <| aK <| post (n := 0) (.inr J) J ?_ (by first | (simp [-bG]; done) | simp)
 exact congrArg (fun z => LV.v (.bool z)) (any_not p ns)
theorem lU (k : Nat) (ns : List NM) (hI : IV ns) (ln : ns.length < 4611686018427387904) : Run Try.prog T E0 (.call 91 [.sl k (ns.map mc)] (.v (.bool (VV ns)))) := by
 refine bC Try.func91 J J (cW J) <| Rg 1 J <| Ua J J <| Wn <| Rg 8 J <| Um J J <| aA (aX J J) J <| aA (oLeq J J) J <| aW (fun h5 => ?_) (fun h5 => ?_)
 ·refine Um J J <| aJ J (cR J) J <| aJ J (aE J (all1_run k ns 118 [] vn (by simp) ln (fun a ha => nvalid_run a (hI a ha).1 (hI a ha).2)) (by first | (simp [-bG]; done) | simp)) J <| aA (cG J J) J <| Ua J J <| Wn <| aK <| post (n := 0) (.inr J) J ?_ (by first | (simp [-bG]; done) | simp)
  exact congrArg (fun z => LV.v (.bool z)) (show ns.all vn = VV ns by unfold VV; rw [decide_eq_true om, Bool.true_and])
 refine Um J J <| K1 J J <| K1 J J <| aA (cD J J) J <| Ua J J <| Wn <| aK <| post (n := 0) (.inr J) J ?_ (by first | (simp [-bG]; done) | simp)
 exact congrArg (fun z => LV.v (.bool z)) (show false = VV ns by unfold VV; rw [decide_eq_false om, Bool.false_and])
theorem vrow_run (r : M1) (k : Nat) (a : List M1) (hI : IV r.2) (hne : 0 < a.length) (ln : r.2.length < 4611686018427387904) : Run Try.prog T E0 (.call 162 [.sl r.1 (r.2.map mc), .ro [.sl k (a.map fM)]] (.v (.bool (VMr a r)))) := by
 refine bC Try.func162 J J (cW J) <| Rg 1 J <| Ua J J <| Wn <| Rg 12 J <| Um J J <| aA (aX J J) J <| aA (dQ (cs := [.sl k (a.map fM)]) J J J) J <| aA (bY (j := 0) J J J J om om J) J <| aA (dQ J J J) J <| aA (aX J J) J <| aA (fR J J) J <| aW (fun h10 => ?_) (fun h10 => ?_)
 ·refine Um J J <| aJ J (cR J) J <| aJ J (aE J (lU r.1 r.2 hI ln) (by first | (simp [-bG]; done) | simp)) J <| aA (cG J J) J <| Ua J J <| Wn <| aK <| post (n := 0) (.inr J) J ?_ (by first | (simp [-bG]; done) | simp)
  exact congrArg (fun z => LV.v (.bool z)) (show VV r.2 = VMr a r by unfold VMr; rw [decide_eq_true om, Bool.true_and])
 refine Um J J <| K1 J J <| K1 J J <| aA (cD J J) J <| Ua J J <| Wn <| aK <| post (n := 0) (.inr J) J ?_ (by first | (simp [-bG]; done) | simp)
 exact congrArg (fun z => LV.v (.bool z)) (show false = VMr a r by unfold VMr; rw [decide_eq_false om, Bool.false_and])
theorem bV (k : Nat) (a : List M1) (hI : IM a) (ln : a.length < 4611686018427387904) (lr : ∀ r, r ∈ a → r.2.length < 4611686018427387904) : Run Try.prog T E0 (.call 86 [.sl k (a.map fM)] (.v (.bool (VM a)))) := by
 refine bC Try.func86 J J (cW J) <| Rg 2 J <| bL (kE J J) J <| Ua J J <| Wn <| Rg 9 J <| aA (bF J J J J J) J <| aA (aX J J) J <| aA (oLeq J J) J <| aW (fun h5 => ?_) (fun h5 => ?_)
 ·refine Um J J <| aJ J (bF J J J J J) J <| aJ J (oMf J) J <| WO.Sg J (hH [.sl k (a.map fM), .fn (.func 162) [] [.ro [.sl k (a.map fM)]]] [(0, { cells := [.sl k (a.map fM)], sz := 1, elem := 59, st := 1 })] J (all2_run k a 162 [.ro [.sl k (a.map fM)]] (VMr a) (by simp [-bG]) ln (fun r hr => vrow_run r k a (hI r hr) (List.length_pos_of_mem hr) (lr r hr))) (.data (by simp [-bG]) (.fnp g0 (by show (0 : Nat) ≠ 2; decide) (by simp [keys]) (fun c hc => by have hc' := List.mem_singleton.1 hc; subst hc'; exact oV iM _ _) .nil)) (by intro q hq; rw [List.mem_singleton] at hq; subst hq; exact ⟨_, g0, by show (0 : Nat) ≠ 2; decide, rfl⟩)) J <| aA (cG J J) J <| Ua J J <| Wn <| aK <| post (n := 0) (.inr J) J ?_ (by first | (simp [-bG]; done) | simp)
  exact congrArg (fun z => LV.v (.bool z)) (show a.all (VMr a) = VM a by unfold VM; rw [decide_eq_true om, Bool.true_and])
 refine Um J J <| K1 J J <| K1 J J <| K1 J J <| aA (cD J J) J <| Ua J J <| Wn <| aK <| post (n := 0) (.inr J) J ?_ (by first | (simp [-bG]; done) | simp)
 exact congrArg (fun z => LV.v (.bool z)) (show false = VM a by unfold VM; rw [decide_eq_false om, Bool.false_and])
theorem cN (k : Nat) (a : List M1) : Run Try.prog T E0 (.call 87 [.sl k (a.map fM)] (.v (.int .i64 ((wd a : Nat) : Int)))) := by
 refine bC Try.func87 J J (cW J) <| Rg 1 J <| Ua J J <| Wn <| aC <| Rg 3 J <| Um J J <| aA (aX J J) J <| aA (fR J J) J <| aW (fun h5 => ?_) (fun h5 => ?_)
 ·refine Wn <| aV J <| aC <| Rg 1 J <| Ua J J <| Wn <| bM <| post (n := 0) (.inr J) J ?_ (by first | (simp [-bG]; done) | simp)
  exact congrArg (fun z => LV.v (.int .i64 ((z : Nat) : Int))) (show 0 = wd a by unfold wd; rw [if_pos om])
 refine Wn <| aR J <| aF <| Rg 5 J <| Um J J <| aA (bY (j := 0) J J J J om om J) J <| aA (dQ J J J) J <| aA (aX J J) J <| Ua J J <| Wn <| aK <| post (n := 0) (.inr J) J ?_ (by first | (simp [-bG]; done) | simp)
 exact congrArg (fun z => LV.v (.int .i64 ((z : Nat) : Int))) (show (a.getD 0 default).2.length = wd a by unfold wd; rw [if_neg om])
theorem fZ (k : Nat) (ns : List NM) (ln : ns.length < 1099511627776) (hI : IV ns) (h0 : ∀ a, a ∈ ns → a.2 ≠ 0) : Run Try.prog T E0 (.call 62 [.sl k (ns.map mc)] (.sl (kd (ns.map nx).length) ((ns.map nx).map xc))) := by
 refine bC Try.func62 J J (cW J) <| Rg 1 J <| Ua J J <| Wn <| Rg 1 J <| Ua J J <| Wn <| aC <| Rg 3 J <| Um J J <| aA (aX J J) J <| Um J J <| Wn <| aG <| aY (α := Nat × Nat × (List X)) (fun ⟨i, q, ds⟩ => [(3, outV q 4 (ds.map xc)), (6, .sl k (ns.map mc)), (7, .v (.int .i64 (ns.length : Int))), (8, .v (.int .i64 (i : Int)))]) (fun ⟨i, q, ds⟩ => outH q 4 114 (ds.map xc) []) (fun ⟨i, q, ds⟩ n => i ≤ ns.length ∧ ds = (ns.take i).map nx ∧ ds.length = i ∧ q < n) (fun ⟨i, q, ds⟩ => ns.length - i) (0, 0, []) ⟨J, J, J, J, trivial⟩ trivial ⟨Nat.zero_le _, by simp, rfl, om⟩ ?_
 rintro ⟨i, q, ds⟩ n hF
 change WC _ _ _ _ _ (_ :: _) (outH _ _ _ _ _) n _
 obtain ⟨hi, hds, hdl, hq⟩ := hF
 refine Rg 1 J <| aA (bS J J) J <| aW (fun h9 => ?_) (fun h9 => ?_)
 rotate_left
 ·refine Wn <| aR J <| aT <| aP <| aN J <| Rg 2 J <| Um J J <| Ua J J <| Wn <| aK ?_
  rw [List.take_of_length_le om] at hds
  rw [← hds, ← fB]
  exact mN (n := 0) (.inr J) J (by decide) (bK (n := 4) (fun _ => rfl)) (aU rD)
 refine Wn <| aV J <| aF <| aG <| Rg 4 J <| aA (bY J J J J J om J) J <| aA (dQ (l := .agg [_, _]) J J J) J <| bL (gM J) J <| bB (dH (cs' := [_, _]) J J J g0 J J J J) <| cM ?_
 have hm := bD (us := ns) (i := i) om
 refine aI (z := 6) J <| Um J J <| aA (bF (l := .agg [_, _]) J J g0 J J) J <| aA (aE J (nrat_run (ns.getD i default) (hI _ hm).1 (hI _ hm).2 (h0 _ hm)) (by first | (simp [-bG]; done) | simp)) J <| aA (dJ (cs := [_, _, _, _]) (rows := [[_, _, _, _]]) J J (by decide) J J J) J <| jS (outH q 4 114 ((ds).map xc) []) (Hp.le_skip (dA om J) (Hp.le_skip (dA om J) (Hp.le_refl _))) <| fJ (te := ti114) (f := xc) (q := q) (us := ds) (u := (nx (ns.getD i default))) J J J J J (fun _ => rfl) (by decide) (by show (2 * (ds.length + 1) + 256) * 64 ≤ _; omega) om J J J <| Ua J J <| Wn <| aD <| aI (z := 2) J <| aA (cI (((i + 1 : Nat) : Int)) (aQ J J om) om) J <| Um J J <| Wn <| aH <| ⟨⟨i + 1, _, ds ++ [nx (ns.getD i default)]⟩, ⟨J, J, J, J, trivial⟩, dT, ⟨om, by rw [dX om, hds], by simp; omega, om⟩, by show ns.length - (i + 1) < ns.length - i; omega⟩
theorem cE (k : Nat) (ns : List M1) (ln : ns.length < 1099511627776) (hI : IM ns) (h0 : ∀ r, r ∈ ns → ∀ a, a ∈ r.2 → a.2 ≠ 0) (lr : ∀ r, r ∈ ns → r.2.length < 1099511627776) : Run Try.prog T E0 (.call 90 [.sl k (ns.map fM)] (.sl (kd (ns.map nxr).length) ((ns.map nxr).map fX))) := by
 refine bC Try.func90 J J (cW J) <| Rg 1 J <| Ua J J <| Wn <| Rg 1 J <| Ua J J <| Wn <| aC <| Rg 3 J <| Um J J <| aA (aX J J) J <| Um J J <| Wn <| aG <| aY (α := Nat × Nat × (List X1)) (fun ⟨i, q, ds⟩ => [(3, outV q 1 (ds.map fX)), (6, .sl k (ns.map fM)), (7, .v (.int .i64 (ns.length : Int))), (8, .v (.int .i64 (i : Int)))]) (fun ⟨i, q, ds⟩ => outH q 1 108 (ds.map fX) []) (fun ⟨i, q, ds⟩ n => i ≤ ns.length ∧ ds = (ns.take i).map nxr ∧ ds.length = i ∧ q < n) (fun ⟨i, q, ds⟩ => ns.length - i) (0, 0, []) ⟨J, J, J, J, trivial⟩ trivial ⟨Nat.zero_le _, by simp, rfl, om⟩ ?_
 rintro ⟨i, q, ds⟩ n hF
 change WC _ _ _ _ _ (_ :: _) (outH _ _ _ _ _) n _
 obtain ⟨hi, hds, hdl, hq⟩ := hF
 refine Rg 1 J <| aA (bS J J) J <| aW (fun h9 => ?_) (fun h9 => ?_)
 rotate_left
 ·refine Wn <| aR J <| aT <| aP <| aN J <| Rg 2 J <| Um J J <| Ua J J <| Wn <| aK ?_
  rw [List.take_of_length_le om] at hds
  rw [← hds, ← fB]
  exact mN (n := 0) (.inr J) J (by decide) (bK (n := 1) (fun _ => rfl)) (aU dfX)
 refine Wn <| aV J <| aF <| aG <| Rg 3 J <| aA (bY J J J J J om J) J <| aA (dQ J J J) J <| Ua J J <| cM ?_
 have hm := bD (us := ns) (i := i) om
 refine aI (z := 6) J <| Um J J <| Um J J <| aA (aE J (fZ (ns.getD i default).1 (ns.getD i default).2 (lr _ hm) (hI _ hm) (h0 _ hm)) (by first | (simp [-bG]; done) | simp)) J <| aA (dJ (cs := [_]) (rows := [[_]]) J J (by decide) J J J) J <| fJ (te := ti108) (f := fX) (q := q) (us := ds) (u := (nxr (ns.getD i default))) J J J J J (fun _ => rfl) (by decide) (by show (2 * (ds.length + 1) + 256) * 24 ≤ _; omega) om J J J <| Ua J J <| Wn <| aD <| aI (z := 2) J <| aA (cI (((i + 1 : Nat) : Int)) (aQ J J om) om) J <| Um J J <| Wn <| aH <| ⟨⟨i + 1, _, ds ++ [nxr (ns.getD i default)]⟩, ⟨J, J, J, J, trivial⟩, dT, ⟨om, by rw [dX om, hds], by simp; omega, om⟩, by show ns.length - (i + 1) < ns.length - i; omega⟩
theorem iS (k : Nat) (ns : List X) (ln : ns.length < 1099511627776)  : Run Try.prog T E0 (.call 93 [.sl k (ns.map xc)] (lvOV (ns.mapM (fun x => outN x.1)))) := by
 refine bC Try.func93 J J (cW J) <| Rg 2 J <| Ua J J <| Ua J J <| Wn <| Rg 1 J <| Ua J J <| Wn <| aC <| Rg 3 J <| Um J J <| aA (aX J J) J <| Um J J <| Wn <| aG <| aY (α := Nat × Nat × (List NM)) (fun ⟨i, q, ds⟩ => [(4, outV q 2 (ds.map mc)), (9, .sl k (ns.map xc)), (10, .v (.int .i64 (ns.length : Int))), (11, .v (.int .i64 (i : Int)))]) (fun ⟨i, q, ds⟩ => outH q 2 28 (ds.map mc) []) (fun ⟨i, q, ds⟩ n => i ≤ ns.length ∧ (ns.take i).mapM (fun x => outN x.1) = some ds ∧ ds.length = i ∧ q < n) (fun ⟨i, q, ds⟩ => ns.length - i) (0, 0, []) ⟨J, J, J, J, trivial⟩ trivial ⟨Nat.zero_le _, by simp, rfl, om⟩ ?_
 rintro ⟨i, q, ds⟩ n hF
 change WC _ _ _ _ _ (_ :: _) (outH _ _ _ _ _) n _
 obtain ⟨hi, hds, hdl, hq⟩ := hF
 refine Rg 1 J <| aA (bS J J) J <| aW (fun h12 => ?_) (fun h12 => ?_)
 rotate_left
 ·refine Wn <| aR J <| aT <| aP <| aN J <| Rg 3 J <| Um J J <| Ua J J <| Ua J J <| Wn <| aK ?_
  rw [List.take_of_length_le om] at hds
  rw [hds]
  exact postOutT (n := 0) (.inr J) J (by decide) (bK (n := 2) (fun _ => rfl)) (aU pU) (by simp [lvOV, fB])
 refine Wn <| aV J <| aF <| aG <| Rg 4 J <| aA (bY J J J J J om J) J <| aA (dQ (l := .agg [_, _, _, _]) J J J) J <| bL (gM J) J <| bB (dH (cs' := [_, _, _, _]) J J J g0 J J J J) <| Wn <| Rg 8 J <| aA (bF (l := .agg [_, _, _, _]) J J g0 J J) J <| aA (aS (b := .tup [lvM ((outN (ns.getD i default).1).getD (0, 0)), .v (.int .i64 (if (outN (ns.getD i default).1).isSome = true then 0 else 3))]) (aE J (kD (ns.getD i default)) (by first | (simp [-bG]; done) | simp)) (by rw [lvO_eq])) J <| Um J J <| aA (bU J J) J <| aA (bU J J) J <| bL (gM J) J <| bB (dH (cs' := [_, _]) J J J g0 J J J J) <| Ua J J <| Nk [4,7,8,9,10,11] J <| aC <| Rg 2 J <| Um J J ?_
 refine aA (eG J J) J <| aW (fun h21 => ?_) (fun h21 => ?_)
 ·refine Wn <| aV J <| aC ?_
  have hno2 : outN (ns.getD i default).1 = none := by
   cases ho : outN (ns.getD i default).1 with
   | none => rfl
   | some _ => rw [ho] at h21; exact absurd rfl h21
  have hno : ns.mapM (fun x => outN x.1) = none := pF (i := i) om hno2
  refine Rg 3 J <| Um J J <| Ua J J <| Ua J J <| Wn <| bM <| aO <| cZ <| aO <| post (n := 0) (.inr J) J ?_ (by first | (simp [-bG]; done) | simp)
  first | (rw [hno]; rfl) | (rw [hno, hno2]; rfl)
 refine Wn <| aR J <| aF ?_
 obtain ⟨o, ho⟩ : ∃ o, outN (ns.getD i default).1 = some o := by
  cases ho : outN (ns.getD i default).1 with
  | none => rw [ho] at h21; exact absurd (by decide) h21
  | some o => exact ⟨o, rfl⟩
 refine aI (z := 5) J <| Um J J <| aA (aS (b := lvM o) (bF (l := .agg [_, _]) J J g0 J J) (by simp only [ho, Option.getD_some]; rfl)) J <| aA (dJ (cs := [_, _]) (rows := [[_, _]]) J J (by decide) J J J) J <| jS (outH q 2 28 ((ds).map mc) []) (Hp.le_skip (dA om J) (Hp.le_skip (dA om J) (Hp.le_skip (dA om J) (Hp.le_skip (dA om J) (Hp.le_refl _))))) <| fJ (te := ti28) (f := mc) (q := q) (us := ds) (u := o) J J J J J (fun _ => rfl) (by decide) (by show (2 * (ds.length + 1) + 256) * 16 ≤ _; omega) om J J J <| Ua J J <| Wn <| aD <| aI (z := 2) J <| aA (cI (((i + 1 : Nat) : Int)) (aQ J J om) om) J <| Um J J <| Wn <| aH <| ⟨⟨i + 1, _, ds ++ [o]⟩, ⟨J, J, J, J, trivial⟩, dT, ⟨om, kU hds om ho, by simp; omega, om⟩, by show ns.length - (i + 1) < ns.length - i; omega⟩
theorem gT (k : Nat) (ns : List X1) (ln : ns.length < 1099511627776) (lr : ∀ r, r ∈ ns → r.2.length < 1099511627776) : Run Try.prog T E0 (.call 88 [.sl k (ns.map fX)] (lvOM (ns.mapM (fun r => r.2.mapM fun x => outN x.1)))) := by
 refine bC Try.func88 J J (cW J) <| Rg 2 J <| Ua J J <| Ua J J <| Wn <| Rg 1 J <| Ua J J <| Wn <| aC <| Rg 3 J <| Um J J <| aA (aX J J) J <| Um J J <| Wn <| aG <| aY (α := Nat × Nat × (List M1) × (List (List NM))) (fun ⟨i, q, ds, es⟩ => [(4, outV q 1 (ds.map fM)), (9, .sl k (ns.map fX)), (10, .v (.int .i64 (ns.length : Int))), (11, .v (.int .i64 (i : Int)))]) (fun ⟨i, q, ds, es⟩ => outH q 1 41 (ds.map fM) []) (fun ⟨i, q, ds, es⟩ n => i ≤ ns.length ∧ (ns.take i).mapM (fun r => r.2.mapM fun x => outN x.1) = some es ∧ ds.length = i ∧ q < n ∧ ds = es.map kM) (fun ⟨i, q, ds, es⟩ => ns.length - i) (0, 0, [], []) ⟨J, J, J, J, trivial⟩ trivial ⟨Nat.zero_le _, by simp, rfl, om, rfl⟩ ?_
 rintro ⟨i, q, ds, es⟩ n hF
 change WC _ _ _ _ _ (_ :: _) (outH _ _ _ _ _) n _
 obtain ⟨hi, hds, hdl, hq, hek⟩ := hF
 refine Rg 1 J <| aA (bS J J) J <| aW (fun h12 => ?_) (fun h12 => ?_)
 rotate_left
 ·refine Wn <| aR J <| aT <| aP <| aN J <| Rg 3 J <| Um J J <| Ua J J <| Ua J J <| Wn <| aK ?_
  rw [List.take_of_length_le om] at hds
  rw [hds]
  exact postOutT (n := 0) (.inr J) J (by decide) (bK (n := 1) (fun _ => rfl)) (aU iM) (by subst hek; simp [lvOM, fB])
 refine Wn <| aV J <| aF <| aG <| Rg 3 J <| aA (bY J J J J J om J) J <| aA (dQ J J J) J <| Ua J J <| cM ?_
 have hm := bD (us := ns) (i := i) om
 refine Rg 7 J <| Um J J <| aA (aE J (iS (ns.getD i default).1 (ns.getD i default).2 (lr _ hm)) (by first | (simp [-bG]; done) | simp)) J <| Um J J <| aA (bU J J) J <| aA (bU J J) J <| Ua J J <| Ua J J <| Nk [4,7,8,9,10,11] J <| aC <| Rg 2 J <| Um J J <| aA (eG J J) J <| aW (fun h21 => ?_) (fun h21 => ?_)
 ·refine Wn <| aV J <| aC ?_
  have hno2 : ((ns.getD i default).2.mapM fun x => outN x.1) = none := by
   cases ho : ((ns.getD i default).2.mapM fun x => outN x.1) with
   | none => rfl
   | some _ => rw [ho] at h21; exact absurd rfl h21
  have hno : ns.mapM (fun r => r.2.mapM fun x => outN x.1) = none := pF (i := i) om hno2
  refine Rg 3 J <| Um J J <| Ua J J <| Ua J J <| Wn <| bM <| aO <| cZ <| aO <| post (n := 0) (.inr J) J ?_ (by first | (simp [-bG]; done) | simp)
  first | (rw [hno]; rfl) | (rw [hno, hno2]; rfl)
 refine Wn <| aR J <| aF ?_
 obtain ⟨o, ho⟩ : ∃ o, ((ns.getD i default).2.mapM fun x => outN x.1) = some o := by
  cases ho : ((ns.getD i default).2.mapM fun x => outN x.1) with
  | none => rw [ho] at h21; exact absurd (by decide) h21
  | some o => exact ⟨o, rfl⟩
 refine aI (z := 5) J <| Um J J <| aA (aS (b := .sl (kd o.length) (o.map mc)) (cR J) (by simp only [ho, Option.getD_some])) J <| aA (dJ (cs := [_]) (rows := [[_]]) J J (by decide) J J J) J <| fJ (te := ti41) (f := fM) (q := q) (us := ds) (u := (kM o)) J J J J J (fun _ => rfl) (by decide) (by show (2 * (ds.length + 1) + 256) * 24 ≤ _; omega) om J J J <| Ua J J <| Wn <| aD <| aI (z := 2) J <| aA (cI (((i + 1 : Nat) : Int)) (aQ J J om) om) J <| Um J J <| Wn <| aH <| ⟨⟨i + 1, _, ds ++ [kM o], es ++ [o]⟩, ⟨J, J, J, J, trivial⟩, dT, ⟨om, kU hds om ho, by simp; omega, om, by rw [hek, List.map_append]; rfl⟩, by show ns.length - (i + 1) < ns.length - i; omega⟩
end Go.Proofs.Ytcblgjaomljikaa
set_option maxHeartbeats 8000000
namespace Go.Proofs.Ytcblgjaomljikaa
open Go.Ab Go.RowKit
theorem lN (ka kb : Nat) (al bl : List X) (c : X) (ln : al.length < 1099511627776) (hl : al.length ≤ bl.length) (ha : ∀ x, x ∈ al → Bd 34359738368 x.1) (hb : ∀ x, x ∈ bl → Bd 34359738368 x.1) (hc : Bd 34359738368 c.1) : ∃ r, Run Try.prog T E0 (.call 169 [.sl ka (al.map xc), lvX c, .sl kb (bl.map xc)] r) ∧ ∃ ds : List X, r = .sl 1 (ds.map xc) ∧ ds.map (·.1) = rad (al.map (·.1)) (rsc c.1 (bl.map (·.1))) := by
 refine fO Try.func169 J J (cW J) <| Rg 2 J <| bL (kE J J) J <| Ua J J <| Wn <| Rg 4 J <| Um J J <| aA (aX J J) J <| bL (oMk (a := al.length) (b := al.length) J J J J om om (by decide) om (by show 64 * al.length ≤ _; omega) om) J <| Ua J J <| Wn <| aC <| Rg 3 J <| Um J J <| aA (aX J J) J <| Um J J <| Wn <| aG <| aY (α := Nat × (List X)) (fun ⟨i, us⟩ => [(0, .sl ka (al.map xc)), (2, .sl kb (bl.map xc)), (4, .ptr (0 + 0) 0), (7, .ref (0 + 2 + 2) 4 0 us.length), (13, .v (.int .i64 (al.length : Int))), (14, .v (.int .i64 (i : Int)))]) (fun ⟨i, us⟩ => [(0 + 2 + 2, { cells := (us.map xc).flatten, sz := 4, elem := 114, st := 0 }), (0, { cells := xc c, sz := 4, elem := 114, st := 0 })]) (fun ⟨i, us⟩ n => i ≤ al.length ∧ us.length = al.length ∧ (∀ j, j < i → (us.getD j default).1 = (al.getD j default).1 + c.1 * (bl.getD j default).1)) (fun ⟨i, us⟩ => al.length - i) (0, List.replicate al.length x0) ⟨rfl, rfl, rfl, congrArg some (by rw [List.length_replicate]; rfl), rfl, rfl, trivial⟩ ⟨g0.trans (by rw [List.map_replicate]; rfl), g1 (by decide) g0, trivial⟩ ⟨Nat.zero_le _, by simp, by intro j hj; omega⟩ ?_
 rintro ⟨i, us⟩ n hF
 change WC _ _ _ _ _ (_ :: _) (_ :: _) n _
 obtain ⟨hi, hul, hus⟩ := hF
 refine Rg 1 J <| aA (bS J J) J <| aW (fun h15 => ?_) (fun h15 => ?_)
 rotate_left
 ·refine Wn <| aR J <| aT <| aP <| aN J <| Rg 2 J <| Um J J <| Ua J J <| Wn <| aK <| ⟨.sl 1 (us.map xc), ⟨us, rfl, ?_⟩, mO (n := 0) _ (.inr J) J (by simp) g0 (by show (0 : Nat) ≠ 2; decide) J (by decide) J (bK (n := 4) (fun _ => rfl)) (aU rD)⟩
  refine list_eq (by rw [kZ]; simp; omega) fun j hj => ?_
  simp only [List.length_map] at hj
  rw [dO rfl, mQ (by simp; omega), mT, dO rfl, dO rfl]
  exact hus j om
 refine Wn <| aV J <| aF <| aG <| Rg 2 J <| Um J J <| Ua J J <| cM ?_
 have hma := bD (us := al) (i := i) om
 have hmb := bD (us := bl) (i := i) om
 refine Rg 8 J <| Um J J <| Um J J <| Um J J <| Um J J <| aA (bY J J J J J om J) J <| aA (dQ (l := .agg [_, _, _, _]) J J J) J <| aA (cC J J J J J om J) J <| bB (eA (f := xc) (us := us) (al.getD i default) J J J g0 (fun _ => rfl) J J om J) <| Nk [0,2,4,7,8,13,14] J <| Rg 6 J <| Um J J <| Um J J <| aA (bY J J J J J om J) J <| aA (dQ (l := .agg [_, _, _, _]) J J J) J <| aA (aE J (gA (bl.getD i default)) (by first | (simp [-bG]; done) | simp)) J <| aA (eG J J) J <| aW (fun h29 => ?_) (fun h29 => ?_)
 rotate_left
 ·refine Wn <| bH J <| bJ <| aD <| aI (z := 2) J <| aA (cI (((i + 1 : Nat) : Int)) (aQ J J om) om) J <| Um J J <| Wn <| aH <| ⟨⟨i + 1, us.set i (al.getD i default)⟩, ⟨rfl, rfl, rfl, congrArg some (by rw [List.length_set]), rfl, rfl, trivial⟩, ⟨g0, g1 (by decide) (g1 (by decide) g0), trivial⟩, ⟨om, by rw [List.length_set]; exact hul, ?_⟩, by show al.length - (i + 1) < al.length - i; omega⟩
  intro j hj
  rw [bP om]
  by_cases e : i = j
  ·subst e; rw [if_pos rfl, eM.1 (show (bl.getD i default).1.num.sign = 0 by omega), Rat.mul_zero, Rat.add_zero]
  ·rw [if_neg e]; exact hus j om
 refine Wn <| bI J <| dR (z := 15) J kR <| Dm J J <| Dm J J <| Dm J J <| Dm J J <| aL (bY J J J J J om J) J <| aL (dQ (l := .agg [_, _, _, _]) J J J) J <| aL (bF (l := .agg [_, _, _, _]) J J (g1 (by decide) (g1 (by decide) g0)) J J) J <| Dm J J <| Dm J J <| aL (bY J J J J J om J) J <| aL (dQ (l := .agg [_, _, _, _]) J J J) J <| aL (aE J (mR c (bl.getD i default) (hc.mono om) ((hb _ hmb).mono om)) (by first | (simp [-bG]; done) | simp)) J <| aL (aE J (radd_run (al.getD i default) (xmul c (bl.getD i default)) ((ha _ hma).mono om) ((hc.mul (hb _ hmb)).mono om)) (by first | (simp [-bG]; done) | simp)) J <| aL (cC J J J J J om J) J <| dP (eA (f := xc) (us := us.set i (al.getD i default)) (xadd (al.getD i default) (xmul c (bl.getD i default))) J J J g0 (fun _ => rfl) J J (by rw [List.length_set]; omega) J) <| bT (bE kR) J <| aD <| Ck [0,2,4,7,13,14] J <| aI (z := 2) J <| aA (cI (((i + 1 : Nat) : Int)) (aQ J J om) om) J <| Um J J ?_
 refine Wn <| aH <| ⟨⟨i + 1, ((us.set i (al.getD i default)).set i (xadd (al.getD i default) (xmul c (bl.getD i default))))⟩, ⟨rfl, rfl, rfl, congrArg some (by rw [List.length_set, List.length_set]), rfl, rfl, trivial⟩, ⟨g0, g1 (by decide) (g1 (by decide) (g1 (by decide) g0)), trivial⟩, ⟨om, by rw [List.length_set, List.length_set]; exact hul, ?_⟩, by show al.length - (i + 1) < al.length - i; omega⟩
 intro j hj
 rw [set_set', bP om]
 by_cases e : i = j
 ·subst e; rw [if_pos rfl]; rfl
 ·rw [if_neg e]; exact hus j om
theorem oO (ka : Nat) (al : List X) (c : X) (ln : al.length < 1099511627776) (ha : ∀ x, x ∈ al → Bd 34359738368 x.1) (hc : Bd 34359738368 c.1) : ∃ r, Run Try.prog T E0 (.call 168 [.sl ka (al.map xc), lvX c] r) ∧ ∃ ds : List X, r = .sl 1 (ds.map xc) ∧ ds.map (·.1) = rsc c.1 (al.map (·.1)) := by
 obtain ⟨r, hr, ds, rfl, hds⟩ := lN 1 ka (List.replicate al.length x0) al c (by simp; omega) (by simp) (by intro x hx; rw [(List.mem_replicate.1 hx).2]; exact Bd0 (by decide)) ha hc
 have hv : ds.map (·.1) = rsc c.1 (al.map (·.1)) := by
  rw [hds]
  refine list_eq (by rw [kZ, rsc_len]; simp) fun j hj => ?_
  rw [kZ] at hj
  rw [mQ hj]
  have : ((List.replicate al.length x0).map (·.1)).getD j default = 0 := by
   rw [dO rfl]
   simp only [List.getD_eq_getElem?_getD, List.getElem?_replicate]
   split <;> rfl
  rw [this, Rat.zero_add]
 refine fO Try.func168 J J (cW J) <| Rg 2 J <| bL (kE J J) J <| Ua J J <| Wn <| cJ (z := 7) J kR <| Dm J J <| aL (aX J J) J <| WD.S (oMk (a := al.length) (b := al.length) J J J J om om (by decide) om (by show 64 * al.length ≤ _; omega) om) J <| aL (bF (l := .agg [_, _, _, _]) J J (g1 (by decide) g0) J J) J <| Dm J J <| WD.S (hH [.sl 1 ((List.replicate al.length x0).map xc), lvX c, .sl ka (al.map xc)] [(0 + 2 + 2, { cells := ((List.replicate al.length x0).map xc).flatten, sz := 4, elem := 114, st := 1 })] J hr (.own (ob := { cells := ((List.replicate al.length x0).map xc).flatten, sz := 4, elem := 114, st := 0 }) _ (by simp) (g0.trans (by rw [List.map_replicate]; rfl)) (by show (0 : Nat) ≠ 2; decide) J (by decide) (by simp [keys]) J (bK (n := 4) (fun _ => rfl)) (aU rD) (.data (by simp) (.data (by simp [-bG]) .nil))) (by intro p hp; rw [List.mem_singleton] at hp; subst hp; exact ⟨{ cells := ((List.replicate al.length x0).map xc).flatten, sz := 4, elem := 114, st := 0 }, g0.trans (by rw [List.map_replicate]; rfl), by show (0 : Nat) ≠ 2; decide, rfl⟩)) J <| aL (fV J) J <| bT (bE kR) J <| aK ?_
 exact ⟨_, ⟨ds, rfl, hv⟩, post (n := 0) (.inr J) J J (by first | (simp [-bG]; done) | simp)⟩
theorem clone_own (rows : List X1) (hne : 0 < rows.length) (ln : rows.length < 1099511627776) : ∃ sz len ob, Run Try.prog T E0 (.callO 167 [.sl 1 (rows.map fX)] (.ref 0 sz 0 len) ob) ∧ sz = 1 ∧ len = rows.length ∧ ob = { cells := (rows.map fX).flatten, sz := 1, elem := 108, st := 0 } := by
 refine mkcallO Try.func167 J J (cW J) <| Rg 1 J <| Ua J J <| Wn <| aC <| Rg 2 J <| Um J J <| aA (aS (b := .v (.bool false)) (kG J J) J) J <| Wn <| aR J <| aF <| Rg 4 J <| aA (dJ (cs := []) (rows := []) J J (by decide) J J J) J <| Um J J <| bL (oApS (xs := []) (rows := rows.map fX) J J J J J (by decide) (by simp) (bK (f := fX) (n := 1) (fun _ => rfl)) (by simpa using hne) (by rw [List.length_map]; show (2 * (0 + rows.length) + 256) * 24 ≤ _; omega) (by rw [List.length_map]; show 0 + rows.length < _; omega)) J <| Ua J J <| Wn <| aK <| ⟨1, rows.length, { cells := (rows.map fX).flatten, sz := 1, elem := 108, st := 0 }, ⟨rfl, rfl, rfl⟩, .inr J, _, congrArg some (congrArg (fun z => [LV.ref _ 1 0 z]) (show ([] : List (List LV)).length + (rows.map fX).length = rows.length by simp)), g0, rfl, rfl, ?_⟩
 intro c hc; obtain ⟨row, hr, hc⟩ := List.mem_flatten.1 hc; exact aU dfX row hr c hc
theorem clone_nil  : Run Try.prog T E0 (.call 167 [.sl 0 []] (.sl 0 [])) := by
 refine bC Try.func167 J J (cW J) <| Rg 1 J <| Ua J J <| Wn <| aC <| Rg 2 J <| Um J J <| aA (kG J J) J <| Wn <| aV J <| aC <| Rg 1 J <| Ua J J <| Wn <| bM ?_
 exact post (n := 0) (.inr J) J J (by simp)
end Go.Proofs.Ytcblgjaomljikaa
set_option maxHeartbeats 16000000
namespace Go.Proofs.Ytcblgjaomljikaa
open Go.Ab Go.RowKit
theorem oN (rows0 : List X1) (cols w : Nat) (hne : 0 < rows0.length) (ln : rows0.length < 1000000) (hw : Wid w (vX rows0)) (hcw : cols ≤ w) (hc10 : cols ≤ 10) (lw : w < 1000000) (hb : BdL 2 (vX rows0)) : WC Try.prog T E0 Try.f97.ntmps (codeOf Try.f97) (argsEnv 0 [.sl 1 (rows0.map fX), .v (.int .i64 (cols : Int))]) [] 0 (fun x e h n => (x = .normal ∨ x = .ret) ∧ ∃ (q : Nat) (rows : List X1) (d : X), vX rows = (gjn (vX rows0) cols).1 ∧ d.1 = gjd (vX rows0) cols ∧ resE e T h Try.f97.results.toList = some [.ref 4 1 0 rows.length, outV q 1 ((gjn (vX rows0) cols).2.map d64), lvX d] ∧ getH h 4 = some { cells := (rows.map fX).flatten, sz := 1, elem := 108, st := 0 } ∧ ((gjn (vX rows0) cols).2.map d64 ≠ [] → getH h q = some { cells := ((gjn (vX rows0) cols).2.map d64).flatten, sz := 1, elem := 3, st := 0 })) := by
 obtain ⟨_, _, _, hr1, rfl, rfl, rfl⟩ := clone_own rows0 hne om
 refine Rg 3 J <| Ua J J <| Ua J J <| bL (gM J) J <| Wn <| Rg 3 J <| Um J J <| bL (qL J hr1 (by first | (simp [-bG]; done) | simp)) J <| Ua J J <| Wn <| Rg 3 J <| aA (aE J (iX 1 (by unfold I64; omega)) (by first | (simp [-bG]; done) | simp)) J <| bL (gM J) J <| bB (dH (cs' := [_, _, _, _]) J J J J J J J J) <| Wn <| Rg 1 J <| Ua J J <| Wn <| aC <| Rg 2 J <| Um J J <| Um J J <| Wn <| aG ?_
 refine aY (α := Nat × Nat × (List X1) × (List Nat) × X) (fun ⟨c, q, rows, leads, d⟩ => [(6, .ptr (0 + (0 + 1 + 1)) 0), (7, .ref (0 + 3 + 1) 1 0 rows.length), (8, .ptr (0 + 3 + 3 + 1) 0), (9, outV q 1 (leads.map d64)), (18, .v (.int .i64 (cols : Int))), (19, .v (.int .i64 (c : Int)))]) (fun ⟨c, q, rows, leads, d⟩ => outH q 1 3 (leads.map d64) [((0 + 3 + 1), { cells := (rows.map fX).flatten, sz := 1, elem := 108, st := 0 }), ((0 + 3 + 3 + 1), { cells := xc d, sz := 4, elem := 114, st := 0 }), (2, { cells := [.v (.int .i64 0), .sl 0 [], .v (.int .i64 0), .sl 0 []], sz := 4, elem := 114, st := 0 })]) (fun ⟨c, q, rows, leads, d⟩ n => c ≤ cols ∧ vX rows = (gjn (vX rows0) c).1 ∧ leads = (gjn (vX rows0) c).2 ∧ 8 ≤ q ∧ q < n ∧ d.1 = gjd (vX rows0) c ∧ Bd (bd c) d.1) (fun ⟨c, q, rows, leads, d⟩ => cols - c) (0, 8, rows0, [], xint 1) ⟨J, J, J, J, J, J, trivial⟩ ⟨J, J, J, trivial⟩ ⟨Nat.zero_le _, rfl, rfl, om, om, rfl, Bd1.mono (by unfold bd; omega)⟩ ?_
 rintro ⟨c, q, rows, leads, d⟩ n hF
 change WC _ _ _ _ _ (_ :: _) (outH _ _ _ _ _) n _
 obtain ⟨hc, hv, hld, hq5, hqn, hdv, hdb⟩ := hF
 have GI := GInv.all hb hw c
 have hrl0 : rows.length = rows0.length := by rw [← bQ rows, hv, cP, bQ]
 have hll : leads.length ≤ rows.length := by have := GI.led; rw [bQ] at this; rw [hld]; omega
 have hwid : ∀ i, i < rows.length → (rows.getD i default).2.length = w := by
  intro i hi
  have := GI.wid.row (i := i) (by rw [← hv, bQ]; exact hi)
  rw [← hv, cY] at this
  simpa using this
 refine Rg 1 J <| aA (bS J J) J <| aW (fun h20 => ?_) (fun h20 => ?_)
 rotate_left
 ·refine Wn <| aR J <| aT <| aP <| aN J <| cJ (z := 6) J kR <| Dm J J <| Dm J J <| aL (bF (l := .agg [_, _, _, _]) J J (aM om (g1 (by decide) g0)) J J) J <| aL (fV J) J <| aL (fV J) J <| dP (dH (cs' := [_, _, _, _]) J J J (aM om (g1 (by decide) (g1 (by decide) g0))) J J J J) <| bT (bE kR) J <| aK ?_
  have hcc : c = cols := by omega
  subst hcc
  refine ⟨.inr J, q, rows, d, hv, hdv, ?_, g1 (by decide) (aM om g0), ?_⟩
  ·rw [← hld]; rfl
  ·rw [← hld]; exact fun hu => g1 om (cU hu)
 refine Wn <| aV J <| aF <| aG <| Rg 2 J <| Um J J <| Ua J J <| Wn <| Rg 3 J <| Um J J <| aA (oLenO J J) J <| Ua J J <| Wn <| Rg 2 J <| Um J J <| Ua J J <| Wn <| aG <| aY (α := Nat) (fun a => [(6, .ptr (0 + (0 + 1 + 1)) 0), (7, .ref (0 + 3 + 1) 1 0 rows.length), (8, .ptr (0 + 3 + 3 + 1) 0), (9, outV q 1 (leads.map d64)), (10, .v (.int .i64 (c : Int))), (11, .v (.int .i64 (leads.length : Int))), (12, .v (.int .i64 (a : Int))), (18, .v (.int .i64 (cols : Int))), (19, .v (.int .i64 (c : Int)))]) (fun a => outH q 1 3 (leads.map d64) [((0 + 3 + 1), { cells := (rows.map fX).flatten, sz := 1, elem := 108, st := 0 }), ((0 + 3 + 3 + 1), { cells := xc d, sz := 4, elem := 114, st := 0 }), (2, { cells := [.v (.int .i64 0), .sl 0 [], .v (.int .i64 0), .sl 0 []], sz := 4, elem := 114, st := 0 })]) (fun a n => leads.length ≤ a ∧ a ≤ rows.length ∧ (∀ k, leads.length ≤ k → k < a → ent (vX rows) k c = 0) ∧ q < n) (fun a => rows.length - a) (leads.length) ⟨J, J, J, J, J, J, J, J, J, trivial⟩ (dB cU (aM om g0) (aM om (g1 (by decide) g0)) (aM om (g1 (by decide) (g1 (by decide) g0)))) ⟨Nat.le_refl _, hll, by intro k h1 h2; omega, om⟩ ?_
 rintro a n hG
 change WC _ _ _ _ _ (_ :: _) (outH _ _ _ _ _) n _
 obtain ⟨hle1, hle2, hz, hqn2⟩ := hG
 refine aC <| Rg 15 J <| Um J J <| Um J J <| aA (kF J J) J <| aA (bS J J) J <| aW (fun h28 => ?_) (fun h28 => ?_)
 rotate_left
 ·refine Um J J <| K1 J J <| K1 J J <| K1 J J <| K1 J J <| K1 J J <| K1 J J <| K1 J J <| K1 J J <| K1 J J <| aA (cD J J) J <| Nk [6,7,8,9,10,11,12,18,19,30,31,32,33,34,35,36,37,38,39] J <| aR J <| aT <| aP <| aN J <| Ck [6,7,8,9,10,11,12,18,19,30,31,32,33,34,35,36,37,38] J <| aC <| Rg 4 J <| Um J J <| Um J J <| aA (kF J J) J <| aA (fR J J) J ?_
  refine aW (fun h45 => ?_) (fun h45 => ?_)
  rotate_left
  ·omega
  refine Nk [6,7,8,9,10,11,12,18,19,30,31,32,33,34,35,36,37,38,45] J <| aV J <| aT <| aN J <| Ck [6,7,8,9,18,19,30,31,32,33,34,35,36,37,38] J <| aI (z := 2) J <| aA (cI (((c + 1 : Nat) : Int)) (aQ J J om) om) J <| Um J J <| Wn <| aH ?_
  have hpv : pivot (vX rows) leads.length c = a := kH hle1 (by rw [bQ]; exact hle2) hz (.inl (by rw [bQ]; omega))
  have hpn : pivot (gjn (vX rows0) c).1 (gjn (vX rows0) c).2.length c = (gjn (vX rows0) c).1.length := by rw [← hv, ← hld, hpv, bQ]; omega
  refine ⟨⟨c + 1, q, rows, leads, d⟩, ⟨J, J, J, J, J, J, trivial⟩, (dB cU (aM om g0) (aM om (g1 (by decide) g0)) (aM om (g1 (by decide) (g1 (by decide) g0)))), ⟨om, by rw [nK hpn]; exact hv, by rw [nK hpn]; exact hld, om, om, by rw [gjd_no hpn]; exact hdv, hdb.mono (bd_le om)⟩, by show cols - (c + 1) < cols - c; omega⟩
 refine Um J J <| aJ J (cR J) J <| aJ J (cR J) J <| aJ J (cC (j := a) J J J J om om J) J <| aJ J (dZ (f := fX) (us := rows) (j := a) J J (aM om g0) (fun _ => rfl) J (by decide) om J) J <| aJ J (cR J) J <| aJ J (bY J J J J J (by have := hwid a om; omega) J) J <| aJ J (dQ (l := .agg [_, _, _, _]) J J J) J <| aJ J (aE J (gA ((rows.getD a default).2.getD c default)) (by first | (simp [-bG]; done) | simp)) J <| aJ J (fR J J) J <| aW (fun h38 => ?_) (fun h38 => ?_)
 ·have hez : ent (vX rows) a c = 0 := by rw [← gO]; exact eM.1 h38
  refine aA (cG J J) J <| Nk [6,7,8,9,10,11,12,18,19,30,31,32,33,34,35,36,37,38,39] J <| aV J <| aF <| eQ <| aI (z := 3) J <| Um J J <| aA (cI (((a + 1 : Nat) : Int)) (aQ J J om) om) J <| Ua J J <| Wn <| eX <| aH <| ⟨a + 1, ⟨J, J, J, J, J, J, J, J, J, trivial⟩, (dB cU (aM om g0) (aM om (g1 (by decide) g0)) (aM om (g1 (by decide) (g1 (by decide) g0)))), ⟨om, om, ?_, om⟩, by show rows.length - (a + 1) < rows.length - a; omega⟩
  intro k h1 h2
  by_cases e : k = a
  ·subst e; exact hez
  ·exact hz k h1 om
 have hen : ent (vX rows) a c ≠ 0 := by rw [← gO]; exact fun k => h38 (eM.2 k)
 refine aA (cG J J) J <| Nk [6,7,8,9,10,11,12,18,19,30,31,32,33,34,35,36,37,38,39] J <| aR J <| aT <| aP <| aN J <| Ck [6,7,8,9,10,11,12,18,19,30,31,32,33,34,35,36,37,38] J <| aC <| Rg 4 J <| Um J J <| Um J J <| aA (kF J J) J <| aA (fR J J) J <| aW (fun h45 => ?_) (fun h45 => ?_)
 ·omega
 refine Nk [6,7,8,9,10,11,12,18,19,30,31,32,33,34,35,36,37,38,45] J <| aR J <| aF <| aC ?_
 have hrl : leads.length < rows.length := by omega
 have hpv : pivot (vX rows) leads.length c = a := kH hle1 (by rw [bQ]; exact hle2) hz (.inr hen)
 rw [hv, hld] at hpv
 have hal : a < (gjn (vX rows0) c).1.length := by rw [← hv, bQ]; omega
 have hgy := pB hpv hal
 have hsp : ent (sw (vX rows) a leads.length) leads.length c ≠ 0 := by rw [jZ (by rw [bQ]; omega) (by rw [bQ]; omega)]; exact hen
 have hbv : BdL (bd c) (vX rows) := by rw [hv]; exact GI.bds
 have hbc : bd c ≤ 268435456 := bd_le (d := 9) om
 have hbp := bd_pos c
 obtain ⟨M, hM⟩ : ∃ M, M = mid (vX rows) a leads.length c := ⟨_, rfl⟩
 have hMl : M.length = rows.length := by rw [hM, mH, bQ]
 have hMb : BdL (2 * bd c + 1) M := by rw [hM]; exact hbv.mid om hsp
 have hMw : Wid w M := by rw [hM]; exact (show Wid w (vX rows) by rw [hv]; exact GI.wid).mid (by rw [bQ]; omega) (by rw [bQ]; omega) c
 refine Rg 3 J <| Um J J <| Um J J <| aA (eG J J) J <| aW (fun h48 => ?_) (fun h48 => ?_)
 rotate_left
 ·refine Nk [6,7,8,9,10,11,12,18,19,30,31,32,33,34,35,36,37,38,48] J <| aR J <| aF ?_
  obtain ⟨rows1, hr1⟩ : ∃ z, z = rows := ⟨_, rfl⟩
  obtain ⟨d1, hd1e⟩ : ∃ z, z = d := ⟨_, rfl⟩
  have hae : a = leads.length := by omega
  have hd1 : d1.1 = d.1 := by rw [hd1e]
  have hv1 : vX rows1 = sw (vX rows) a leads.length := by rw [hr1, hae, sw_same (by rw [bQ]; omega)]
  have hl1 : rows1.length = rows.length := by simp [hr1]
  have hp1 : ((rows1.getD leads.length default).2.getD c default).1 ≠ 0 := by rw [gO, hv1]; exact hsp
  have hb1 : BdL (bd c) (vX rows1) := by rw [hv1]; exact hbv.sw _ _
  have hbr : ∀ x, x ∈ (rows1.getD leads.length default).2 → Bd (bd c) x.1 := by
   intro x hx
   have := hb1.row leads.length
   rw [cY] at this
   exact this _ (List.mem_map.2 ⟨x, hx, rfl⟩)
  have hwr : (rows1.getD leads.length default).2.length = w := by
   have := ((show Wid w (vX rows) by rw [hv]; exact GI.wid).sw (i := a) (r := leads.length) (by rw [bQ]; omega) (by rw [bQ]; omega)).row (i := leads.length) (by rw [iI, bQ]; omega)
   rw [← hv1, cY, List.length_map] at this; exact this
  have hbpp := hbr _ (bD (show c < (rows1.getD leads.length default).2.length by omega))
  have hb1p := Bd1.div hbpp hp1
  obtain ⟨p, hpe⟩ : ∃ p, p = (rows1.getD leads.length default).2.getD c default := ⟨_, rfl⟩
  have hpv1 : p.1 = ent (vX rows) a c := by rw [hpe, gO, hv1, jZ (by rw [bQ]; omega) (by rw [bQ]; omega)]
  have hd1b : Bd (bd c) d1.1 := by rw [hd1]; exact hdb
  have hd2v : (xmul d1 p).1 = gjd (vX rows0) (c + 1) := by
   rw [pA hpv hal, ← hv, ← hld]
   show d1.1 * p.1 = _
   rw [hpv1, hd1, if_neg om, hdv]
  have hd2b : Bd (bd (c + 1)) (xmul d1 p).1 := (hd1b.mul (show Bd (bd c) p.1 by rw [hpe]; exact hbpp)).mono (by rw [bd_succ]; omega)
  refine fI (outH q 1 3 (leads.map d64) [((0 + 3 + 1), { cells := (rows1.map fX).flatten, sz := 1, elem := 108, st := 0 }), ((0 + 3 + 3 + 1), { cells := xc d1, sz := 4, elem := 114, st := 0 }), (2, { cells := [.v (.int .i64 0), .sl 0 [], .v (.int .i64 0), .sl 0 []], sz := 4, elem := 114, st := 0 })]) (dB cU (aM om (g0.trans (by rw [hr1]))) (aM om (g1 (by decide) (g0.trans (by rw [hd1e])))) (aM om (g1 (by decide) (g1 (by decide) g0)))) <| Rg 9 J <| Um J J <| Um J J <| aA (cC (j := leads.length) J J J J om om J) J <| aA (dZ (f := fX) (us := rows1) (j := leads.length) J J (aM om g0) (fun _ => rfl) J (by decide) om J) J <| Um J J <| aA (bY J J J J J om J) J <| aA (aS (b := lvX p) (dQ (l := .agg [_, _, _, _]) J J J) (by rw [hpe]; rfl)) J <| bL (gM J) J <| bB (dH (cs' := xc p) J J J g0 J J J J) <| Nk [6,7,8,9,10,11,13,18,19,30,31,32,33,34,35,36,37,38] J <| Rg 4 J <| aA (bF (l := .agg [_, _, _, _]) J J (g1 om (g1 om (aM om (g1 (by decide) g0)))) J J) J <| aA (bF (l := lvX p) J J g0 J J) J <| aA (aE J (mR d1 p (hd1b.mono om) (by rw [hpe]; exact hbpp.mono om)) (by first | (simp [-bG]; done) | simp)) J <| bB (dH (cs' := [_, _, _, _]) J J J (g1 om (g1 om (aM om (g1 (by decide) g0)))) J J J J) <| Nk [6,7,8,9,10,11,13,18,19,30,31,32,33,34,35,36,37,38] J ?_
  obtain ⟨r, hr, np, rfl, hnp⟩ := oO (rows1.getD leads.length default).1 (rows1.getD leads.length default).2 (xdiv (xint 1) p) om (fun x hx => (hbr x hx).mono om) (by rw [hpe]; exact hb1p.mono om)
  refine cJ (z := 12) J kR <| Dm J J <| Dm J J <| Dm J J <| Dm J J <| aL (cC (j := leads.length) J J J J om om J) J <| aL (dZ (f := fX) (us := rows1) (j := leads.length) J J (g1 om (g1 om (g1 om (aM om g0)))) (fun _ => rfl) J (by decide) om J) J <| aL (aE J (iX 1 (by unfold I64; omega)) (by first | (simp [-bG]; done) | simp)) J <| aL (bF (l := lvX p) J J (g1 om g0) J J) J <| aL (aE J (rdiv_run (xint 1) p (by rw [hpe]; exact hp1) (Bd1.mono om) (by rw [hpe]; exact hbpp.mono om)) (by first | (simp [-bG]; done) | simp)) J <| aL (aE J (hr) (by first | (simp [-bG]; done) | simp)) J <| aL (cC (j := leads.length) J J J J om om J) J <| dP (eA (f := fX) (us := rows1) (1, np) J J J (g1 om (g1 om (g1 om (aM om g0)))) (fun _ => rfl) J J om J) <| bT (bE kR) J <| Ck [6,7,8,9,10,11,18,19,30,31,32,33,34,35,36,37,38] J <| aC ?_
  obtain ⟨rowsM, hr2⟩ : ∃ z, z = rows1.set leads.length (1, np) := ⟨_, rfl⟩
  rw [← hr2]
  have hl2 : rowsM.length = rows.length := by rw [hr2, List.length_set]; exact hl1
  have hv2 : vX rowsM = M := by
   rw [hr2, nX, hv1, hM]; unfold mid
   rw [hnp, ← cY, hv1]
   have : (xdiv (xint 1) p).1 = 1 / ent (sw (vX rows) a leads.length) leads.length c := by show (1 : Rat) / p.1 = _; rw [hpv1, jZ (by rw [bQ]; omega) (by rw [bQ]; omega)]
   rw [this]
  refine Rg 3 J <| Um J J <| aA (kF J J) J <| Um J J <| Nk [6,7,8,9,10,11,18,19,30,31,32,33,34,35,36,37,38,87,88] J <| aG <| aY (α := Nat × (List X1)) (fun ⟨j, rows2⟩ => [(6, .ptr (0 + (0 + 1 + 1)) 0), (7, .ref (0 + 3 + 1) 1 0 rows2.length), (8, .ptr (0 + 3 + 3 + 1) 0), (9, outV q 1 (leads.map d64)), (10, .v (.int .i64 (c : Int))), (11, .v (.int .i64 (leads.length : Int))), (18, .v (.int .i64 (cols : Int))), (19, .v (.int .i64 (c : Int))), (87, .v (.int .i64 (rows.length : Int))), (88, .v (.int .i64 (j : Int)))]) (fun ⟨j, rows2⟩ => outH q 1 3 (leads.map d64) [((0 + 3 + 1), { cells := (rows2.map fX).flatten, sz := 1, elem := 108, st := 0 }), ((0 + 3 + 3 + 1), { cells := xc (xmul d1 p), sz := 4, elem := 114, st := 0 }), (2, { cells := [.v (.int .i64 0), .sl 0 [], .v (.int .i64 0), .sl 0 []], sz := 4, elem := 114, st := 0 })]) (fun ⟨j, rows2⟩ n => j ≤ rows.length ∧ rows2.length = rows.length ∧ (∀ k, k < rows.length → (vX rows2).getD k default = if k < j then elr M leads.length c k else M.getD k default) ∧ q < n) (fun ⟨j, rows2⟩ => rows.length - j) (0, rowsM) ⟨rfl, congrArg some (by rw [hl2]), rfl, rfl, rfl, rfl, rfl, rfl, rfl, rfl, trivial⟩ (dB (fun hu => (g1 om (g1 om (g1 om (g1 om (cU hu)))))) g0 (g1 om g0) (g1 om (g1 om (g1 om (g1 om (aM om (g1 (by decide) (g1 (by decide) g0)))))))) ⟨Nat.zero_le _, hl2, by intro k hk; rw [if_neg om, hv2], om⟩ ?_
  rintro ⟨j, rows2⟩ n hJ
  change WC _ _ _ _ _ (_ :: _) (outH _ _ _ _ _) n _
  obtain ⟨hjl, hl4, hst, hqn4⟩ := hJ
  refine Rg 1 J <| aA (bS J J) J <| aW (fun h89 => ?_) (fun h89 => ?_)
  rotate_left
  ·refine Wn <| aR J <| aT <| aP <| aN J ?_
   have hfin : vX rows2 = elim M leads.length c := elim_eq (j := j) (by rw [bQ]; omega) om (by rw [hMl]; exact hst)
   refine aI (z := 5) J <| Um J J <| Um J J <| aA (dJ (cs := [_]) (rows := [[_]]) J J (by decide) J J J) J <| fJ (te := ti3) (f := d64) (q := q) (us := leads) (u := c) J J J J J (fun _ => rfl) (by decide) (by show (2 * (leads.length + 1) + 256) * 8 ≤ _; omega) om (gN om (gN om (gN om J))) (gN om (gN om (gN om J))) J <| Ua J J <| Wn <| aD <| Ck [6,7,8,9,18,19] J <| aI (z := 2) J <| aA (cI (((c + 1 : Nat) : Int)) (aQ J J om) om) J <| Um J J <| Wn <| aH <| ⟨⟨c + 1, _, rows2, leads ++ [c], xmul d1 p⟩, ⟨J, J, J, J, J, J, trivial⟩, (dB cU (aM om g0) (aM om (g1 (by decide) g0)) (aM om (g1 (by decide) (g1 (by decide) g0)))), ⟨om, by rw [hgy, hfin, hM, hv, hld], by rw [hgy, hld], om, om, hd2v, hd2b⟩, by show cols - (c + 1) < cols - c; omega⟩
  refine Wn <| aV J <| aF <| aG <| Rg 2 J <| Um J J <| Ua J J <| cM ?_
  have hrj : vX rows2 = vX rows2 := rfl
  have hj1 : (vX rows2).getD j default = M.getD j default := by rw [hst j om, if_neg om]
  have hj2 : (vX rows2).getD leads.length default = M.getD leads.length default := elim_row om (by rw [hMl]; exact hst)
  have hej : ent (vX rows2) j c = ent M j c := by unfold ent; rw [hj1]
  have hwj : (rows2.getD j default).2.length = w := by have := hMw.row (i := j) om; rw [← hj1, cY] at this; simpa using this
  have hwl : (rows2.getD leads.length default).2.length = w := by have := hMw.row (i := leads.length) om; rw [← hj2, cY] at this; simpa using this
  refine Rg 14 J <| Um J J <| Um J J <| aA (eG J J) J <| aW (fun h93 => ?_) (fun h93 => ?_)
  rotate_left
  ·refine Um J J <| K1 J J <| K1 J J <| K1 J J <| K1 J J <| K1 J J <| K1 J J <| K1 J J <| K1 J J <| K1 J J <| aA (cD J J) J <| Nk [6,7,8,9,10,11,14,18,19,87,88,95,96,97,98,99,100,101,102,103,104] J <| bH J <| bJ <| aD <| Ck [6,7,8,9,10,11,18,19,87,88,95,96,97,98,99,100,101,102,103] J <| aI (z := 2) J <| aA (cI (((j + 1 : Nat) : Int)) (aQ J J om) om) J <| Um J J <| Wn <| aH <| ⟨⟨j + 1, rows2⟩, ⟨J, J, J, J, J, J, J, J, J, J, trivial⟩, (dB cU (aM om g0) (aM om (g1 (by decide) g0)) (aM om (g1 (by decide) (g1 (by decide) g0)))), ⟨om, hl4, (by have := kT (A := vX rows2) (M := M) (j := j) om (by rw [hMl]; exact hst) (mD (.inl om)).symm; rwa [hMl] at this), om⟩, by show rows.length - (j + 1) < rows.length - j; omega⟩
  refine Um J J <| aJ J (cR J) J <| aJ J (cR J) J <| aJ J (cC (j := j) J J J J om om J) J <| aJ J (dZ (f := fX) (us := rows2) (j := j) J J (aM om g0) (fun _ => rfl) J (by decide) om J) J <| aJ J (cR J) J <| aJ J (bY J J J J J om J) J <| aJ J (dQ (l := .agg [_, _, _, _]) J J J) J <| aJ J (aE J (gA ((rows2.getD j default).2.getD c default)) (by first | (simp [-bG]; done) | simp)) J <| aJ J (eG J J) J <| aW (fun h103 => ?_) (fun h103 => ?_)
  rotate_left
  ·refine aA (cG J J) J <| Nk [6,7,8,9,10,11,14,18,19,87,88,95,96,97,98,99,100,101,102,103,104] J <| bH J <| bJ <| aD <| Ck [6,7,8,9,10,11,18,19,87,88,95,96,97,98,99,100,101,102,103] J <| aI (z := 2) J <| aA (cI (((j + 1 : Nat) : Int)) (aQ J J om) om) J <| Um J J <| Wn <| aH <| ⟨⟨j + 1, rows2⟩, ⟨J, J, J, J, J, J, J, J, J, J, trivial⟩, (dB cU (aM om g0) (aM om (g1 (by decide) g0)) (aM om (g1 (by decide) (g1 (by decide) g0)))), ⟨om, hl4, (by have := kT (A := vX rows2) (M := M) (j := j) om (by rw [hMl]; exact hst) (mD (.inr (by rw [← hej, ← gO]; exact eM.1 om))).symm; rwa [hMl] at this), om⟩, by show rows.length - (j + 1) < rows.length - j; omega⟩
  refine aA (cG J J) J <| Nk [6,7,8,9,10,11,14,18,19,87,88,95,96,97,98,99,100,101,102,103,104] J <| bI J ?_
  have hen2 : ent M j c ≠ 0 := by rw [← hej, ← gO]; exact fun k => h103 (eM.2 k)
  have hbj : ∀ x, x ∈ (rows2.getD j default).2 → Bd (2 * bd c + 1) x.1 := by
   intro x hx
   have := hMb.row j
   rw [← hj1, cY] at this
   exact this _ (List.mem_map.2 ⟨x, hx, rfl⟩)
  have hbl : ∀ x, x ∈ (rows2.getD leads.length default).2 → Bd (2 * bd c + 1) x.1 := by
   intro x hx
   have := hMb.row leads.length
   rw [← hj2, cY] at this
   exact this _ (List.mem_map.2 ⟨x, hx, rfl⟩)
  have hbe := hbj _ (bD (show c < (rows2.getD j default).2.length by omega))
  obtain ⟨r, hr, nw, rfl, hnw⟩ := lN (rows2.getD j default).1 (rows2.getD leads.length default).1 (rows2.getD j default).2 (rows2.getD leads.length default).2 (xneg ((rows2.getD j default).2.getD c default)) om om (fun x hx => (hbj x hx).mono om) (fun x hx => (hbl x hx).mono om) (hbe.neg.mono om)
  refine dR (z := 21) J kR <| Dm J J <| Dm J J <| Dm J J <| Dm J J <| aL (cC (j := j) J J J J om om J) J <| aL (dZ (f := fX) (us := rows2) (j := j) J J (aM om g0) (fun _ => rfl) J (by decide) om J) J <| Dm J J <| Dm J J <| aL (cC (j := j) J J J J om om J) J <| aL (dZ (f := fX) (us := rows2) (j := j) J J (aM om g0) (fun _ => rfl) J (by decide) om J) J <| Dm J J <| aL (bY J J J J J om J) J <| aL (dQ (l := .agg [_, _, _, _]) J J J) J <| aL (aE J (qP ((rows2.getD j default).2.getD c default)) (by first | (simp [-bG]; done) | simp)) J <| Dm J J <| Dm J J <| aL (cC (j := leads.length) J J J J om om J) J <| aL (dZ (f := fX) (us := rows2) (j := leads.length) J J (aM om g0) (fun _ => rfl) J (by decide) om J) J <| aL (aE J (hr) (by first | (simp [-bG]; done) | simp)) J <| aL (cC (j := j) J J J J om om J) J <| dP (eA (f := fX) (us := rows2) (1, nw) J J J (aM om g0) (fun _ => rfl) J J om J) <| bT (bE kR) J <| aD ?_
  refine Ck [6,7,8,9,10,11,18,19,87,88,95,96,97,98,99,100,101,102,103] J <| aI (z := 2) J <| aA (cI (((j + 1 : Nat) : Int)) (aQ J J om) om) J <| Um J J <| Wn <| aH <| ⟨⟨j + 1, rows2.set j (1, nw)⟩, ⟨rfl, congrArg some (by rw [List.length_set]), rfl, rfl, rfl, rfl, rfl, rfl, rfl, rfl, trivial⟩, dB (fun hu => g1 om (cU hu)) g0 (g1 (by decide) (aM om (g1 (by decide) g0))) (g1 (by decide) (aM om (g1 (by decide) (g1 (by decide) g0)))), ⟨om, by rw [List.length_set]; exact hl4, by rw [nX]; exact (by have := rL (A := vX rows2) (M := M) (j := j) (by rw [bQ]; omega) om (by rw [hMl]; exact hst) (x := nw.map (·.1)) (by rw [elr_pos om hen2, ← hej, ← hj1, ← hj2, cY, cY, ← gO, hnw]; rfl); rwa [hMl] at this), om⟩, by show rows.length - (j + 1) < rows.length - j; omega⟩
 refine Nk [6,7,8,9,10,11,12,18,19,30,31,32,33,34,35,36,37,38,48] J <| aV J <| aC <| cJ (z := 16) J kR <| Dm J J <| Dm J J <| Dm J J <| Dm J J <| Dm J J <| Dm J J <| aL (cC (j := leads.length) J J J J om om J) J <| aL (dZ (f := fX) (us := rows) (j := leads.length) J J (aM om g0) (fun _ => rfl) J (by decide) om J) J <| Dm J J <| Dm J J <| aL (cC (j := a) J J J J om om J) J <| aL (dZ (f := fX) (us := rows) (j := a) J J (aM om g0) (fun _ => rfl) J (by decide) om J) J <| aL (cC (j := a) J J J J om om J) J <| dP (eA (f := fX) (us := rows) (rows.getD leads.length default) J J J (aM om g0) (fun _ => rfl) J J om J) <| aL (cC (j := leads.length) J J J J om om J) J <| dP (eA (f := fX) (us := (rows.set a (rows.getD leads.length default))) (rows.getD a default) J J J g0 (fun _ => rfl) J J (by rw [List.length_set]; omega) J) <| bT (bE kR) J <| Ck [6,7,8,9,10,11,18,19,30,31,32,33,34,35,36,37,38] J <| Rg 3 J ?_
 refine aA (bF (l := .agg [_, _, _, _]) J J (g1 om (g1 om (aM om (g1 (by decide) g0)))) J J) J <| aA (aE J (qP d) (by first | (simp [-bG]; done) | simp)) J <| bB (dH (cs' := [_, _, _, _]) J J J (g1 om (g1 om (aM om (g1 (by decide) g0)))) J J J J) <| Nk [6,7,8,9,10,11,18,19,30,31,32,33,34,35,36,37,38] J ?_
 obtain ⟨rows1, hr1⟩ : ∃ z, z = ((rows.set a (rows.getD leads.length default)).set leads.length (rows.getD a default)) := ⟨_, rfl⟩
 obtain ⟨d1, hd1e⟩ : ∃ z, z = xneg d := ⟨_, rfl⟩
 rw [← hr1]
 have hd1 : d1.1 = -d.1 := by rw [hd1e]; rfl
 have hv1 : vX rows1 = sw (vX rows) a leads.length := by rw [hr1, nX, nX, ← cY, ← cY]; exact sw_comm om
 have hl1 : rows1.length = rows.length := by simp [hr1]
 have hp1 : ((rows1.getD leads.length default).2.getD c default).1 ≠ 0 := by rw [gO, hv1]; exact hsp
 have hb1 : BdL (bd c) (vX rows1) := by rw [hv1]; exact hbv.sw _ _
 have hbr : ∀ x, x ∈ (rows1.getD leads.length default).2 → Bd (bd c) x.1 := by
  intro x hx
  have := hb1.row leads.length
  rw [cY] at this
  exact this _ (List.mem_map.2 ⟨x, hx, rfl⟩)
 have hwr : (rows1.getD leads.length default).2.length = w := by
  have := ((show Wid w (vX rows) by rw [hv]; exact GI.wid).sw (i := a) (r := leads.length) (by rw [bQ]; omega) (by rw [bQ]; omega)).row (i := leads.length) (by rw [iI, bQ]; omega)
  rw [← hv1, cY, List.length_map] at this; exact this
 have hbpp := hbr _ (bD (show c < (rows1.getD leads.length default).2.length by omega))
 have hb1p := Bd1.div hbpp hp1
 obtain ⟨p, hpe⟩ : ∃ p, p = (rows1.getD leads.length default).2.getD c default := ⟨_, rfl⟩
 have hpv1 : p.1 = ent (vX rows) a c := by rw [hpe, gO, hv1, jZ (by rw [bQ]; omega) (by rw [bQ]; omega)]
 have hd1b : Bd (bd c) d1.1 := by rw [hd1]; exact hdb.neg
 have hd2v : (xmul d1 p).1 = gjd (vX rows0) (c + 1) := by
  rw [pA hpv hal, ← hv, ← hld]
  show d1.1 * p.1 = _
  rw [hpv1, hd1, if_pos om, hdv]
 have hd2b : Bd (bd (c + 1)) (xmul d1 p).1 := (hd1b.mul (show Bd (bd c) p.1 by rw [hpe]; exact hbpp)).mono (by rw [bd_succ]; omega)
 refine fI (outH q 1 3 (leads.map d64) [((0 + 3 + 1), { cells := (rows1.map fX).flatten, sz := 1, elem := 108, st := 0 }), ((0 + 3 + 3 + 1), { cells := xc d1, sz := 4, elem := 114, st := 0 }), (2, { cells := [.v (.int .i64 0), .sl 0 [], .v (.int .i64 0), .sl 0 []], sz := 4, elem := 114, st := 0 })]) (dB (fun hu => (g1 om (g1 om (g1 om (cU hu))))) (g1 (by decide) g0) (g0.trans (by rw [hd1e]; rfl)) (g1 om (g1 om (g1 om (aM om (g1 (by decide) (g1 (by decide) g0))))))) <| Rg 9 J <| Um J J <| Um J J <| aA (cC (j := leads.length) J J J J om om J) J <| aA (dZ (f := fX) (us := rows1) (j := leads.length) J J (aM om g0) (fun _ => rfl) J (by decide) om J) J <| Um J J <| aA (bY J J J J J om J) J <| aA (aS (b := lvX p) (dQ (l := .agg [_, _, _, _]) J J J) (by rw [hpe]; rfl)) J <| bL (gM J) J <| bB (dH (cs' := xc p) J J J g0 J J J J) <| Nk [6,7,8,9,10,11,13,18,19,30,31,32,33,34,35,36,37,38] J <| Rg 4 J <| aA (bF (l := .agg [_, _, _, _]) J J (g1 om (g1 om (aM om (g1 (by decide) g0)))) J J) J <| aA (bF (l := lvX p) J J g0 J J) J <| aA (aE J (mR d1 p (hd1b.mono om) (by rw [hpe]; exact hbpp.mono om)) (by first | (simp [-bG]; done) | simp)) J <| bB (dH (cs' := [_, _, _, _]) J J J (g1 om (g1 om (aM om (g1 (by decide) g0)))) J J J J) <| Nk [6,7,8,9,10,11,13,18,19,30,31,32,33,34,35,36,37,38] J ?_
 obtain ⟨r, hr, np, rfl, hnp⟩ := oO (rows1.getD leads.length default).1 (rows1.getD leads.length default).2 (xdiv (xint 1) p) om (fun x hx => (hbr x hx).mono om) (by rw [hpe]; exact hb1p.mono om)
 refine cJ (z := 12) J kR <| Dm J J <| Dm J J <| Dm J J <| Dm J J <| aL (cC (j := leads.length) J J J J om om J) J <| aL (dZ (f := fX) (us := rows1) (j := leads.length) J J (g1 om (g1 om (g1 om (aM om g0)))) (fun _ => rfl) J (by decide) om J) J <| aL (aE J (iX 1 (by unfold I64; omega)) (by first | (simp [-bG]; done) | simp)) J <| aL (bF (l := lvX p) J J (g1 om g0) J J) J <| aL (aE J (rdiv_run (xint 1) p (by rw [hpe]; exact hp1) (Bd1.mono om) (by rw [hpe]; exact hbpp.mono om)) (by first | (simp [-bG]; done) | simp)) J <| aL (aE J (hr) (by first | (simp [-bG]; done) | simp)) J <| aL (cC (j := leads.length) J J J J om om J) J <| dP (eA (f := fX) (us := rows1) (1, np) J J J (g1 om (g1 om (g1 om (aM om g0)))) (fun _ => rfl) J J om J) <| bT (bE kR) J <| Ck [6,7,8,9,10,11,18,19,30,31,32,33,34,35,36,37,38] J <| aC ?_
 obtain ⟨rowsM, hr2⟩ : ∃ z, z = rows1.set leads.length (1, np) := ⟨_, rfl⟩
 rw [← hr2]
 have hl2 : rowsM.length = rows.length := by rw [hr2, List.length_set]; exact hl1
 have hv2 : vX rowsM = M := by
  rw [hr2, nX, hv1, hM]; unfold mid
  rw [hnp, ← cY, hv1]
  have : (xdiv (xint 1) p).1 = 1 / ent (sw (vX rows) a leads.length) leads.length c := by show (1 : Rat) / p.1 = _; rw [hpv1, jZ (by rw [bQ]; omega) (by rw [bQ]; omega)]
  rw [this]
 refine Rg 3 J <| Um J J <| aA (kF J J) J <| Um J J <| Nk [6,7,8,9,10,11,18,19,30,31,32,33,34,35,36,37,38,87,88] J <| aG <| aY (α := Nat × (List X1)) (fun ⟨j, rows2⟩ => [(6, .ptr (0 + (0 + 1 + 1)) 0), (7, .ref (0 + 3 + 1) 1 0 rows2.length), (8, .ptr (0 + 3 + 3 + 1) 0), (9, outV q 1 (leads.map d64)), (10, .v (.int .i64 (c : Int))), (11, .v (.int .i64 (leads.length : Int))), (18, .v (.int .i64 (cols : Int))), (19, .v (.int .i64 (c : Int))), (87, .v (.int .i64 (rows.length : Int))), (88, .v (.int .i64 (j : Int)))]) (fun ⟨j, rows2⟩ => outH q 1 3 (leads.map d64) [((0 + 3 + 1), { cells := (rows2.map fX).flatten, sz := 1, elem := 108, st := 0 }), ((0 + 3 + 3 + 1), { cells := xc (xmul d1 p), sz := 4, elem := 114, st := 0 }), (2, { cells := [.v (.int .i64 0), .sl 0 [], .v (.int .i64 0), .sl 0 []], sz := 4, elem := 114, st := 0 })]) (fun ⟨j, rows2⟩ n => j ≤ rows.length ∧ rows2.length = rows.length ∧ (∀ k, k < rows.length → (vX rows2).getD k default = if k < j then elr M leads.length c k else M.getD k default) ∧ q < n) (fun ⟨j, rows2⟩ => rows.length - j) (0, rowsM) ⟨rfl, congrArg some (by rw [hl2]), rfl, rfl, rfl, rfl, rfl, rfl, rfl, rfl, trivial⟩ (dB (fun hu => (g1 om (g1 om (g1 om (g1 om (cU hu)))))) g0 (g1 om g0) (g1 om (g1 om (g1 om (g1 om (aM om (g1 (by decide) (g1 (by decide) g0)))))))) ⟨Nat.zero_le _, hl2, by intro k hk; rw [if_neg om, hv2], om⟩ ?_
 rintro ⟨j, rows2⟩ n hJ
 change WC _ _ _ _ _ (_ :: _) (outH _ _ _ _ _) n _
 obtain ⟨hjl, hl4, hst, hqn4⟩ := hJ
 refine Rg 1 J <| aA (bS J J) J <| aW (fun h89 => ?_) (fun h89 => ?_)
 rotate_left
 ·refine Wn <| aR J <| aT <| aP <| aN J ?_
  have hfin : vX rows2 = elim M leads.length c := elim_eq (j := j) (by rw [bQ]; omega) om (by rw [hMl]; exact hst)
  refine aI (z := 5) J <| Um J J <| Um J J <| aA (dJ (cs := [_]) (rows := [[_]]) J J (by decide) J J J) J <| fJ (te := ti3) (f := d64) (q := q) (us := leads) (u := c) J J J J J (fun _ => rfl) (by decide) (by show (2 * (leads.length + 1) + 256) * 8 ≤ _; omega) om (gN om (gN om (gN om J))) (gN om (gN om (gN om J))) J <| Ua J J <| Wn <| aD <| Ck [6,7,8,9,18,19] J <| aI (z := 2) J <| aA (cI (((c + 1 : Nat) : Int)) (aQ J J om) om) J <| Um J J <| Wn <| aH <| ⟨⟨c + 1, _, rows2, leads ++ [c], xmul d1 p⟩, ⟨J, J, J, J, J, J, trivial⟩, (dB cU (aM om g0) (aM om (g1 (by decide) g0)) (aM om (g1 (by decide) (g1 (by decide) g0)))), ⟨om, by rw [hgy, hfin, hM, hv, hld], by rw [hgy, hld], om, om, hd2v, hd2b⟩, by show cols - (c + 1) < cols - c; omega⟩
 refine Wn <| aV J <| aF <| aG <| Rg 2 J <| Um J J <| Ua J J <| cM ?_
 have hrj : vX rows2 = vX rows2 := rfl
 have hj1 : (vX rows2).getD j default = M.getD j default := by rw [hst j om, if_neg om]
 have hj2 : (vX rows2).getD leads.length default = M.getD leads.length default := elim_row om (by rw [hMl]; exact hst)
 have hej : ent (vX rows2) j c = ent M j c := by unfold ent; rw [hj1]
 have hwj : (rows2.getD j default).2.length = w := by have := hMw.row (i := j) om; rw [← hj1, cY] at this; simpa using this
 have hwl : (rows2.getD leads.length default).2.length = w := by have := hMw.row (i := leads.length) om; rw [← hj2, cY] at this; simpa using this
 refine Rg 14 J <| Um J J <| Um J J <| aA (eG J J) J <| aW (fun h93 => ?_) (fun h93 => ?_)
 rotate_left
 ·refine Um J J <| K1 J J <| K1 J J <| K1 J J <| K1 J J <| K1 J J <| K1 J J <| K1 J J <| K1 J J <| K1 J J <| aA (cD J J) J <| Nk [6,7,8,9,10,11,14,18,19,87,88,95,96,97,98,99,100,101,102,103,104] J <| bH J <| bJ <| aD <| Ck [6,7,8,9,10,11,18,19,87,88,95,96,97,98,99,100,101,102,103] J <| aI (z := 2) J <| aA (cI (((j + 1 : Nat) : Int)) (aQ J J om) om) J <| Um J J <| Wn <| aH <| ⟨⟨j + 1, rows2⟩, ⟨J, J, J, J, J, J, J, J, J, J, trivial⟩, (dB cU (aM om g0) (aM om (g1 (by decide) g0)) (aM om (g1 (by decide) (g1 (by decide) g0)))), ⟨om, hl4, (by have := kT (A := vX rows2) (M := M) (j := j) om (by rw [hMl]; exact hst) (mD (.inl om)).symm; rwa [hMl] at this), om⟩, by show rows.length - (j + 1) < rows.length - j; omega⟩
 refine Um J J <| aJ J (cR J) J <| aJ J (cR J) J <| aJ J (cC (j := j) J J J J om om J) J <| aJ J (dZ (f := fX) (us := rows2) (j := j) J J (aM om g0) (fun _ => rfl) J (by decide) om J) J <| aJ J (cR J) J <| aJ J (bY J J J J J om J) J <| aJ J (dQ (l := .agg [_, _, _, _]) J J J) J <| aJ J (aE J (gA ((rows2.getD j default).2.getD c default)) (by first | (simp [-bG]; done) | simp)) J <| aJ J (eG J J) J <| aW (fun h103 => ?_) (fun h103 => ?_)
 rotate_left
 ·refine aA (cG J J) J <| Nk [6,7,8,9,10,11,14,18,19,87,88,95,96,97,98,99,100,101,102,103,104] J <| bH J <| bJ <| aD <| Ck [6,7,8,9,10,11,18,19,87,88,95,96,97,98,99,100,101,102,103] J <| aI (z := 2) J <| aA (cI (((j + 1 : Nat) : Int)) (aQ J J om) om) J <| Um J J <| Wn <| aH <| ⟨⟨j + 1, rows2⟩, ⟨J, J, J, J, J, J, J, J, J, J, trivial⟩, (dB cU (aM om g0) (aM om (g1 (by decide) g0)) (aM om (g1 (by decide) (g1 (by decide) g0)))), ⟨om, hl4, (by have := kT (A := vX rows2) (M := M) (j := j) om (by rw [hMl]; exact hst) (mD (.inr (by rw [← hej, ← gO]; exact eM.1 om))).symm; rwa [hMl] at this), om⟩, by show rows.length - (j + 1) < rows.length - j; omega⟩
 refine aA (cG J J) J <| Nk [6,7,8,9,10,11,14,18,19,87,88,95,96,97,98,99,100,101,102,103,104] J <| bI J ?_
 have hen2 : ent M j c ≠ 0 := by rw [← hej, ← gO]; exact fun k => h103 (eM.2 k)
 have hbj : ∀ x, x ∈ (rows2.getD j default).2 → Bd (2 * bd c + 1) x.1 := by
  intro x hx
  have := hMb.row j
  rw [← hj1, cY] at this
  exact this _ (List.mem_map.2 ⟨x, hx, rfl⟩)
 have hbl : ∀ x, x ∈ (rows2.getD leads.length default).2 → Bd (2 * bd c + 1) x.1 := by
  intro x hx
  have := hMb.row leads.length
  rw [← hj2, cY] at this
  exact this _ (List.mem_map.2 ⟨x, hx, rfl⟩)
 have hbe := hbj _ (bD (show c < (rows2.getD j default).2.length by omega))
 obtain ⟨r, hr, nw, rfl, hnw⟩ := lN (rows2.getD j default).1 (rows2.getD leads.length default).1 (rows2.getD j default).2 (rows2.getD leads.length default).2 (xneg ((rows2.getD j default).2.getD c default)) om om (fun x hx => (hbj x hx).mono om) (fun x hx => (hbl x hx).mono om) (hbe.neg.mono om)
 refine dR (z := 21) J kR <| Dm J J <| Dm J J <| Dm J J <| Dm J J <| aL (cC (j := j) J J J J om om J) J <| aL (dZ (f := fX) (us := rows2) (j := j) J J (aM om g0) (fun _ => rfl) J (by decide) om J) J <| Dm J J <| Dm J J <| aL (cC (j := j) J J J J om om J) J <| aL (dZ (f := fX) (us := rows2) (j := j) J J (aM om g0) (fun _ => rfl) J (by decide) om J) J <| Dm J J <| aL (bY J J J J J om J) J <| aL (dQ (l := .agg [_, _, _, _]) J J J) J <| aL (aE J (qP ((rows2.getD j default).2.getD c default)) (by first | (simp [-bG]; done) | simp)) J <| Dm J J <| Dm J J <| aL (cC (j := leads.length) J J J J om om J) J <| aL (dZ (f := fX) (us := rows2) (j := leads.length) J J (aM om g0) (fun _ => rfl) J (by decide) om J) J <| aL (aE J (hr) (by first | (simp [-bG]; done) | simp)) J <| aL (cC (j := j) J J J J om om J) J <| dP (eA (f := fX) (us := rows2) (1, nw) J J J (aM om g0) (fun _ => rfl) J J om J) <| bT (bE kR) J <| aD ?_
 refine Ck [6,7,8,9,10,11,18,19,87,88,95,96,97,98,99,100,101,102,103] J <| aI (z := 2) J <| aA (cI (((j + 1 : Nat) : Int)) (aQ J J om) om) J <| Um J J <| Wn <| aH <| ⟨⟨j + 1, rows2.set j (1, nw)⟩, ⟨rfl, congrArg some (by rw [List.length_set]), rfl, rfl, rfl, rfl, rfl, rfl, rfl, rfl, trivial⟩, dB (fun hu => g1 om (cU hu)) g0 (g1 (by decide) (aM om (g1 (by decide) g0))) (g1 (by decide) (aM om (g1 (by decide) (g1 (by decide) g0)))), ⟨om, by rw [List.length_set]; exact hl4, by rw [nX]; exact (by have := rL (A := vX rows2) (M := M) (j := j) (by rw [bQ]; omega) om (by rw [hMl]; exact hst) (x := nw.map (·.1)) (by rw [elr_pos om hen2, ← hej, ← hj1, ← hj2, cY, cY, ← gO, hnw]; rfl); rwa [hMl] at this), om⟩, by show rows.length - (j + 1) < rows.length - j; omega⟩
theorem eU (rows0 : List X1) (cols w : Nat) (hne : 0 < rows0.length) (ln : rows0.length < 1000000) (hw : Wid w (vX rows0)) (hcw : cols ≤ w) (hc10 : cols ≤ 10) (lw : w < 1000000) (hb : BdL 2 (vX rows0)) : ∃ r, Run Try.prog T E0 (.call 97 [.sl 1 (rows0.map fX), .v (.int .i64 (cols : Int))] r) ∧ ∃ (rows : List X1) (d : X), r = .tup [.sl 1 (rows.map fX), .sl (kd (gjn (vX rows0) cols).2.length) ((gjn (vX rows0) cols).2.map d64), lvX d] ∧ vX rows = (gjn (vX rows0) cols).1 ∧ d.1 = gjd (vX rows0) cols := by
 refine fO Try.func97 J J (cW J) ((oN rows0 cols w hne ln hw hcw hc10 lw hb).mono ?_)
 rintro x e h n ⟨hx, q, rows, d, h1, h2, h3, h4, h5⟩
 refine ⟨.tup [.sl 1 (rows.map fX), .sl (kd (gjn (vX rows0) cols).2.length) ((gjn (vX rows0) cols).2.map d64), lvX d], ⟨rows, d, rfl, h1, h2⟩, ?_⟩
 rw [← fB]
 exact postRO (n := n) hx h3 (by simp) h4 (by show (0 : Nat) ≠ 2; decide) J (by decide) J (bK (n := 1) (fun _ => rfl)) (aU dfX) h5 (by decide) (bK (n := 1) (fun _ => rfl)) iH (by simp)
end Go.Proofs.Ytcblgjaomljikaa
set_option maxHeartbeats 8000000
namespace Go.Proofs.Ytcblgjaomljikaa
open Go.Ab Go.RowKit
theorem gU (k1 k2 : Nat) (ns : List NM) (ln : ns.length < 1099511627776) : Run Try.prog T E0 (.call 39 [.sl k1 (ns.map mc), .sl k2 (ns.map mc)] (.v (.bool true))) := by
 refine bC Try.func39 J J (cW J) <| Rg 1 J <| Ua J J <| Wn <| aC <| Rg 5 J <| Um J J <| aA (aX J J) J <| Um J J <| aA (aX J J) J <| aA (eG J J) J <| aW (fun h10 => ?_) (fun h10 => ?_)
 ·exact absurd J h10
 refine Wn <| aR J <| aF <| aC <| Rg 3 J <| Um J J <| aA (aX J J) J <| Um J J <| Wn <| aG <| aY (α := Nat) (fun i => [(0, .sl k1 (ns.map mc)), (1, .sl k2 (ns.map mc)), (12, .v (.int .i64 (ns.length : Int))), (13, .v (.int .i64 (i : Int)))]) (fun i => []) (fun i n => i ≤ ns.length) (fun i => ns.length - i) (0) ⟨J, J, J, J, trivial⟩ trivial (Nat.zero_le _) ?_
 rintro i n hF
 change WC _ _ _ _ _ (_ :: _) ([]) n _
 refine Rg 1 J <| aA (bS J J) J <| aW (fun h14 => ?_) (fun h14 => ?_)
 rotate_left
 ·refine Wn <| aR J <| aT <| aP <| aN J <| Rg 1 J <| Ua J J <| Wn <| aK ?_
  exact post (n := 0) (.inr J) J J (by simp)
 refine Wn <| aV J <| aF <| aG <| Rg 2 J <| Um J J <| Ua J J <| Wn <| cJ (z := 9) J kR <| Dm J J <| Dm J J <| aL (bY J J J J J om J) J <| aL (dQ (l := .agg [_, _]) J J J) J <| Dm J J <| Dm J J <| aL (bY J J J J J om J) J <| aL (dQ (l := .agg [_, _]) J J J) J <| aL (aS (b := .v (.bool false)) (oNeS J J J J J) (by simp)) J <| bT (bE kR) J <| Ck [0,1,12,13,24] J <| bH J <| bJ <| aD <| aI (z := 2) J ?_
 refine aA (cI (((i + 1 : Nat) : Int)) (aQ J J om) om) J <| Um J J <| Wn <| aH <| ⟨i + 1, ⟨J, J, J, J, trivial⟩, trivial, by show i + 1 ≤ _; omega, by show ns.length - (i + 1) < ns.length - i; omega⟩
theorem msame_run (k1 k2 : Nat) (a : List M1) (ln : a.length < 1099511627776) (lr : ∀ r, r ∈ a → r.2.length < 1099511627776) : Run Try.prog T E0 (.call 38 [.sl k1 (a.map fM), .sl k2 (a.map fM)] (.v (.bool true))) := by
 refine bC Try.func38 J J (cW J) <| Rg 1 J <| Ua J J <| Wn <| aC <| Rg 5 J <| Um J J <| aA (aX J J) J <| Um J J <| aA (aX J J) J <| aA (eG J J) J <| aW (fun h10 => ?_) (fun h10 => ?_)
 ·exact absurd J h10
 refine Wn <| aR J <| aF <| aC <| Rg 3 J <| Um J J <| aA (aX J J) J <| Um J J <| Wn <| aG <| aY (α := Nat) (fun i => [(0, .sl k1 (a.map fM)), (1, .sl k2 (a.map fM)), (12, .v (.int .i64 (a.length : Int))), (13, .v (.int .i64 (i : Int)))]) (fun i => []) (fun i n => i ≤ a.length) (fun i => a.length - i) (0) ⟨J, J, J, J, trivial⟩ trivial (Nat.zero_le _) ?_
 rintro i n hF
 change WC _ _ _ _ _ (_ :: _) ([]) n _
 refine Rg 1 J <| aA (bS J J) J <| aW (fun h14 => ?_) (fun h14 => ?_)
 rotate_left
 ·refine Wn <| aR J <| aT <| aP <| aN J <| Rg 1 J <| Ua J J <| Wn <| aK ?_
  exact post (n := 0) (.inr J) J J (by simp)
 refine Wn <| aV J <| aF <| aG <| Rg 2 J <| Um J J <| Ua J J <| Wn <| cJ (z := 10) J kR <| Dm J J <| Dm J J <| aL (bY J J J J J om J) J <| aL (dQ J J J) J <| Dm J J <| Dm J J <| aL (bY J J J J J om J) J <| aL (dQ J J J) J <| aL (aE J (gU (a.getD i default).1 (a.getD i default).1 (a.getD i default).2 (lr _ (bD om))) dD) J <| aL (bZ J) J <| bT (bE kR) J <| Ck [0,1,12,13,25] J <| bH J <| bJ <| aD ?_
 refine aI (z := 2) J <| aA (cI (((i + 1 : Nat) : Int)) (aQ J J om) om) J <| Um J J <| Wn <| aH <| ⟨i + 1, ⟨J, J, J, J, trivial⟩, trivial, by show i + 1 ≤ _; omega, by show a.length - (i + 1) < a.length - i; omega⟩
theorem few_run (k : Nat) (a : List M1) : Run Try.prog T E0 (.call 84 [.v (.int .i64 8), .sl k (a.map fM)] (.v (.bool (fewb a)))) := by
 refine bC Try.func84 J J (cW J) <| Rg 1 J <| Ua J J <| Wn <| aC <| Rg 14 J <| Um J J <| aA (aX J J) J <| Um J J <| aA (fU J J) J <| aW (fun h10 => ?_) (fun h10 => ?_)
 rotate_left
 ·refine Um J J <| K1 J J <| K1 J J <| K1 J J <| aA (cD J J) J <| Um J J <| aJ J (cR J) J <| aJ J (aX J J) J <| aJ J (fU J J) J <| aW (fun h19 => ?_) (fun h19 => ?_)
  ·refine aA (cD J J) J <| Nk [0,1,20] J <| aV J <| aC <| Rg 1 J <| Ua J J <| Wn <| bM <| post (n := 0) (.inr J) J ?_ dD
   exact congrArg (fun z => LV.v (.bool z)) (show false = fewb a by unfold fewb; rw [show f1 a.length = true by unfold f1; exact decide_eq_true om]; rfl)
  refine aA (cD J J) J <| Nk [0,1,20] J <| aR J <| aF <| aC <| Rg 3 J <| Um J J <| aA (aX J J) J <| Um J J <| Wn <| aG <| aY (α := Nat) (fun i => [(0, .v (.int .i64 8)), (21, .sl k (a.map fM)), (22, .v (.int .i64 (a.length : Int))), (23, .v (.int .i64 (i : Int)))]) (fun i => []) (fun i n => i ≤ a.length ∧ (a.take i).all (fun r => !f1 r.2.length) = true) (fun i => a.length - i) (0) ⟨J, J, J, J, trivial⟩ trivial ⟨Nat.zero_le _, by simp⟩ ?_
  rintro i n hF
  change WC _ _ _ _ _ (_ :: _) ([]) n _
  obtain ⟨hi, ha⟩ := hF
  refine Rg 1 J <| aA (bS J J) J <| aW (fun h24 => ?_) (fun h24 => ?_)
  rotate_left
  ·refine Wn <| aR J <| aT <| aP <| aN J <| Rg 1 J <| Ua J J <| Wn <| aK <| post (n := 0) (.inr J) J ?_ dD
   exact congrArg (fun z => LV.v (.bool z)) (show true = fewb a by unfold fewb; rw [show f1 a.length = false by unfold f1; exact decide_eq_false om, all_yes ha om]; rfl)
  refine Wn <| aV J <| aF <| aG <| Rg 3 J <| aA (bY J J J J J om J) J <| aA (dQ J J J) J <| Ua J J <| Wn <| Rg 14 J <| Um J J <| aA (aX J J) J <| Um J J <| aA (fU J J) J <| aW (fun h30 => ?_) (fun h30 => ?_)
  rotate_left
  ·refine Um J J <| K1 J J <| K1 J J <| K1 J J <| aA (cD J J) J <| Um J J <| aJ J (cR J) J <| aJ J (aX J J) J <| aJ J (fU J J) J <| aW (fun h39 => ?_) (fun h39 => ?_)
   rotate_left
   ·refine aA (cD J J) J <| Nk [0,21,22,23,32,33,34,37,38,39,40] J <| bH J <| bJ <| aD <| aI (z := 2) J <| aA (cI (((i + 1 : Nat) : Int)) (aQ J J om) om) J <| Um J J <| Wn <| aH <| ⟨i + 1, ⟨J, J, J, J, trivial⟩, trivial, ⟨om, nB ha om (by show (!f1 _) = true; unfold f1; rw [decide_eq_false om]; rfl)⟩, by show a.length - (i + 1) < a.length - i; omega⟩
   refine aA (cD J J) J <| Nk [0,21,22,23,32,33,34,37,38,39,40] J <| bI J ?_
   have hno : (a.all fun r => !f1 r.2.length) = false := nE (i := i) om (by show (!f1 _) = false; unfold f1; rw [decide_eq_true om]; rfl)
   refine Rg 1 J <| Ua J J <| Wn <| aK <| aO <| cZ <| aO <| post (n := 0) (.inr J) J ?_ dD
   exact congrArg (fun z => LV.v (.bool z)) (show false = fewb a by unfold fewb; rw [hno, Bool.and_false])
  refine Um J J <| aJ J (cR J) J <| aJ J (aX J J) J <| aJ J (oLeq J J) J <| aW (fun h34 => ?_) (fun h34 => ?_)
  ·refine aA (cG J J) J <| Um J J <| K1 J J <| K1 J J <| K1 J J <| aA (cG J J) J <| Nk [0,21,22,23,32,33,34,37,38,39,40] J <| bI J ?_
   have hno : (a.all fun r => !f1 r.2.length) = false := nE (i := i) om (by show (!f1 _) = false; unfold f1; rw [decide_eq_true om]; rfl)
   refine Rg 1 J <| Ua J J <| Wn <| aK <| aO <| cZ <| aO <| post (n := 0) (.inr J) J ?_ dD
   exact congrArg (fun z => LV.v (.bool z)) (show false = fewb a by unfold fewb; rw [hno, Bool.and_false])
  refine aA (cG J J) J <| Um J J <| aJ J (cR J) J <| aJ J (aX J J) J <| aJ J (fU J J) J <| aW (fun h39 => ?_) (fun h39 => ?_)
  rotate_left
  ·refine aA (cD J J) J <| Nk [0,21,22,23,32,33,34,37,38,39,40] J <| bH J <| bJ <| aD <| aI (z := 2) J <| aA (cI (((i + 1 : Nat) : Int)) (aQ J J om) om) J <| Um J J <| Wn <| aH <| ⟨i + 1, ⟨J, J, J, J, trivial⟩, trivial, ⟨om, nB ha om (by show (!f1 _) = true; unfold f1; rw [decide_eq_false om]; rfl)⟩, by show a.length - (i + 1) < a.length - i; omega⟩
  refine aA (cD J J) J <| Nk [0,21,22,23,32,33,34,37,38,39,40] J <| bI J ?_
  have hno : (a.all fun r => !f1 r.2.length) = false := nE (i := i) om (by show (!f1 _) = false; unfold f1; rw [decide_eq_true om]; rfl)
  refine Rg 1 J <| Ua J J <| Wn <| aK <| aO <| cZ <| aO <| post (n := 0) (.inr J) J ?_ dD
  exact congrArg (fun z => LV.v (.bool z)) (show false = fewb a by unfold fewb; rw [hno, Bool.and_false])
 refine Um J J <| aJ J (cR J) J <| aJ J (aX J J) J <| aJ J (oLeq J J) J <| aW (fun h14 => ?_) (fun h14 => ?_)
 ·refine aA (cG J J) J <| Um J J <| K1 J J <| K1 J J <| K1 J J <| aA (cG J J) J <| Nk [0,1,20] J <| aV J <| aC <| Rg 1 J <| Ua J J <| Wn <| bM <| post (n := 0) (.inr J) J ?_ dD
  exact congrArg (fun z => LV.v (.bool z)) (show false = fewb a by unfold fewb; rw [show f1 a.length = true by unfold f1; exact decide_eq_true om]; rfl)
 refine aA (cG J J) J <| Um J J <| aJ J (cR J) J <| aJ J (aX J J) J <| aJ J (fU J J) J <| aW (fun h19 => ?_) (fun h19 => ?_)
 ·refine aA (cD J J) J <| Nk [0,1,20] J <| aV J <| aC <| Rg 1 J <| Ua J J <| Wn <| bM <| post (n := 0) (.inr J) J ?_ dD
  exact congrArg (fun z => LV.v (.bool z)) (show false = fewb a by unfold fewb; rw [show f1 a.length = true by unfold f1; exact decide_eq_true om]; rfl)
 refine aA (cD J J) J <| Nk [0,1,20] J <| aR J <| aF <| aC <| Rg 3 J <| Um J J <| aA (aX J J) J <| Um J J <| Wn <| aG <| aY (α := Nat) (fun i => [(0, .v (.int .i64 8)), (21, .sl k (a.map fM)), (22, .v (.int .i64 (a.length : Int))), (23, .v (.int .i64 (i : Int)))]) (fun i => []) (fun i n => i ≤ a.length ∧ (a.take i).all (fun r => !f1 r.2.length) = true) (fun i => a.length - i) (0) ⟨J, J, J, J, trivial⟩ trivial ⟨Nat.zero_le _, by simp⟩ ?_
 rintro i n hF
 change WC _ _ _ _ _ (_ :: _) ([]) n _
 obtain ⟨hi, ha⟩ := hF
 refine Rg 1 J <| aA (bS J J) J <| aW (fun h24 => ?_) (fun h24 => ?_)
 rotate_left
 ·refine Wn <| aR J <| aT <| aP <| aN J <| Rg 1 J <| Ua J J <| Wn <| aK <| post (n := 0) (.inr J) J ?_ dD
  exact congrArg (fun z => LV.v (.bool z)) (show true = fewb a by unfold fewb; rw [show f1 a.length = false by unfold f1; exact decide_eq_false om, all_yes ha om]; rfl)
 refine Wn <| aV J <| aF <| aG <| Rg 3 J <| aA (bY J J J J J om J) J <| aA (dQ J J J) J <| Ua J J <| Wn <| Rg 14 J <| Um J J <| aA (aX J J) J <| Um J J <| aA (fU J J) J <| aW (fun h30 => ?_) (fun h30 => ?_)
 rotate_left
 ·refine Um J J <| K1 J J <| K1 J J <| K1 J J <| aA (cD J J) J <| Um J J <| aJ J (cR J) J <| aJ J (aX J J) J <| aJ J (fU J J) J <| aW (fun h39 => ?_) (fun h39 => ?_)
  rotate_left
  ·refine aA (cD J J) J <| Nk [0,21,22,23,32,33,34,37,38,39,40] J <| bH J <| bJ <| aD <| aI (z := 2) J <| aA (cI (((i + 1 : Nat) : Int)) (aQ J J om) om) J <| Um J J <| Wn <| aH <| ⟨i + 1, ⟨J, J, J, J, trivial⟩, trivial, ⟨om, nB ha om (by show (!f1 _) = true; unfold f1; rw [decide_eq_false om]; rfl)⟩, by show a.length - (i + 1) < a.length - i; omega⟩
  refine aA (cD J J) J <| Nk [0,21,22,23,32,33,34,37,38,39,40] J <| bI J ?_
  have hno : (a.all fun r => !f1 r.2.length) = false := nE (i := i) om (by show (!f1 _) = false; unfold f1; rw [decide_eq_true om]; rfl)
  refine Rg 1 J <| Ua J J <| Wn <| aK <| aO <| cZ <| aO <| post (n := 0) (.inr J) J ?_ dD
  exact congrArg (fun z => LV.v (.bool z)) (show false = fewb a by unfold fewb; rw [hno, Bool.and_false])
 refine Um J J <| aJ J (cR J) J <| aJ J (aX J J) J <| aJ J (oLeq J J) J <| aW (fun h34 => ?_) (fun h34 => ?_)
 ·refine aA (cG J J) J <| Um J J <| K1 J J <| K1 J J <| K1 J J <| aA (cG J J) J <| Nk [0,21,22,23,32,33,34,37,38,39,40] J <| bI J ?_
  have hno : (a.all fun r => !f1 r.2.length) = false := nE (i := i) om (by show (!f1 _) = false; unfold f1; rw [decide_eq_true om]; rfl)
  refine Rg 1 J <| Ua J J <| Wn <| aK <| aO <| cZ <| aO <| post (n := 0) (.inr J) J ?_ dD
  exact congrArg (fun z => LV.v (.bool z)) (show false = fewb a by unfold fewb; rw [hno, Bool.and_false])
 refine aA (cG J J) J <| Um J J <| aJ J (cR J) J <| aJ J (aX J J) J <| aJ J (fU J J) J <| aW (fun h39 => ?_) (fun h39 => ?_)
 rotate_left
 ·refine aA (cD J J) J <| Nk [0,21,22,23,32,33,34,37,38,39,40] J <| bH J <| bJ <| aD <| aI (z := 2) J <| aA (cI (((i + 1 : Nat) : Int)) (aQ J J om) om) J <| Um J J <| Wn <| aH <| ⟨i + 1, ⟨J, J, J, J, trivial⟩, trivial, ⟨om, nB ha om (by show (!f1 _) = true; unfold f1; rw [decide_eq_false om]; rfl)⟩, by show a.length - (i + 1) < a.length - i; omega⟩
 refine aA (cD J J) J <| Nk [0,21,22,23,32,33,34,37,38,39,40] J <| bI J ?_
 have hno : (a.all fun r => !f1 r.2.length) = false := nE (i := i) om (by show (!f1 _) = false; unfold f1; rw [decide_eq_true om]; rfl)
 refine Rg 1 J <| Ua J J <| Wn <| aK <| aO <| cZ <| aO <| post (n := 0) (.inr J) J ?_ dD
 exact congrArg (fun z => LV.v (.bool z)) (show false = fewb a by unfold fewb; rw [hno, Bool.and_false])
theorem fE (k : Nat) (ns : List Int) (ln : ns.length < 1099511627776) : Run Try.prog T E0 (.call 85 [.sl k (ns.map dI)] (.sl (kd (ns.map wI).length) ((ns.map wI).map mc))) := by
 refine bC Try.func85 J J (cW J) <| Rg 1 J <| Ua J J <| Wn <| Rg 1 J <| Ua J J <| Wn <| aC <| Rg 3 J <| Um J J <| aA (aX J J) J <| Um J J <| Wn <| aG <| aY (α := Nat × Nat × (List NM)) (fun ⟨i, q, ds⟩ => [(3, outV q 2 (ds.map mc)), (6, .sl k (ns.map dI)), (7, .v (.int .i64 (ns.length : Int))), (8, .v (.int .i64 (i : Int)))]) (fun ⟨i, q, ds⟩ => outH q 2 28 (ds.map mc) []) (fun ⟨i, q, ds⟩ n => i ≤ ns.length ∧ ds = (ns.take i).map wI ∧ ds.length = i) (fun ⟨i, q, ds⟩ => ns.length - i) (0, 0, []) ⟨J, J, J, J, trivial⟩ trivial ⟨Nat.zero_le _, by simp, rfl⟩ ?_
 rintro ⟨i, q, ds⟩ n hF
 change WC _ _ _ _ _ (_ :: _) (outH _ _ _ _ _) n _
 obtain ⟨hi, hds, hdl⟩ := hF
 refine Rg 1 J <| aA (bS J J) J <| aW (fun h9 => ?_) (fun h9 => ?_)
 rotate_left
 ·refine Wn <| aR J <| aT <| aP <| aN J <| Rg 2 J <| Um J J <| Ua J J <| Wn <| aK ?_
  rw [List.take_of_length_le om] at hds
  rw [← hds, ← fB]
  exact mN (n := 0) (.inr J) J (by decide) (bK (n := 2) (fun _ => rfl)) (aU pU)
 refine Wn <| aV J <| aF <| aG <| Rg 3 J <| aA (bY J J J J J om J) J <| aA (dQ J J J) J <| Ua J J <| Wn <| aI (z := 6) J <| Um J J <| Um J J <| aA (mJ (cs := [_, _]) J J J J J) J <| aA (dJ (cs := [_, _]) (rows := [[_, _]]) J J (by decide) J J J) J <| fJ (te := ti28) (f := mc) (q := q) (us := ds) (u := (wI (ns.getD i default))) J J J J J (fun _ => rfl) (by decide) (by show (2 * (ds.length + 1) + 256) * 16 ≤ _; omega) om J J J <| Ua J J <| Wn <| aD <| aI (z := 2) J <| aA (cI (((i + 1 : Nat) : Int)) (aQ J J om) om) J <| Um J J <| Wn <| aH <| ⟨⟨i + 1, _, ds ++ [wI (ns.getD i default)]⟩, ⟨J, J, J, J, trivial⟩, dT, ⟨om, by rw [dX om, hds], by simp; omega⟩, by show ns.length - (i + 1) < ns.length - i; omega⟩
theorem fP  : Run Try.prog T E0 (.call 97 [.sl 0 [], .v (.int .i64 0)] (.tup [.sl 0 [], .sl 0 [], lvX (xint 1)])) := by
 refine bC Try.func97 J J (cW J) <| Rg 3 J <| Ua J J <| Ua J J <| bL (gM J) J <| Wn <| Rg 3 J <| Um J J <| aA (aE J (clone_nil) dD) J <| Ua J J <| Wn <| Rg 3 J <| aA (aE J (iX 1 (by unfold I64; omega)) dD) J <| bL (gM J) J <| bB (dH (cs' := [_, _, _, _]) J J J J J J J J) <| Wn <| Rg 1 J <| Ua J J <| Wn <| aC <| Rg 2 J <| Um J J <| Um J J <| cM ?_
 refine aG <| dF <| Rg 1 J <| aA (bS J J) J <| aW (fun h20 => ?_) (fun h20 => ?_)
 ·omega
 refine Wn <| aR J <| aT <| eY <| aN J <| cJ (z := 6) J kR <| Dm J J <| Dm J J <| aL (bF (l := .agg [_, _, _, _]) J J J J J) J <| aL (fV J) J <| aL (fV J) J <| dP (dH (cs' := [_, _, _, _]) J J J J J J J J) <| bT (bE kR) J <| Ck [4,5,6] J <| aK <| post (n := 0) (.inr J) J ?_ dD
 rfl
theorem oM (k : Nat) (a : List M1) (hI : IM a) (hF : Few8 a) (hne : 0 < a.length) : Run Try.prog T E0 (.call 31 [.sl k (a.map fM)] (lvRed a)) := by
 have l1 := hF.ln
 have l2 : ∀ r, r ∈ a → r.2.length < 1099511627776 := fun r hr => by have := hF.lr r hr; omega
 refine bC Try.func31 J J (cW J) <| Rg 2 J <| Ua J J <| Ua J J <| Wn <| aC <| Rg 3 J <| Um J J <| aA (aE J (bV k a hI om (fun r hr => by have := l2 r hr; omega)) dD) J <| dM (fun h8 => ?_) (fun h8 => ?_)
 rotate_left
 ·refine aA (bZ J) J <| Wn <| aV J <| aC <| Rg 2 J <| Ua J J <| Ua J J <| Wn <| bM <| post (n := 0) (.inr J) J ?_ dD
  rw [lvRed_no h8]; rfl
 refine aA (bZ J) J <| Wn <| aR J <| aF ?_
 obtain ⟨f1, f2⟩ := VM.facts h8
 have hvn : ∀ r, r ∈ a → ∀ x, x ∈ r.2 → VN x := fun r hr => (f2 r hr).2.2
 have hw8 := iG h8 hF
 have hl8 : (a.map nxr).length = a.length := by simp
 obtain ⟨r, hr, rows, d, rfl, hrows, hd⟩ := eU (a.map nxr) (wd a) (wd a) (by rw [hl8]; exact hne) (by rw [hl8]; omega) (by rw [eP a]; exact iJ h8) om om om (by rw [eP a]; exact iF h8)
 rw [eP a] at hrows hr
 refine Rg 13 J <| Um J J <| aA (aS (b := .sl 1 ((a.map nxr).map fX)) (aE J (cE k a om hI (fun r hr x hx => by have := (hvn r hr x hx).1; omega) l2) dD) (by rw [hl8, kd, if_neg om])) J <| Um J J <| aA (aE J (cN k a) dD) J <| aA (aE J (hr) dD) J <| Um J J <| aA (bU J J) J <| aA (bU J J) J <| aA (bU J J) J <| bL (gM J) J <| Ua J J <| Ua J J <| bB (dH (cs' := [_, _, _, _]) J J J g0 J J J J) <| Nk [4] J ?_
 have hrl : ∀ r, r ∈ rows → r.2.length < 1099511627776 := by
  intro r hr
  have GI := GInv.all (iF h8) (iJ h8) (wd a)
  have := GI.wid (r.2.map (·.1)) (by rw [← hrows]; exact List.mem_map.2 ⟨r, hr, rfl⟩)
  rw [List.length_map] at this; omega
 refine Rg 6 J <| Um J J <| aA (aS (b := lvOM (redO a)) (aE J (gT 1 rows (by rw [← bQ rows, hrows, cP]; simp [vM]; omega) hrl) dD) (by rw [iD, hrows]; rfl)) J <| aA (bU J J) J <| aA (bU J J) J <| Ua J J <| Ua J J <| Wn <| aK <| post (n := 0) (.inr J) J ?_ dD
 rw [lvRed_ok h8]; rfl
theorem mreduce_nil (k : Nat) : Run Try.prog T E0 (.call 31 [.sl k (([] : List M1).map fM)] (lvRed [])) := by
 refine bC Try.func31 J J (cW J) <| Rg 2 J <| Ua J J <| Ua J J <| Wn <| aC <| Rg 3 J <| Um J J <| aA (aS (b := .v (.bool true)) (aE J (bV k [] (by intro r hr; cases hr) (by decide) (by intro r hr; cases hr)) dD) J) J <| aA (bZ J) J <| Wn <| aR J <| aF <| Rg 13 J <| Um J J <| aA (aS (b := .sl 0 []) (aE J (cE k [] (by decide) (by intro r hr; cases hr) (by intro r hr; cases hr) (by intro r hr; cases hr)) dD) J) J <| Um J J <| aA (aE J (cN k []) dD) J <| aA (aE J (fP) dD) J <| Um J J <| aA (bU J J) J <| aA (bU J J) J <| aA (bU J J) J <| bL (gM J) J ?_
 refine Ua J J <| Ua J J <| bB (dH (cs' := [_, _, _, _]) J J J g0 J J J J) <| Nk [4] J <| Rg 6 J <| Um J J <| aA (aE J (gT 0 [] (by decide) (by intro r hr; cases hr)) dD) J <| aA (bU J J) J <| aA (bU J J) J <| Ua J J <| Ua J J <| Wn <| aK <| post (n := 0) (.inr J) J ?_ dD
 rfl
theorem mrank_run (k : Nat) (a : List M1) (hI : IM a) (hF : Few8 a) (hne : 0 < a.length) : Run Try.prog T E0 (.call 35 [.sl k (a.map fM)] (lvRank a)) := by
 have l1 := hF.ln
 have l2 : ∀ r, r ∈ a → r.2.length < 1099511627776 := fun r hr => by have := hF.lr r hr; omega
 refine bC Try.func35 J J (cW J) <| Rg 2 J <| Ua J J <| Ua J J <| Wn <| aC <| Rg 3 J <| Um J J <| aA (aE J (bV k a hI om (fun r hr => by have := l2 r hr; omega)) dD) J <| dM (fun h8 => ?_) (fun h8 => ?_)
 rotate_left
 ·refine aA (bZ J) J <| Wn <| aV J <| aC <| Rg 2 J <| Ua J J <| Ua J J <| Wn <| bM <| post (n := 0) (.inr J) J ?_ dD
  unfold lvRank rk; rw [h8, if_neg (by decide), if_neg (by decide)]; rfl
 refine aA (bZ J) J <| Wn <| aR J <| aF ?_
 obtain ⟨f1, f2⟩ := VM.facts h8
 have hvn : ∀ r, r ∈ a → ∀ x, x ∈ r.2 → VN x := fun r hr => (f2 r hr).2.2
 have hw8 := iG h8 hF
 have hl8 : (a.map nxr).length = a.length := by simp
 obtain ⟨r, hr, rows, d, rfl, hrows, hd⟩ := eU (a.map nxr) (wd a) (wd a) (by rw [hl8]; exact hne) (by rw [hl8]; omega) (by rw [eP a]; exact iJ h8) om om om (by rw [eP a]; exact iF h8)
 rw [eP a] at hrows hr
 refine Rg 13 J <| Um J J <| aA (aS (b := .sl 1 ((a.map nxr).map fX)) (aE J (cE k a om hI (fun r hr x hx => by have := (hvn r hr x hx).1; omega) l2) dD) (by rw [hl8, kd, if_neg om])) J <| Um J J <| aA (aE J (cN k a) dD) J <| aA (aE J (hr) dD) J <| Um J J <| aA (bU J J) J <| aA (bU J J) J <| aA (bU J J) J <| bL (gM J) J <| Ua J J <| Ua J J <| bB (dH (cs' := [_, _, _, _]) J J J g0 J J J J) <| Nk [5] J <| Rg 4 J <| Um J J <| aA (aX J J) J <| Ua J J <| Ua J J <| Wn <| aK <| post (n := 0) (.inr J) J ?_ dD
 show LV.tup [_, _] = lvRank a
 unfold lvRank rk; rw [if_pos h8, if_pos h8]
theorem mrank_nil (k : Nat) : Run Try.prog T E0 (.call 35 [.sl k (([] : List M1).map fM)] (lvRank [])) := by
 refine bC Try.func35 J J (cW J) <| Rg 2 J <| Ua J J <| Ua J J <| Wn <| aC <| Rg 3 J <| Um J J <| aA (aS (b := .v (.bool true)) (aE J (bV k [] (by intro r hr; cases hr) (by decide) (by intro r hr; cases hr)) dD) J) J <| aA (bZ J) J <| Wn <| aR J <| aF <| Rg 13 J <| Um J J <| aA (aS (b := .sl 0 []) (aE J (cE k [] (by decide) (by intro r hr; cases hr) (by intro r hr; cases hr) (by intro r hr; cases hr)) dD) J) J <| Um J J <| aA (aE J (cN k []) dD) J <| aA (aE J (fP) dD) J <| Um J J <| aA (bU J J) J <| aA (bU J J) J <| aA (bU J J) J <| bL (gM J) J ?_
 refine Ua J J <| Ua J J <| bB (dH (cs' := [_, _, _, _]) J J J g0 J J J J) <| Nk [5] J <| Rg 4 J <| Um J J <| aA (cI 0 (lH J J) J) J <| Ua J J <| Ua J J <| Wn <| aK <| post (n := 0) (.inr J) J ?_ dD
 rfl
end Go.Proofs.Ytcblgjaomljikaa
namespace Go.Proofs.Ytcblgjaomljikaa
open Go.Ab Go.RowKit
theorem jC (k : Nat) (row : List X) (hk : k ≠ 0) (hne : 0 < row.length) (ln : row.length < 1099511627776) : ∃ sz len ob, Run Try.prog T E0 (.callO 99 [.sl k (row.map xc)] (.ref 0 sz 0 len) ob) ∧ sz = 4 ∧ len = row.length ∧ ob = { cells := (row.map xc).flatten, sz := 4, elem := 114, st := 0 } := by
 refine mkcallO Try.func99 J J (cW J) <| Rg 1 J <| Ua J J <| Wn <| aC <| Rg 2 J <| Um J J <| aA (aS (b := .v (.bool false)) (kG J J) (by rw [beq_eq_false_iff_ne.2 hk])) J <| Wn <| aR J <| aF <| Rg 4 J <| aA (dJ (cs := []) (rows := []) J J (by decide) J J J) J <| Um J J <| bL (oApS (xs := []) (rows := row.map xc) J J J J J (by decide) (by simp) (bK (f := xc) (n := 4) (fun _ => rfl)) (by simpa using hne) (by rw [List.length_map]; show (2 * (0 + row.length) + 256) * 64 ≤ _; omega) (by rw [List.length_map]; show 0 + row.length < _; omega)) J <| Ua J J <| Wn <| aK <| ⟨4, row.length, { cells := (row.map xc).flatten, sz := 4, elem := 114, st := 0 }, ⟨rfl, rfl, rfl⟩, .inr J, _, congrArg some (congrArg (fun z => [LV.ref _ 4 0 z]) (show ([] : List (List LV)).length + (row.map xc).length = row.length by simp)), g0, rfl, rfl, ?_⟩
 intro c hc; obtain ⟨row, hr, hc⟩ := List.mem_flatten.1 hc; exact aU rD row hr c hc
theorem g113 : gjn [[(1 : Rat), 1, 3]] 2 = ([[1, 1, 3]], [0]) := by decide +kernel
theorem rows1 {α : Type} {f : α → List Rat} {rows : List α} {r : List Rat} (h : rows.map f = [r]) : ∃ a, rows = [a] ∧ f a = r := by
 match rows, h with
 | [a], h => exact ⟨a, rfl, by simpa using h⟩
theorem three {xs : List X} {a b c : Rat} (h : xs.map (·.1) = [a, b, c]) : ∃ x y z : X, xs = [x, y, z] ∧ z.1 = c := by
 match xs, h with
 | [x, y, z], h => simp at h; exact ⟨x, y, z, rfl, h.2.2⟩
theorem lin1_run (k k2 : Nat) (p q s : X) (hp : p.1 = 1) (hq : q.1 = 1) (hs : s.1 = 3) : ∃ r, Run Try.prog T E0 (.call 98 [.sl k ([((1 : Nat), [p, q])].map fX), .sl k2 ([s].map xc), .v (.int .i64 2)] r) ∧ ∃ xs : List X, r = .tup [.v (.int .i64 2), .sl 1 (xs.map xc)] ∧ xs.map (·.1) = [3, 0] := by
 obtain ⟨_, _, _, hr1, rfl, rfl, rfl⟩ := jC 1 [p, q] (by decide) (by simp) (by show 2 < _; decide)
 have hW : vX [((1 : Nat), [p, q, s])] = [[1, 1, 3]] := by simp [vX, hp, hq, hs]
 obtain ⟨r, hr, rows, d, rfl, hrows, _⟩ := eU [((1 : Nat), [p, q, s])] 2 3 (by simp) (by show 1 < _; decide) (by rw [hW]; intro a ha; simp at ha; subst ha; rfl) (by decide) (by decide) (by decide) (by
  rw [hW]; intro a ha x hx; simp at ha; subst ha
  have : x = 1 ∨ x = 3 := by simpa using hx
  rcases this with rfl | rfl
  ·exact Bd1.mono (by decide)
  ·exact ⟨eE (by decide), eE (by decide)⟩)
 rw [hW, g113] at hrows hr
 obtain ⟨⟨kr, ys⟩, rfl, hys⟩ := rows1 hrows
 obtain ⟨y0, y1, y2, rfl, hy2⟩ := three hys
 refine fO Try.func98 J J (cW J) <| Rg 2 J <| Ua J J <| Ua J J <| Wn <| Rg 1 J <| Ua J J <| Wn <| aC <| Rg 3 J <| Um J J <| aA (cI 1 (aX J J) J) J <| Um J J <| Wn <| aG <| dF <| Rg 1 J <| aA (bS J J) J <| aW (fun h22 => ?_) (fun h22 => ?_)
 rotate_left
 ·omega
 refine Wn <| aV J <| aF <| aG <| Rg 5 J <| Um J J <| aA (bY (f := fX) (us := [((1 : Nat), [p, q])]) (j := 0) J J J J J (by simp) J) J <| aA (aS (b := .sl 1 ([p, q].map xc)) (dQ J J J) J) J <| Ua J J <| Ua J J <| Nk [1,2,8,9,10,19,20,21] J <| dR (z := 12) J kR <| Dm J J <| Dm J J <| WD.S (qL J hr1 dD) J <| Dm J J <| Dm J J <| aL (bY (f := xc) (us := [s]) (j := 0) J J J J J (by simp) J) J <| aL (aS (b := lvX s) (dQ (l := .agg [_, _, _, _]) J J J) J) J <| aL (dJ (cs := [_, _, _, _]) (rows := [[_, _, _, _]]) J J (by decide) J J J) J <| WD.S (oApM (f := xc) (us := [p, q]) (u := s) J J J J J (fun _ => rfl) (by decide) g0 (by show (2 * (2 + 1) + 256) * 64 ≤ 2 ^ 48; decide) (by show 2 + 1 < 2 ^ 62; decide)) J <| aL (dJ (cs := [_]) (rows := [[_]]) J J (by decide) J J J) J <| WD.S (oApN J J J J J (by decide) (by intro r hr; simp at hr; subst hr; rfl) (Nat.lt_succ_self 0) (by show (2 * 1 + 256) * 24 ≤ 2 ^ 48; decide) (by show 1 < 2 ^ 62; decide)) J ?_
 refine aL (fV J) J <| bT (bE kR) J <| aD <| Ck [1,2,8,19,20,21] J <| aI (z := 2) J <| aA (cI 1 (aQ J J om) om) J <| Um J J <| Wn <| jK <| dF <| Rg 1 J <| aA (bS J J) J <| aW (fun h22 => ?_) (fun h22 => ?_)
 ·omega
 refine Wn <| aR J <| aT <| eY <| aN J <| Rg 11 J <| Um J J <| Um J J <| bL (hH [.sl 1 ([((1 : Nat), [p, q, s])].map fX), .v (.int .i64 2)] [((0 + 2 + 1 + 3 + 1 + 5 + 10), { cells := [LV.ref (0 + 2 + 1 + 3 + 1 + 5 + 8) 4 0 3], sz := 1, elem := 108, st := 1 }), ((0 + 2 + 1 + 3 + 1 + 5 + 8), { cells := ([p, q, s].map xc).flatten, sz := 4, elem := 114, st := 1 })] J hr (.rows (f := xc) [((0 + 2 + 1 + 3 + 1 + 5 + 8), [p, q, s])] (by decide) (fun _ => rfl) rD J (by simp [keys]) (by intro r hr; rw [List.mem_singleton] at hr; subst hr; exact ⟨rfl, by simp [keys]⟩) (.data (.v _) .nil)) (by intro r hr; rcases List.mem_cons.1 hr with hr | hr; subst hr; exact ⟨_, rfl, by show (0 : Nat) ≠ 2; decide, rfl⟩; rw [List.mem_singleton] at hr; subst hr; exact ⟨_, rfl, by show (0 : Nat) ≠ 2; decide, rfl⟩)) J <| Um J J <| aA (bU J J) J <| aA (bU J J) J <| aA (bU J J) J <| bL (gM J) J <| Ua J J <| Ua J J <| bB (dH (cs' := [_, _, _, _]) J J J J J J J J) <| Nk [2,11,12] J <| aC <| Rg 6 J <| Um J J <| Um J J <| aA (cI 1 (aX J J) J) J ?_
 refine aA (aS (b := .sl 1 []) (oSlLo (i := 1) J J J (bK (f := fX) (n := 1) (fun _ => rfl)) J J (by simp)) J) J <| aA (cI 0 (lH J J) J) J <| Um J J <| Wn <| aG <| dF <| Rg 1 J <| aA (bS J J) J <| aW (fun h51 => ?_) (fun h51 => ?_)
 ·omega
 refine Wn <| aR J <| aT <| eY <| aN J <| Rg 3 J <| Um J J <| bL (oMk (a := 2) (b := 2) J J J J J J (by decide) (by decide) (by decide) (by decide)) J <| Ua J J <| Wn <| aC <| Rg 3 J <| Um J J <| aA (cI 1 (aX J J) J) J <| Um J J <| Nk [2,11,12,16,63,64,65] J <| aG <| dF <| Rg 1 J <| aA (bS J J) J <| aW (fun h66 => ?_) (fun h66 => ?_)
 rotate_left
 ·omega
 refine Wn <| aV J <| aF <| aG <| Rg 5 J <| Um J J <| aA (bY (f := d64) (us := [0]) (j := 0) J J J J J (by simp) J) J <| aA (cI 0 (dQ J J J) J) J <| Ua J J <| Ua J J <| Wn <| aI (z := 11) J <| Um J J <| Um J J <| Um J J <| Um J J <| aA (bY (f := fX) (us := [(kr, [y0, y1, y2])]) (j := 0) J J J J J (by simp) J) J <| aA (aS (b := .sl kr ([y0, y1, y2].map xc)) (dQ J J J) J) J <| Um J J <| aA (bY (f := xc) (us := [y0, y1, y2]) (j := 2) J J J J J (by simp) J) J <| aA (aS (b := lvX y2) (dQ (l := .agg [_, _, _, _]) J J J) J) J <| aA (cC (j := 0) J J J J om om J) J <| bB (eA (f := xc) (us := [x0, x0]) (j := 0) y2 J J J g0 (fun _ => rfl) J J (by decide) J) <| cM ?_
 refine aD <| Ck [2,11,12,16,63,64,65] J <| aI (z := 2) J <| aA (cI 1 (aQ J J om) om) J <| Um J J <| Wn <| jK <| dF <| Rg 1 J <| aA (bS J J) J <| aW (fun h66 => ?_) (fun h66 => ?_)
 ·omega
 refine Wn <| aR J <| aT <| eY <| aN J <| aC <| Rg 4 J <| Um J J <| aA (cI 1 (aX J J) J) J <| Um J J <| aA (bS J J) J <| aW (fun h84 => ?_) (fun h84 => ?_)
 rotate_left
 ·omega
 refine Wn <| aV J <| aC <| Rg 3 J <| Um J J <| Ua J J <| Ua J J <| Nk [6,7] J <| bM <| ⟨.tup [.v (.int .i64 2), .sl 1 ([y2, x0].map xc)], ⟨[y2, x0], rfl, by simp [hy2]; rfl⟩, ?_⟩
 exact mM (n := 0) [((0 + 2 + 1 + 3 + 1 + 5 + 12 + 2 + 1 + 11 + 6 + 1 + 1), { cells := ([y2, x0].map xc).flatten, sz := 4, elem := 114, st := 1 })] (.inr J) J (.data (.v _) (.own (ob := { cells := ([y2, x0].map xc).flatten, sz := 4, elem := 114, st := 0 }) _ (by simp) g0 (by show (0 : Nat) ≠ 2; decide) J (by decide) (List.mem_singleton.2 J) J (bK (n := 4) (fun _ => rfl)) (aU rD) .nil)) (by intro p hp; rw [List.mem_singleton] at hp; subst hp; exact ⟨_, rfl, by show (0 : Nat) ≠ 2; decide, rfl⟩)
theorem v11 : VM [((1 : Nat), [wI 1, wI 1])] = true := by decide +kernel
theorem vb3 : VV [wI 3] = true := by decide +kernel
theorem i64w (ns : List Int) (h : ∀ n, n ∈ ns → I64 n) : IV (ns.map wI) := by
 intro a ha; obtain ⟨n, hn, rfl⟩ := List.mem_map.1 ha; exact ⟨h n hn, by show I64 1; unfold I64; omega⟩
theorem im11 : IM [((1 : Nat), [wI 1, wI 1])] := by
 intro r hr; rw [List.mem_singleton] at hr; subst hr
 exact i64w [1, 1] (by intro n hn; simp at hn; unfold I64; omega)
theorem nx_1 : (nx (wI 1)).1 = 1 := by decide +kernel
theorem nx_3 : (nx (wI 3)).1 = 3 := by decide +kernel
theorem nz11 : ∀ r : M1, r ∈ [((1 : Nat), [wI 1, wI 1])] → ∀ x, x ∈ r.2 → x.2 ≠ 0 := by
 intro r hr x hx; rw [List.mem_singleton] at hr; subst hr
 have : x = wI 1 := by simpa using hx
 subst this; decide
theorem outs30 {xs : List X} (h : xs.map (·.1) = [3, 0]) : (xs.mapM fun x => outN x.1) = some [wI 3, wI 0] := by
 have := fW outN (fun x : X => x.1) xs
 rw [← this, h]; decide +kernel
theorem sol1_run (k k2 k3 : Nat) : Run Try.prog T E0 (.call 32 [.sl k ([((1 : Nat), [wI 1, wI 1])].map fM), .sl k2 ([wI 3].map mc)] (.tup [.v (.int .i64 2), .sl 1 ([wI 3, wI 0].map mc), .v (.int .i64 0)])) := by
 obtain ⟨r, hr, xs, rfl, hxs⟩ := lin1_run 1 1 (nx (wI 1)) (nx (wI 1)) (nx (wI 3)) nx_1 nx_1 nx_3
 refine bC Try.func32 J J (cW J) <| Rg 3 J <| Ua J J <| Ua J J <| Ua J J <| Wn <| aG <| Rg 9 J <| Um J J <| aA (aS (b := .v (.bool true)) (aE J (bV k [((1 : Nat), [wI 1, wI 1])] im11 (by simp) (by intro r hr; rw [List.mem_singleton] at hr; subst hr; simp)) dD) (by rw [v11])) J <| aA (bZ J) J <| Um J J <| aJ J (cR J) J <| aJ J (aS (b := .v (.bool true)) (aE J (lU k2 [wI 3] (i64w [3] (by intro n hn; simp at hn; unfold I64; omega)) (by simp)) dD) (by rw [vb3])) J <| aJ J (bZ J) J <| aA (cD J J) J <| Ua J J <| Wn <| bH J <| Rg 6 J <| Um J J <| aA (cI 1 (aX J J) J) J <| Um J J <| aA (cI 1 (aX J J) J) J ?_
 refine aA (eG J J) J <| aW (fun h25 => ?_) (fun h25 => ?_)
 ·exact absurd J h25
 refine Ua J J <| Nk [0,1,20] J <| bH J <| bJ <| aD <| Rg 12 J <| Um J J <| aA (aS (b := .sl 1 ([((1 : Nat), [nx (wI 1), nx (wI 1)])].map fX)) (aE J (cE k [((1 : Nat), [wI 1, wI 1])] (by simp) im11 nz11 (by intro r hr; rw [List.mem_singleton] at hr; subst hr; simp)) dD) J) J <| Um J J <| aA (aS (b := .sl 1 ([nx (wI 3)].map xc)) (aE J (fZ k2 [wI 3] (by simp) (i64w [3] (by intro n hn; simp at hn; unfold I64; omega)) (by intro x hx; rw [List.mem_singleton] at hx; subst hx; decide)) dD) J) J <| Um J J <| aA (cI 2 (aE J (cN k [((1 : Nat), [wI 1, wI 1])]) dD) J) J <| aA (aE J (hr) dD) J <| Um J J <| aA (bU J J) J <| aA (bU J J) J <| Ua J J <| Ua J J <| Nk [7,8] J <| Rg 7 J <| Um J J <| aA (aS (b := .tup [.sl 1 ([wI 3, wI 0].map mc), .v (.int .i64 0)]) (aE J (iS 1 xs (by have := congrArg List.length hxs; simp at this; omega)) dD) (by rw [outs30 hxs]; rfl)) J ?_
 refine Um J J <| aA (bU J J) J <| aA (bU J J) J <| Ua J J <| Ua J J <| Wn <| aC <| Rg 2 J <| Um J J <| aA (eG J J) J <| aW (fun h42 => ?_) (fun h42 => ?_)
 ·exact absurd J h42
 refine Wn <| aR J <| aF <| Rg 5 J <| Um J J <| Um J J <| Ua J J <| Ua J J <| Ua J J <| Nk [4,5,6] J <| aK <| post (n := 0) (.inr J) J ?_ dD
 rfl
theorem red1 : lvRed [(1, [wI 2, wI 4, wI 6]), (1, [wI 1, wI 2, wI 4])] = .tup [.sl 1 ([(1, [wI 1, wI 2, wI 0]), (1, [wI 0, wI 0, wI 1])].map fM), .v (.int .i64 0)] := by
 have h1 : VM [(1, [wI 2, wI 4, wI 6]), (1, [wI 1, wI 2, wI 4])] = true := by decide +kernel
 have h2 : redO [(1, [wI 2, wI 4, wI 6]), (1, [wI 1, wI 2, wI 4])] = some [[wI 1, wI 2, wI 0], [wI 0, wI 0, wI 1]] := by decide +kernel
 rw [lvRed_ok h1, h2]; rfl
theorem imEx : IM [(1, [wI 2, wI 4, wI 6]), (1, [wI 1, wI 2, wI 4])] := by
 intro r hr
 rcases List.mem_cons.1 hr with rfl | hr
 ·exact i64w [2, 4, 6] (by intro n hn; simp at hn; unfold I64; omega)
 ·rw [List.mem_singleton] at hr; subst hr; exact i64w [1, 2, 4] (by intro n hn; simp at hn; unfold I64; omega)
theorem f8Ex : Few8 [(1, [wI 2, wI 4, wI 6]), (1, [wI 1, wI 2, wI 4])] := few8 (by decide +kernel)
theorem awake_run  : Run Try.prog T E0 (.call 25 [] (.v (.bool true))) := by
 refine bC Try.func25 J J (cW J) <| Rg 1 J <| Ua J J <| Wn <| Rg 11 J <| aA (dJ (cs := [_, _, _]) (rows := [[_], [_], [_]]) J J (by decide) J J J) J <| aA (aS (b := .sl 1 ([wI 2, wI 4, wI 6].map mc)) (aE J (fE 2 [2, 4, 6] (by simp)) dD) J) J <| aA (dJ (cs := [_, _, _]) (rows := [[_], [_], [_]]) J J (by decide) J J J) J <| aA (aS (b := .sl 1 ([wI 1, wI 2, wI 4].map mc)) (aE J (fE 2 [1, 2, 4] (by simp)) dD) J) J <| aA (aS (b := .sl 2 ([(1, [wI 2, wI 4, wI 6]), (1, [wI 1, wI 2, wI 4])].map fM)) (dJ (cs := [_, _]) (rows := [[_], [_]]) J J (by decide) J J J) J) J <| aA (aS (b := .tup [.sl 1 ([(1, [wI 1, wI 2, wI 0]), (1, [wI 0, wI 0, wI 1])].map fM), .v (.int .i64 0)]) (aE J (oM 2 [(1, [wI 2, wI 4, wI 6]), (1, [wI 1, wI 2, wI 4])] imEx f8Ex (by decide)) dD) red1) J <| Um J J <| aA (bU J J) J <| aA (bU J J) J <| Ua J J <| Ua J J <| Wn <| Rg 13 J <| aA (dJ (cs := [_, _]) (rows := [[_], [_]]) J J (by decide) J J J) J <| aA (aS (b := .sl 1 ([wI 1, wI 1].map mc)) (aE J (fE 2 [1, 1] (by simp)) dD) J) J <| aA (aS (b := .sl 2 ([((1 : Nat), [wI 1, wI 1])].map fM)) (dJ (cs := [_]) (rows := [[_]]) J J (by decide) J J J) J) J <| aA (dJ (cs := [_]) (rows := [[_]]) J J (by decide) J J J) J <| aA (aS (b := .sl 1 ([wI 3].map mc)) (aE J (fE 2 [3] (by simp)) dD) J) J <| aA (aE J (sol1_run 2 1 0) dD) J ?_
 refine Um J J <| aA (bU J J) J <| aA (bU J J) J <| aA (bU J J) J <| Ua J J <| Ua J J <| Ua J J <| Nk [1,2,3,4,5] J <| Rg 26 J <| Um J J <| aA (fR J J) J <| aW (fun h26 => ?_) (fun h26 => ?_)
 rotate_left
 ·exact absurd J h26
 refine Um J J <| aJ J (cR J) J <| aJ J (dJ (cs := [_, _, _]) (rows := [[_], [_], [_]]) J J (by decide) J J J) J <| aJ J (aS (b := .sl 1 ([wI 1, wI 2, wI 0].map mc)) (aE J (fE 2 [1, 2, 0] (by simp)) dD) J) J <| aJ J (dJ (cs := [_, _, _]) (rows := [[_], [_], [_]]) J J (by decide) J J J) J <| aJ J (aS (b := .sl 1 ([wI 0, wI 0, wI 1].map mc)) (aE J (fE 2 [0, 0, 1] (by simp)) dD) J) J <| aJ J (aS (b := .sl 2 ([(1, [wI 1, wI 2, wI 0]), (1, [wI 0, wI 0, wI 1])].map fM)) (dJ (cs := [_, _]) (rows := [[_], [_]]) J J (by decide) J J J) J) J <| aJ J (aE J (msame_run 1 2 [(1, [wI 1, wI 2, wI 0]), (1, [wI 0, wI 0, wI 1])] (by decide) (by intro r hr; simp at hr; rcases hr with rfl | rfl <;> decide)) dD) J <| aA (cG J J) J <| Um J J <| aJ J (cR J) J <| aJ J (fR J J) J <| aW (fun h38 => ?_) (fun h38 => ?_)
 rotate_left
 ·exact absurd J h38
 refine aA (cG J J) J <| Um J J <| aJ J (cR J) J <| aJ J (fR J J) J <| aW (fun h42 => ?_) (fun h42 => ?_)
 rotate_left
 ·exact absurd J h42
 refine aA (cG J J) J <| Um J J <| aJ J (cR J) J <| aJ J (dJ (cs := [_, _]) (rows := [[_], [_]]) J J (by decide) J J J) J <| aJ J (aS (b := .sl 1 ([wI 3, wI 0].map mc)) (aE J (fE 2 [3, 0] (by simp)) dD) J) J <| aJ J (aE J (gU 1 1 [wI 3, wI 0] (by decide)) dD) J <| aA (cG J J) J <| Ua J J <| Nk [0] J <| aK <| post (n := 0) (.inr J) J ?_ dD
 rfl
theorem qH : Run Try.prog T E0 (.call 25 [] (.v (.bool true))) := awake_run
end Go.Proofs.Ytcblgjaomljikaa
namespace Go.Proofs.Ytcblgjaomljikaa
open Go.Ab Go.RowKit
theorem lK  : Run Try.prog T E0 (.call 99 [.sl 0 []] (.sl 0 [])) := by
 refine bC Try.func99 J J (cW J) <| Rg 1 J <| Ua J J <| Wn <| aC <| Rg 2 J <| Um J J <| aA (kG J J) J <| Wn <| aV J <| aC <| Rg 1 J <| Ua J J <| Wn <| bM ?_
 exact post (n := 0) (.inr J) J J (by simp)
theorem oK (al : List X1) (kb : Nat) (bl : List X) (w : Nat) (hne : 0 < al.length) (ln : al.length < 100000) (hw : ∀ r, r ∈ al → r.2.length = w) (hk : ∀ r, r ∈ al → r.1 = kd r.2.length) (hbl : bl.length = al.length) (hw9 : w ≤ 9) (hba : BdL 2 (vX al)) (hbb : ∀ x, x ∈ bl → Bd 2 x.1) : ∃ r, Run Try.prog T E0 (.call 98 [.sl 1 (al.map fX), .sl kb (bl.map xc), .v (.int .i64 (w : Int))] r) ∧ (if nosol (gjn (wR (vX al) (bl.map (·.1))) w) w = true then r = .tup [.v (.int .i64 0), .sl 0 []] else ∃ xs : List X, r = .tup [.v (.int .i64 (solk (gjn (wR (vX al) (bl.map (·.1))) w) w)), .sl 1 (xs.map xc)] ∧ xs.map (·.1) = solv (gjn (wR (vX al) (bl.map (·.1))) w) w (gjn (wR (vX al) (bl.map (·.1))) w).2.length) := by
 refine fO Try.func98 J J (cW J) <| Rg 2 J <| Ua J J <| Ua J J <| Wn <| Rg 1 J <| Ua J J <| Wn <| aC <| Rg 3 J <| Um J J <| aA (aX J J) J <| Um J J <| Wn <| aG <| aY (α := Nat × Nat × (List X1)) (fun ⟨i, q, ds⟩ => [(1, .sl kb (bl.map xc)), (2, .v (.int .i64 (w : Int))), (8, outV q 1 (ds.map fX)), (19, .sl 1 (al.map fX)), (20, .v (.int .i64 (al.length : Int))), (21, .v (.int .i64 (i : Int)))]) (fun ⟨i, q, ds⟩ => outH q 1 108 (ds.map fX) []) (fun ⟨i, q, ds⟩ n => i ≤ al.length ∧ ds = (List.range i).map (wX al bl) ∧ ds.length = i ∧ q < n) (fun ⟨i, q, ds⟩ => al.length - i) (0, 0, []) ⟨J, J, J, J, J, J, trivial⟩ trivial ⟨Nat.zero_le _, rfl, rfl, om⟩ ?_
 rintro ⟨i, q, ds⟩ n hF
 change WC _ _ _ _ _ (_ :: _) (outH _ _ _ _ _) n _
 obtain ⟨hi, hds, hdl, hq⟩ := hF
 refine Rg 1 J <| aA (bS J J) J <| aW (fun h22 => ?_) (fun h22 => ?_)
 ·refine Wn <| aV J <| aF <| aG <| Rg 5 J <| Um J J <| aA (bY J J J J J om J) J <| aA (dQ J J J) J <| Ua J J <| Ua J J <| cM ?_
  have hm := bD (us := al) (i := i) om
  have hrw := hw _ hm
  have hrk := hk _ hm
  have hc0 : ((al.getD i default).2.map xc) = [] → Run Try.prog T E0 (.call 99 [.sl (al.getD i default).1 ((al.getD i default).2.map xc)] (.sl 0 [])) := fun h => by
   rw [hrk, xc_nil h]; exact lK
  have hc1 : ((al.getD i default).2.map xc) ≠ [] → Run Try.prog T E0 (.callO 99 [.sl (al.getD i default).1 ((al.getD i default).2.map xc)] (.ref 0 4 0 ((al.getD i default).2.map xc).length) { cells := ((al.getD i default).2.map xc).flatten, sz := 4, elem := 114, st := 0 }) := fun h => by
   have h2 : 0 < (al.getD i default).2.length := by
    rcases Nat.eq_zero_or_pos (al.getD i default).2.length with h3 | h3
    ·exact absurd (by rw [List.length_eq_zero_iff.1 h3]; rfl) h
    ·exact h3
   obtain ⟨_, _, _, h4, rfl, rfl, rfl⟩ := jC (al.getD i default).1 (al.getD i default).2 (by rw [hrk, kd, if_neg om]; decide) h2 om
   rw [List.length_map]; exact h4
  refine nD (z := 12) J kR <| Dm J J <| Dm J J <| pO (us := (al.getD i default).2.map xc) (sz := 4) (el := 114) J hc0 hc1 dD J <| Dm J J <| Dm J J <| aL (bY J J J J J om J) J <| aL (dQ (l := .agg [_, _, _, _]) J J J) J <| aL (dJ (cs := [_, _, _, _]) (rows := [[_, _, _, _]]) J J (by decide) J J J) J <| pN (te := ti114) (k0 := 0) (us := (al.getD i default).2.map xc) (rows := [xc (bl.getD i default)]) (.inl J) J J J J J (by decide) (by intro r hr; rw [List.mem_singleton] at hr; subst hr; rfl) (bK (n := 4) (fun _ => rfl)) (by simp) (by rw [List.length_map, hrw]; show (2 * (w + 1) + 256) * 64 ≤ _; omega) (by rw [List.length_map, hrw]; show w + 1 < _; omega) (aM om J) J <| aL (dJ (cs := [_]) (rows := [[_]]) J J (by decide) J J J) J <| lV _ (nS om) <| pN (te := ti108) (k0 := 0) (us := ds.map fX) (rows := [[_]]) (.inl J) J J J (by rw [kX]; rfl) J (by decide) (by intro r hr; rw [List.mem_singleton] at hr; subst hr; rfl) (bK (n := 1) (fun _ => rfl)) (by simp) (by rw [List.length_map]; show (2 * (ds.length + 1) + 256) * 24 ≤ _; omega) (by rw [List.length_map]; show ds.length + 1 < _; omega) (g1 om J) J <| aL (fV J) J <| bT (lL (rn n) (by simp only [List.reverse_cons, List.reverse_nil, List.nil_append, List.cons_append, List.map_cons, List.map_nil, ren, Nat.add_assoc, rn_add, rn_lt hq]; kernel_rfl)) J <| Fz.rows (d := 8) ds (wX al bl i) (ys := ((al.getD i default).2 ++ [bl.getD i default]).map xc) [(1, _), (2, _), (19, _), (20, _), (21, _)] ⟨J, J, J, J, J, trivial⟩ J (by simp) J om (by simp) (by decide) (by simp) (bK (n := 4) (fun _ => rfl)) (aU rD) <| aD <| aI (z := 2) J <| aA (cI (((i + 1 : Nat) : Int)) (aQ J J om) om) J <| Um J J <| Wn <| aH <| ⟨⟨i + 1, _, ds ++ [wX al bl i]⟩, ⟨J, J, J, J, J, J, trivial⟩, dT, ⟨om, by rw [List.range_succ, List.map_append, hds]; rfl, by simp; omega, om⟩, by show al.length - (i + 1) < al.length - i; omega⟩
 refine Wn <| aR J <| aT <| aP <| aN J ?_
 obtain ⟨d0, dt, rfl⟩ : ∃ d0 dt, ds = d0 :: dt := by
  cases ds with
  | nil => simp at hdl; omega
  | cons d dt => exact ⟨d, dt, rfl⟩
 obtain rfl : i = al.length := by omega
 have hvw : vX (d0 :: dt) = (wR (vX al) (bl.map (·.1))) := by rw [hds]; exact vX_w al bl
 have hwid : Wid (w + 1) (wR (vX al) (bl.map (·.1))) := wR_wid (fun r hr => by obtain ⟨s, hs, rfl⟩ := List.mem_map.1 hr; rw [List.length_map]; exact hw s hs)
 have hbd : BdL 2 (wR (vX al) (bl.map (·.1))) := wR_bd (by simp [vX]; omega) hba (fun x hx => by obtain ⟨y, hy, rfl⟩ := List.mem_map.1 hx; exact hbb y hy)
 obtain ⟨r, hr, rows, d, rfl, hrows, _⟩ := eU (d0 :: dt) w (w + 1) (by simp) om (by rw [hvw]; exact hwid) om om om (by rw [hvw]; exact hbd)
 rw [hvw] at hr hrows
 obtain ⟨_, gw, gl, gc⟩ := GInv.all hbd hwid w
 have hrl : rows.length = al.length := by
  have := congrArg List.length hrows
  rw [cP, wR_len] at this; simpa [vX] using this
 rw [wR_len] at gl
 have gl : (gjn (wR (vX al) (bl.map (·.1))) w).2.length ≤ rows.length := by simpa [vX, hrl] using gl
 generalize gjn (wR (vX al) (bl.map (·.1))) w = S at *
 have hwr := iK gw hrows
 refine Rg 11 J <| Um J J <| Um J J <| bL (hH [.sl 1 ((d0 :: dt).map fX), .v (.int .i64 (w : Int))] [(q, { cells := ((d0 :: dt).map fX).flatten, sz := 1, elem := 108, st := 1 })] J hr (.own (ob := { cells := ((d0 :: dt).map fX).flatten, sz := 1, elem := 108, st := 0 }) ((d0 :: dt).map fX) (by simp) g0 (by show (0 : Nat) ≠ 2; decide) J (by decide) (by simp [keys]) J (bK (n := 1) (fun _ => rfl)) (aU dfX) (.data (.v _) .nil)) (by intro p hp; rw [List.mem_singleton] at hp; subst hp; exact ⟨_, g0, by show (0 : Nat) ≠ 2; decide, rfl⟩)) J <| Um J J <| aA (bU J J) J <| aA (bU J J) J <| aA (bU J J) J <| bL (gM J) J <| Ua J J <| Ua J J <| bB (dH (cs' := [_, _, _, _]) J J J g0 J J J J) <| Nk [2,11,12] J <| aC <| Rg 6 J <| Um J J <| Um J J <| aA (aX J J) J <| aA (aS (b := .sl 1 ((rows.drop S.2.length).map fX)) (oSlLo (i := S.2.length) J J J (bK (f := fX) (n := 1) (fun _ => rfl)) J J (by rw [List.length_map]; omega)) (by rw [List.map_drop])) J <| aA (aX J J) J <| Um J J <| Wn <| aG ?_
 refine aY (α := Nat) (fun i => [(2, .v (.int .i64 (w : Int))), (11, .sl 1 (rows.map fX)), (12, .sl (kd S.2.length) (S.2.map d64)), (48, .sl 1 ((rows.drop S.2.length).map fX)), (49, .v (.int .i64 ((rows.drop S.2.length).length : Int))), (50, .v (.int .i64 (i : Int)))]) (fun i => []) (fun i n => i ≤ (rows.drop S.2.length).length ∧ ∀ k, S.2.length ≤ k → k < S.2.length + i → ent S.1 k w = 0) (fun i => (rows.drop S.2.length).length - i) (0) ⟨J, J, J, J, J, J, trivial⟩ trivial ⟨Nat.zero_le _, by intro k h1 h2; omega⟩ ?_
 rintro i n hF
 change WC _ _ _ _ _ (_ :: _) ([]) n _
 obtain ⟨hi2, hz⟩ := hF
 refine Rg 1 J <| aA (bS J J) J <| aW (fun h51 => ?_) (fun h51 => ?_)
 ·refine Wn <| aV J <| aF <| aG <| Rg 3 J <| aA (bY J J J J J om J) J <| aA (dQ J J J) J <| Ua J J <| cM ?_
  have hdm : S.2.length + i < rows.length := by rw [List.length_drop] at h51; omega
  have hrl2 : (((rows.drop S.2.length).getD i default).2).length = w + 1 := by rw [dropD]; exact hwr _ (bD hdm)
  have he : ent S.1 (S.2.length + i) w = (((rows.drop S.2.length).getD i default).2.getD w default).1 := by rw [← hrows, ent_vX hdm, dropD]
  refine Rg 6 J <| Um J J <| Um J J <| aA (bY (j := w) J J J J om om J) J <| aA (dQ (l := .agg [_, _, _, _]) J J J) J <| aA (aE J (gA (((rows.drop S.2.length).getD i default).2.getD w default)) dD) J <| aA (eG J J) J <| aW (fun h59 => ?_) (fun h59 => ?_)
  ·refine Nk [2,11,12,48,49,50,59] J <| bI J <| Rg 2 J <| Ua J J <| Ua J J <| Wn <| aK <| aO <| cZ <| aO ?_
   have hsl : S.1.length = rows.length := by rw [← hrows]; simp [vX]
   have hns : nosol S w = true := nosol_yes (k := S.2.length + i) om om (by rw [he]; intro h0; exact h59 (eM.2 h0))
   exact ⟨.tup [.v (.int .i64 0), .sl 0 []], by rw [if_pos hns], post (n := 0) (.inr J) J J dD⟩
  refine Nk [2,11,12,48,49,50,59] J <| bH J <| bJ <| aD <| aI (z := 2) J <| aA (cI (((i + 1 : Nat) : Int)) (aQ J J om) om) J <| Um J J <| Wn <| aH <| ⟨i + 1, ⟨J, J, J, J, J, J, trivial⟩, trivial, ⟨om, fun k h1 h2 => ?_⟩, by show (rows.drop S.2.length).length - (i + 1) < (rows.drop S.2.length).length - i; omega⟩
  by_cases hk : k < S.2.length + i
  ·exact hz k h1 hk
  ·obtain rfl : k = S.2.length + i := by omega
   rw [he]; exact eM.1 om
 refine Wn <| aR J <| aT <| aP <| aN J ?_
 have hns : nosol S w = false := by
  have hsl : S.1.length = rows.length := by rw [← hrows]; simp [vX]
  rw [List.length_drop] at h51 hi2
  exact nosol_no om (fun k h1 h2 => hz k h1 om)
 refine Rg 3 J <| Um J J <| bL (oMk (a := w) (b := w) J J J J om om (by decide) om (by show 64 * w ≤ _; omega) om) J <| Ua J J <| Wn <| aC <| Rg 3 J <| Um J J <| aA (aX J J) J <| Um J J <| Wn <| aG <| aY (α := Nat × Nat × (List X)) (fun ⟨i, q2, xs⟩ => [(2, .v (.int .i64 (w : Int))), (11, .sl 1 (rows.map fX)), (12, .sl (kd S.2.length) (S.2.map d64)), (16, .ref q2 4 0 w), (63, .sl (kd S.2.length) (S.2.map d64)), (64, .v (.int .i64 (S.2.length : Int))), (65, .v (.int .i64 (i : Int)))]) (fun ⟨i, q2, xs⟩ => [(q2, { cells := (xs.map xc).flatten, sz := 4, elem := 114, st := 0 })]) (fun ⟨i, q2, xs⟩ n => i ≤ S.2.length ∧ xs.length = w ∧ xs.map (·.1) = solv S w i) (fun ⟨i, q2, xs⟩ => S.2.length - i) (0, _, List.replicate w x0) ⟨J, J, J, J, J, J, J, trivial⟩ ⟨g0.trans (by rw [List.map_replicate]; rfl), trivial⟩ ⟨Nat.zero_le _, by simp, by rw [List.map_replicate]; rfl⟩ ?_
 rintro ⟨i, q2, xs⟩ n hF
 change WC _ _ _ _ _ (_ :: _) (_ :: _) n _
 obtain ⟨hi4, hxl, hxs⟩ := hF
 refine Rg 1 J <| aA (bS J J) J <| aW (fun h66 => ?_) (fun h66 => ?_)
 ·refine Wn <| aV J <| aF <| aG <| Rg 5 J <| Um J J <| aA (bY J J J J J om J) J <| aA (dQ J J J) J <| Ua J J <| Ua J J <| cM ?_
  have hld := gc _ (bD (us := S.2) (i := i) om)
  have hrl4 : ((rows.getD i default).2).length = w + 1 := hwr _ (bD om)
  have he4 : ent S.1 i w = ((rows.getD i default).2.getD w default).1 := by rw [← hrows, ent_vX om]
  refine aI (z := 11) J <| Um J J <| Um J J <| Um J J <| Um J J <| aA (bY J J J J J om J) J <| aA (dQ J J J) J <| Um J J <| aA (bY (j := w) J J J J om om J) J <| aA (dQ (l := .agg [_, _, _, _]) J J J) J <| aA (cC J J J J J om J) J <| bB (eA (f := xc) (us := xs) ((rows.getD i default).2.getD w default) J J J g0 (fun _ => rfl) J J om J) <| Wn <| aD <| Ck [2,11,12,16,63,64,65] J <| aI (z := 2) J <| aA (cI (((i + 1 : Nat) : Int)) (aQ J J om) om) J <| Um J J <| Wn <| aH <| ⟨⟨i + 1, _, xs.set (S.2.getD i default) ((rows.getD i default).2.getD w default)⟩, ⟨J, J, J, J, J, J, J, trivial⟩, ⟨g0, trivial⟩, ⟨om, by rw [List.length_set]; exact hxl, ?_⟩, by show S.2.length - (i + 1) < S.2.length - i; omega⟩
  rw [List.map_set, hxs, solv, he4]
 refine Wn <| aR J <| aT <| aP <| aN J <| aC ?_
 have hxs' : xs.map (·.1) = solv S w S.2.length := by rw [hxs, show i = S.2.length by omega]
 refine Rg 4 J <| Um J J <| aA (aX J J) J <| Um J J <| aA (bS J J) J <| aW (fun h84 => ?_) (fun h84 => ?_)
 ·refine Wn <| aV J <| aC <| Rg 3 J <| Um J J <| Ua J J <| Ua J J <| Nk [6,7] J <| bM <| ⟨.tup [.v (.int .i64 2), .sl 1 (xs.map xc)], by rw [if_neg (by rw [hns]; decide)]; exact ⟨xs, by unfold solk; rw [if_pos om], hxs'⟩, ?_⟩
  exact mM (n := 0) [(q2, { cells := (xs.map xc).flatten, sz := 4, elem := 114, st := 1 })] (.inr J) J (.data (.v _) (.own (ob := { cells := (xs.map xc).flatten, sz := 4, elem := 114, st := 0 }) _ (by rw [List.length_map, hxl]) g0 (by show (0 : Nat) ≠ 2; decide) J (by decide) (List.mem_singleton.2 J) J (bK (n := 4) (fun _ => rfl)) (aU rD) .nil)) (by intro p hp; rw [List.mem_singleton] at hp; subst hp; exact ⟨_, g0, by show (0 : Nat) ≠ 2; decide, rfl⟩)
 refine Wn <| aR J <| aF <| Rg 3 J <| Um J J <| Ua J J <| Ua J J <| Nk [6,7] J <| aK <| ⟨.tup [.v (.int .i64 1), .sl 1 (xs.map xc)], by rw [if_neg (by rw [hns]; decide)]; exact ⟨xs, by unfold solk; rw [if_neg om], hxs'⟩, ?_⟩
 exact mM (n := 0) [(q2, { cells := (xs.map xc).flatten, sz := 4, elem := 114, st := 1 })] (.inr J) J (.data (.v _) (.own (ob := { cells := (xs.map xc).flatten, sz := 4, elem := 114, st := 0 }) _ (by rw [List.length_map, hxl]) g0 (by show (0 : Nat) ≠ 2; decide) J (by decide) (List.mem_singleton.2 J) J (bK (n := 4) (fun _ => rfl)) (aU rD) .nil)) (by intro p hp; rw [List.mem_singleton] at hp; subst hp; exact ⟨_, g0, by show (0 : Nat) ≠ 2; decide, rfl⟩)
theorem mlinear_nil  : Run Try.prog T E0 (.call 98 [.sl 0 [], .sl 0 [], .v (.int .i64 0)] (.tup [.v (.int .i64 1), .sl 1 []])) := by
 refine bC Try.func98 J J (cW J) <| Rg 2 J <| Ua J J <| Ua J J <| Wn <| Rg 1 J <| aA (aS (b := .sl 0 []) (fV J) J) J <| Wn <| aC <| Rg 3 J <| Um J J <| aA (cI 0 (lH J J) J) J <| Um J J <| Wn <| aG <| dF <| Rg 1 J <| aA (bS J J) J <| aW (fun h22 => ?_) (fun h22 => ?_)
 ·omega
 refine Wn <| aR J <| aT <| eY <| aN J <| Rg 11 J <| Um J J <| Um J J <| aA (aE J (fP) dD) J <| Um J J <| aA (bU J J) J <| aA (bU J J) J <| aA (bU J J) J <| bL (gM J) J <| Ua J J <| Ua J J <| bB (dH (cs' := [_, _, _, _]) J J J g0 J J J J) <| Nk [2,11,12] J <| aC <| Rg 6 J <| Um J J <| Um J J <| aA (cI 0 (lH J J) J) J ?_
 refine aA (aS (b := .sl 0 []) (oSlLo (i := 0) J J J (by simp) J J (by simp)) J) J <| aA (cI 0 (lH J J) J) J <| Um J J <| Wn <| aG <| dF <| Rg 1 J <| aA (bS J J) J <| aW (fun h51 => ?_) (fun h51 => ?_)
 ·omega
 refine Wn <| aR J <| aT <| eY <| aN J <| Rg 3 J <| Um J J <| bL (oMk (a := 0) (b := 0) J J J J J J (by decide) (by decide) (by decide) (by decide)) J <| Ua J J <| Wn <| aC <| Rg 3 J <| Um J J <| aA (cI 0 (lH J J) J) J <| Um J J <| Nk [2,11,12,16,63,64,65] J <| aG <| dF <| Rg 1 J <| aA (bS J J) J <| aW (fun h66 => ?_) (fun h66 => ?_)
 ·omega
 refine Wn <| aR J <| aT <| eY <| aN J <| aC <| Rg 4 J <| Um J J <| aA (cI 0 (lH J J) J) J <| Um J J <| aA (bS J J) J <| aW (fun h84 => ?_) (fun h84 => ?_)
 ·omega
 refine Wn <| aR J <| aF <| Rg 3 J <| Um J J <| Ua J J <| Ua J J <| Nk [6,7] J <| aK ?_
 exact mM (n := 0) [(_, { cells := [], sz := 4, elem := 114, st := 1 })] (.inr J) J (.data (.v _) (.own (ob := { cells := [], sz := 4, elem := 114, st := 0 }) [] J g0 (by show (0 : Nat) ≠ 2; decide) J (by decide) (List.mem_singleton.2 J) J (by simp) (by simp) .nil)) (by intro p hp; rw [List.mem_singleton] at hp; subst hp; exact ⟨_, g0, by show (0 : Nat) ≠ 2; decide, rfl⟩)
end Go.Proofs.Ytcblgjaomljikaa
namespace Go.Proofs.Ytcblgjaomljikaa
open Go.Ab Go.RowKit
theorem msolve_run (k k2 : Nat) (a : List M1) (b : List NM) (hI : IM a) (hIb : IV b) (hF : Few8 a) (lb : b.length ≤ 70) (hne : 0 < a.length) : Run Try.prog T E0 (.call 32 [.sl k (a.map fM), .sl k2 (b.map mc)] (lvSol a b)) := by
 have l1 := hF.ln
 have l2 : ∀ r, r ∈ a → r.2.length < 1099511627776 := fun r hr => by have := hF.lr r hr; omega
 refine bC Try.func32 J J (cW J) <| Rg 3 J <| Ua J J <| Ua J J <| Ua J J <| Wn <| aG <| Rg 9 J <| Um J J <| aA (aE J (bV k a hI om (fun r hr => by have := l2 r hr; omega)) dD) J <| dM (fun h13 => ?_) (fun h13 => ?_)
 rotate_left
 ·refine aA (bZ J) J <| Um J J <| K1 J J <| K1 J J <| K1 J J <| aA (cG J J) J <| Ua J J <| Wn <| bI J <| Rg 3 J <| Ua J J <| Ua J J <| Ua J J <| Wn <| aK <| aO <| post (n := 0) (.inr J) J ?_ dD
  rw [nO (.inl h13)]; rfl
 refine aA (bZ J) J <| Um J J <| aJ J (cR J) J <| aJ J (aE J (lU k2 b hIb om) dD) J <| dM (fun h17 => ?_) (fun h17 => ?_)
 rotate_left
 ·refine aJ J (bZ J) J <| aA (cD J J) J <| Ua J J <| Wn <| bI J <| Rg 3 J <| Ua J J <| Ua J J <| Ua J J <| Wn <| aK <| aO <| post (n := 0) (.inr J) J ?_ dD
  rw [nO (.inr h17)]; rfl
 refine aJ J (bZ J) J <| aA (cD J J) J <| Ua J J <| Wn <| bH J <| Rg 6 J <| Um J J <| aA (aX J J) J <| Um J J <| aA (aX J J) J <| aA (eG J J) J <| aW (fun h25 => ?_) (fun h25 => ?_)
 ·refine Ua J J <| Nk [0,1,20] J <| bI J <| Rg 3 J <| Ua J J <| Ua J J <| Ua J J <| Wn <| aK <| aO <| post (n := 0) (.inr J) J ?_ dD
  rw [lvSol_no2 h13 h17 om]; rfl
 refine Ua J J <| Nk [0,1,20] J <| bH J <| bJ <| aD ?_
 obtain ⟨f1, f2⟩ := VM.facts h13
 have hvn : ∀ r, r ∈ a → ∀ x, x ∈ r.2 → VN x := fun r hr => (f2 r hr).2.2
 obtain ⟨g1', hvb⟩ := VV.facts h17
 have hw8 := iG h13 hF
 have hab : a.length = b.length := by omega
 have hl8 : (a.map nxr).length = a.length := by simp
 obtain ⟨r, hr, hrr⟩ := oK (a.map nxr) (kd (b.map nx).length) (b.map nx) (wd a) (by rw [hl8]; exact hne) (by rw [hl8]; omega) (fun r hr => by obtain ⟨s, hs, rfl⟩ := List.mem_map.1 hr; show (s.2.map nx).length = _; rw [List.length_map]; exact (f2 s hs).1) (fun r hr => by obtain ⟨s, hs, rfl⟩ := List.mem_map.1 hr; rfl) (by simp [hab]) om (by rw [eP]; exact iF h13) (fun x hx => by obtain ⟨y, hy, rfl⟩ := List.mem_map.1 hx; exact (hvb y hy).bd)
 rw [wR_M] at hrr
 obtain ⟨ks, kk, xs, rfl, hx1, hx2, hxl⟩ : ∃ (ks : Int) (kk : Nat) (xs : List X), r = .tup [.v (.int .i64 ks), .sl kk (xs.map xc)] ∧ (nosol (solS a b) (wd a) = true → ks = 0 ∧ xs = []) ∧ (nosol (solS a b) (wd a) = false → ks = solk (solS a b) (wd a) ∧ xs.map (·.1) = solv (solS a b) (wd a) (solS a b).2.length) ∧ xs.length ≤ 8 := by
  cases hn : nosol (solS a b) (wd a) with
  | true => rw [show nosol (gjn (wR (vM a) (b.map nq)) (wd a)) (wd a) = true from hn, if_pos rfl] at hrr; exact ⟨0, 0, [], hrr, fun _ => ⟨rfl, rfl⟩, fun h => by (cases h), by decide⟩
  | false =>
   rw [show nosol (gjn (wR (vM a) (b.map nq)) (wd a)) (wd a) = false from hn, if_neg (by decide)] at hrr
   obtain ⟨xs, h1, h2⟩ := hrr
   exact ⟨_, 1, xs, h1, fun h => by (cases h), fun _ => ⟨rfl, h2⟩, by have := congrArg List.length h2; rw [qR, List.length_map] at this; omega⟩
 have ho1 : nosol (solS a b) (wd a) = true → ks = 0 ∧ (xs.mapM fun x => outN x.1) = some [] := fun h => ⟨(hx1 h).1, by rw [(hx1 h).2]; rfl⟩
 have ho2 : nosol (solS a b) (wd a) = false → ks = solk (solS a b) (wd a) ∧ (xs.mapM fun x => outN x.1) = solO a b := fun h => ⟨(hx2 h).1, by rw [show (xs.mapM fun x => outN x.1) = (xs.map (·.1)).mapM outN from (fW outN (·.1) xs).symm, (hx2 h).2]; rfl⟩
 have hfin := qD h13 h17 hab (xs.mapM fun x => outN x.1) ks ho1 ho2
 refine Rg 12 J <| Um J J <| aA (aS (b := .sl 1 ((a.map nxr).map fX)) (aE J (cE k a om hI (fun r hr x hx => by have := (hvn r hr x hx).1; omega) l2) dD) (by rw [hl8, kd, if_neg om])) J <| Um J J <| aA (aE J (fZ k2 b om hIb (fun x hx => by have := (hvb x hx).1; omega)) dD) J <| Um J J <| aA (aE J (cN k a) dD) J <| aA (aE J (hr) dD) J <| Um J J <| aA (bU J J) J <| aA (bU J J) J <| Ua J J <| Ua J J <| Nk [7,8] J <| Rg 7 J <| Um J J <| aA (aE J (iS kk xs om) dD) J <| Um J J <| aA (bU J J) J <| aA (bU J J) J <| Ua J J <| Ua J J <| cM ?_
 refine aC <| Rg 2 J <| Um J J <| aA (eG J J) J <| aW (fun h42 => ?_) (fun h42 => ?_)
 ·refine Wn <| aV J <| aC <| Rg 4 J <| Um J J <| Ua J J <| Ua J J <| Ua J J <| Nk [4,5,6] J <| bM ?_
  have hos : (xs.mapM fun x => outN x.1).isSome = false := by
   cases h : (xs.mapM fun x => outN x.1).isSome with
   | true => rw [h] at h42; exact absurd rfl h42
   | false => rfl
  refine post (n := 0) (.inr J) J ?_ dD
  rw [hfin, hos]; rfl
 refine Wn <| aR J <| aF <| Rg 5 J <| Um J J <| Um J J <| Ua J J <| Ua J J <| Ua J J <| Nk [4,5,6] J <| aK ?_
 have hos : (xs.mapM fun x => outN x.1).isSome = true := by
  cases h : (xs.mapM fun x => outN x.1).isSome with
  | true => rfl
  | false => rw [h] at h42; exact absurd (by decide) h42
 refine post (n := 0) (.inr J) J ?_ dD
 rw [hfin, hos]; rfl
theorem msolve_nil (k k2 : Nat) (b : List NM) (hIb : IV b) (lb : b.length ≤ 70) : Run Try.prog T E0 (.call 32 [.sl k (([] : List M1).map fM), .sl k2 (b.map mc)] (lvSol [] b)) := by
 refine bC Try.func32 J J (cW J) <| Rg 3 J <| Ua J J <| Ua J J <| Ua J J <| Wn <| aG <| Rg 9 J <| Um J J <| aA (aS (b := .v (.bool true)) (aE J (bV k [] (by intro r hr; cases hr) (by decide) (by intro r hr; cases hr)) dD) J) J <| aA (bZ J) J <| Um J J <| aJ J (cR J) J <| aJ J (aE J (lU k2 b hIb om) dD) J <| dM (fun h17 => ?_) (fun h17 => ?_)
 rotate_left
 ·refine aJ J (bZ J) J <| aA (cD J J) J <| Ua J J <| Wn <| bI J <| Rg 3 J <| Ua J J <| Ua J J <| Ua J J <| Wn <| aK <| aO <| post (n := 0) (.inr J) J ?_ dD
  rw [nO (.inr h17)]; rfl
 refine aJ J (bZ J) J <| aA (cD J J) J <| Ua J J <| Wn <| bH J <| Rg 6 J <| Um J J <| aA (cI 0 (lH J J) J) J <| Um J J <| aA (aX J J) J <| aA (eG J J) J <| aW (fun h25 => ?_) (fun h25 => ?_)
 ·refine Ua J J <| Nk [0,1,20] J <| bI J <| Rg 3 J <| Ua J J <| Ua J J <| Ua J J <| Wn <| aK <| aO <| post (n := 0) (.inr J) J ?_ dD
  rw [lvSol_no2 (by rfl) h17 (by intro h; rw [List.length_nil] at h; omega)]; rfl
 refine Ua J J <| Nk [0,1,20] J <| bH J <| bJ <| aD ?_
 obtain rfl : b = [] := List.length_eq_zero_iff.1 om
 refine Rg 12 J <| Um J J <| aA (aS (b := .sl 0 []) (aE J (cE k [] (by decide) (by intro r hr; cases hr) (by intro r hr; cases hr) (by intro r hr; cases hr)) dD) J) J <| Um J J <| aA (aS (b := .sl 0 []) (aE J (fZ k2 [] (by decide) (by intro r hr; cases hr) (by intro r hr; cases hr)) dD) J) J <| Um J J <| aA (aE J (cN k []) dD) J <| aA (aE J (mlinear_nil) dD) J <| Um J J <| aA (bU J J) J <| aA (bU J J) J <| Ua J J <| Ua J J <| Nk [7,8] J <| Rg 7 J <| Um J J <| aA (aS (b := .tup [.sl 0 [], .v (.int .i64 0)]) (aE J (iS 1 [] (by decide)) dD) J) J <| Um J J <| aA (bU J J) J <| aA (bU J J) J <| Ua J J <| Ua J J <| cM ?_
 refine aC <| Rg 2 J <| Um J J <| aA (eG J J) J <| aW (fun h42 => ?_) (fun h42 => ?_)
 ·exact absurd J h42
 refine Wn <| aR J <| aF <| Rg 5 J <| Um J J <| Um J J <| Ua J J <| Ua J J <| Ua J J <| Nk [4,5,6] J <| aK <| post (n := 0) (.inr J) J ?_ dD
 rw [qD (a := []) (b := []) rfl rfl rfl (some []) 1 (by intro h; exact absurd h (by decide +kernel)) (by intro _; exact ⟨by decide +kernel, by decide +kernel⟩)]; rfl
end Go.Proofs.Ytcblgjaomljikaa
namespace Go.Proofs.Ytcblgjaomljikaa
open Go.Ab Go.RowKit
theorem qI (ka kb : Nat) (al bl : List X) (n1 m1 : Nat) (hl : al.length ≤ bl.length) (ln : al.length < 1099511627776) (ha : ∀ x, x ∈ al → Bd n1 x.1) (hb : ∀ x, x ∈ bl → Bd m1 x.1) (hn : n1 + m1 ≤ 34359738368) (hbd : 1 + al.length * (n1 + m1 + 1) ≤ 34359738368) : ∃ r, Run Try.prog T E0 (.call 92 [.sl ka (al.map xc), .sl kb (bl.map xc)] r) ∧ ∃ s : X, r = lvX s ∧ s.1 = dotR (al.map (·.1)) (bl.map (·.1)) := by
 refine fO Try.func92 J J (cW J) <| Rg 1 J <| bL (gM J) J <| Wn <| Rg 1 J <| bL (gM J) J <| Wn <| aC <| Rg 3 J <| Um J J <| aA (aX J J) J <| Um J J <| Wn <| aG <| aY (α := Nat × X) (fun ⟨i, s⟩ => [(0, .sl ka (al.map xc)), (1, .sl kb (bl.map xc)), (4, .ptr 0 0), (5, .ptr 1 0), (8, .v (.int .i64 (al.length : Int))), (9, .v (.int .i64 (i : Int)))]) (fun ⟨i, s⟩ => [(1, { cells := xc s, sz := 4, elem := 114, st := 0 }), (0, { cells := xc x0, sz := 4, elem := 114, st := 0 })]) (fun ⟨i, s⟩ n => i ≤ al.length ∧ s.1 = dotn (al.map (·.1)) (bl.map (·.1)) i) (fun ⟨i, s⟩ => al.length - i) (0, x0) ⟨J, J, J, J, J, J, trivial⟩ ⟨g0, g1 (by decide) g0, trivial⟩ ⟨Nat.zero_le _, rfl⟩ ?_
 rintro ⟨i, s⟩ n hF
 change WC _ _ _ _ _ (_ :: _) (_ :: _) n _
 obtain ⟨hi, hs⟩ := hF
 refine Rg 1 J <| aA (bS J J) J <| aW (fun h10 => ?_) (fun h10 => ?_)
 rotate_left
 ·refine Wn <| aR J <| aT <| aP <| aN J <| Rg 2 J <| aA (bF (l := .agg [_, _, _, _]) J J g0 J J) J <| bB (dH (cs' := [_, _, _, _]) J J J (g1 (by decide) g0) J J J J) <| Wn <| aK ?_
  exact ⟨lvX s, ⟨s, rfl, by rw [hs, show i = al.length by omega]; unfold dotR; rw [List.length_map]⟩, post (n := 0) (.inr J) J J dD⟩
 refine Wn <| aV J <| aF <| aG <| Rg 2 J <| Um J J <| Ua J J <| Wn <| Rg 14 J <| Um J J <| Um J J <| aA (bY J J J J J om J) J <| aA (dQ (l := .agg [_, _, _, _]) J J J) J <| aA (aE J (gA (al.getD i default)) dD) J <| aA (eG J J) J <| aW (fun h17 => ?_) (fun h17 => ?_)
 rotate_left
 ·refine Um J J <| K1 J J <| K1 J J <| K1 J J <| K1 J J <| K1 J J <| K1 J J <| aA (cD J J) J <| Nk [0,1,4,5,6,8,9,19,20,21,22,23,24,25] J <| bH J <| bJ <| aD <| aI (z := 2) J <| aA (cI (((i + 1 : Nat) : Int)) (aQ J J om) om) J <| Um J J <| Wn <| aH <| ⟨⟨i + 1, s⟩, ⟨J, J, J, J, J, J, trivial⟩, ⟨g0, g1 (by decide) g0, trivial⟩, ⟨om, by rw [rK (.inl (by rw [dO J]; exact eM.1 (show (al.getD i default).1.num.sign = 0 by omega)))]; exact hs⟩, by show al.length - (i + 1) < al.length - i; omega⟩
 refine Um J J <| aJ J (cR J) J <| aJ J (cR J) J <| aJ J (bY J J J J J om J) J <| aJ J (dQ (l := .agg [_, _, _, _]) J J J) J <| aJ J (aE J (gA (bl.getD i default)) dD) J <| aJ J (eG J J) J <| aW (fun h24 => ?_) (fun h24 => ?_)
 rotate_left
 ·refine aA (cG J J) J <| Nk [0,1,4,5,6,8,9,19,20,21,22,23,24,25] J <| bH J <| bJ <| aD <| aI (z := 2) J <| aA (cI (((i + 1 : Nat) : Int)) (aQ J J om) om) J <| Um J J <| Wn <| aH <| ⟨⟨i + 1, s⟩, ⟨J, J, J, J, J, J, trivial⟩, ⟨g0, g1 (by decide) g0, trivial⟩, ⟨om, by rw [rK (.inr (by rw [dO J]; exact eM.1 (show (bl.getD i default).1.num.sign = 0 by omega)))]; exact hs⟩, by show al.length - (i + 1) < al.length - i; omega⟩
 refine aA (cG J J) J <| Nk [0,1,4,5,6,8,9,19,20,21,22,23,24,25] J <| bI J ?_
 have hma := bD (us := al) (i := i) om
 have hmb := bD (us := bl) (i := i) om
 have hbs : Bd 34359738368 s.1 := by
  rw [hs]; exact (dotn_bd (n := n1) (m := m1) (fun x hx => by obtain ⟨y, hy, rfl⟩ := List.mem_map.1 hx; exact ha y hy) (fun x hx => by obtain ⟨y, hy, rfl⟩ := List.mem_map.1 hx; exact hb y hy) (by first | omega | (simp; omega)) i (by first | omega | (simp; omega))).mono (Nat.le_trans (Nat.add_le_add_left (bd_mul (show i ≤ al.length by omega)) 1) hbd)
 refine dR (z := 12) J kR <| aL (bF (l := .agg [_, _, _, _]) J J g0 J J) J <| Dm J J <| Dm J J <| aL (bY J J J J J om J) J <| aL (dQ (l := .agg [_, _, _, _]) J J J) J <| Dm J J <| Dm J J <| aL (bY J J J J J om J) J <| aL (dQ (l := .agg [_, _, _, _]) J J J) J <| aL (aE J (mR (al.getD i default) (bl.getD i default) ((ha _ hma).mono om) ((hb _ hmb).mono om)) dD) J <| aL (aE J (radd_run s (xmul (al.getD i default) (bl.getD i default)) (hbs.mono om) (((ha _ hma).mul (hb _ hmb)).mono om)) dD) J <| dP (dH (cs' := [_, _, _, _]) J J J g0 J J J J) <| bT (bE kR) J <| aD <| Ck [0,1,4,5,8,9,19,20,21,22,23,24] J <| aI (z := 2) J <| aA (cI (((i + 1 : Nat) : Int)) (aQ J J om) om) J <| Um J J <| Wn <| aH <| ⟨⟨i + 1, xadd s (xmul (al.getD i default) (bl.getD i default))⟩, ⟨J, J, J, J, J, J, trivial⟩, ⟨g0, g1 (by decide) (g1 (by decide) g0), trivial⟩, ⟨om, ?_⟩, by show al.length - (i + 1) < al.length - i; omega⟩
 rw [dotn, ← hs, dO rfl, dO rfl]; rfl
end Go.Proofs.Ytcblgjaomljikaa
namespace Go.Proofs.Ytcblgjaomljikaa
open Go.Ab Go.RowKit
theorem xwidth_run (k : Nat) (bl : List X1) : Run Try.prog T E0 (.call 163 [.sl k (bl.map fX)] (.v (.int .i64 ((wdx bl : Nat) : Int)))) := by
 refine bC Try.func163 J J (cW J) <| Rg 1 J <| Ua J J <| Wn <| aC <| Rg 3 J <| Um J J <| aA (aX J J) J <| aA (fR J J) J <| aW (fun h5 => ?_) (fun h5 => ?_)
 ·refine Wn <| aV J <| aC <| Rg 1 J <| Ua J J <| Wn <| bM <| post (n := 0) (.inr J) J ?_ dD
  exact congrArg (fun z => LV.v (.int .i64 ((z : Nat) : Int))) (show 0 = wdx bl by unfold wdx; rw [if_pos om])
 refine Wn <| aR J <| aF <| Rg 5 J <| Um J J <| aA (bY (j := 0) J J J J om om J) J <| aA (dQ J J J) J <| aA (aX J J) J <| Ua J J <| Wn <| aK <| post (n := 0) (.inr J) J ?_ dD
 exact congrArg (fun z => LV.v (.int .i64 ((z : Nat) : Int))) (show (bl.getD 0 default).2.length = wdx bl by unfold wdx; rw [if_neg om])
theorem gF (k1 k2 : Nat) (al bl : List X1) (n1 m1 : Nat) (la : al.length < 100000) (lb : bl.length < 100000) (lw : wdx bl < 100000) (hb : ∀ r, r ∈ bl → r.2.length = wdx bl) (ha : ∀ r, r ∈ al → r.2.length = bl.length) (hA : ∀ r, r ∈ al → ∀ x, x ∈ r.2 → Bd n1 x.1) (hB : ∀ r, r ∈ bl → ∀ x, x ∈ r.2 → Bd m1 x.1) (hn : n1 + m1 ≤ 34359738368) (hbd : 1 + bl.length * (n1 + m1 + 1) ≤ 34359738368) : ∃ r, Run Try.prog T E0 (.call 89 [.sl k1 (al.map fX), .sl k2 (bl.map fX)] r) ∧ ∃ rows : List X1, r = .sl (kd rows.length) (rows.map fX) ∧ vX rows = prodR (vX al) (vX bl) (wdx bl) := by
 refine fO Try.func89 J J (cW J) <| Rg 1 J <| Ua J J <| Wn <| Rg 3 J <| Um J J <| aA (aE J (xwidth_run k2 bl) dD) J <| Ua J J <| Wn <| Rg 3 J <| Um J J <| bL (oMk (a := wdx bl) (b := wdx bl) J J J J om om (by decide) om (by show 24 * wdx bl ≤ _; omega) om) J <| Ua J J <| Wn <| aC <| Rg 2 J <| Um J J <| Um J J <| Wn <| aG <| aY (α := Nat × (List LV)) (fun ⟨k, cs⟩ => [(0, .sl k1 (al.map fX)), (1, .sl k2 (bl.map fX)), (6, .ref 5 1 0 (wdx bl)), (20, .v (.int .i64 (wdx bl : Int))), (21, .v (.int .i64 (k : Int)))]) (fun ⟨k, cs⟩ => [(5, { cells := (cs.map one1).flatten, sz := 1, elem := 108, st := 0 })]) (fun ⟨k, cs⟩ n => k ≤ wdx bl ∧ cs.length = wdx bl ∧ (∀ j, j < k → cs.getD j default = .sl (kd bl.length) ((xcol bl j).map xc)) ∧ (∀ j, k ≤ j → j < wdx bl → cs.getD j default = .sl 0 []) ∧ 5 < n) (fun ⟨k, cs⟩ => wdx bl - k) (0, List.replicate (wdx bl) (.sl 0 [])) ⟨J, J, J, J, J, trivial⟩ ⟨g0.trans (by rw [List.map_replicate]; rfl), trivial⟩ ⟨Nat.zero_le _, by simp, by intro j hj; omega, by intro j _ hj; simp [List.getD_eq_getElem?_getD, hj], om⟩ ?_
 rintro ⟨k, cs⟩ n hF
 change WC _ _ _ _ _ (_ :: _) (_ :: _) n _
 obtain ⟨hk, hcl, hdone, hrest, hn5⟩ := hF
 refine Rg 1 J <| aA (bS J J) J <| aW (fun h22 => ?_) (fun h22 => ?_)
 ·refine Wn <| aV J <| aF <| aG <| Rg 2 J <| Um J J <| Ua J J <| Wn <| Rg 3 J <| Um J J <| aA (aX J J) J <| Um J J <| Wn <| eQ <| aY (α := Nat × Nat × (List LV)) (fun ⟨i, q, cs2⟩ => [(0, .sl k1 (al.map fX)), (1, .sl k2 (bl.map fX)), (6, .ref 5 1 0 (wdx bl)), (7, .v (.int .i64 (k : Int))), (20, .v (.int .i64 (wdx bl : Int))), (21, .v (.int .i64 (k : Int))), (24, .sl k2 (bl.map fX)), (25, .v (.int .i64 (bl.length : Int))), (26, .v (.int .i64 (i : Int)))]) (fun ⟨i, q, cs2⟩ => outH q 4 114 (((xcol bl k).take i).map xc) [(5, { cells := (cs2.map one1).flatten, sz := 1, elem := 108, st := 0 })]) (fun ⟨i, q, cs2⟩ n => i ≤ bl.length ∧ q ≠ 5 ∧ q < n ∧ cs2.length = wdx bl ∧ cs2.getD k default = outV q 4 (((xcol bl k).take i).map xc) ∧ (∀ j, j < wdx bl → j ≠ k → cs2.getD j default = cs.getD j default) ∧ 5 < n) (fun ⟨i, q, cs2⟩ => bl.length - i) (0, 0, cs) ⟨J, J, J, J, J, J, J, J, J, trivial⟩ ⟨g0, trivial⟩ ⟨Nat.zero_le _, om, om, hcl, hrest k om om, fun j _ _ => rfl, om⟩ ?_
  rintro ⟨i, q, cs2⟩ n hF
  change WC _ _ _ _ _ (_ :: _) (outH _ _ _ _ _) n _
  obtain ⟨hi, hq5, hq, hcl2, hcur, hoth, hn5b⟩ := hF
  refine Rg 1 J <| aA (bS J J) J <| aW (fun h27 => ?_) (fun h27 => ?_)
  rotate_left
  ·refine Wn <| aR J <| aT <| aP <| jT J <| aD <| pM (z := 2) J <| aA (cI (((k + 1 : Nat) : Int)) (aQ J J om) om) J <| Um J J <| cM ?_
   rw [List.take_of_length_le (by rw [nC]; omega)] at hcur ⊢
   refine Fz.cell (us := (xcol bl k).map xc) [(0, _), (1, _), (6, _), (20, _), (21, _)] ⟨J, J, J, J, J, trivial⟩ om hcur om (by decide) (bK (n := 4) (fun _ => rfl)) (aU rD) ?_
   rw [fB]
   refine aH <| ⟨⟨k + 1, cs2.set k (.sl (kd (xcol bl k).length) ((xcol bl k).map xc))⟩, ⟨J, J, J, J, J, trivial⟩, ⟨g0, trivial⟩, ⟨om, by rw [List.length_set]; exact hcl2, ?_, ?_, om⟩, by show wdx bl - (k + 1) < wdx bl - k; omega⟩
   ·intro j hj
    rw [bP om]
    by_cases e : k = j
    ·subst e; rw [if_pos rfl, nC]
    ·rw [if_neg e, hoth j om (Ne.symm e)]; exact hdone j om
   ·intro j h1 h2
    rw [bP om, if_neg om, hoth j h2 om]; exact hrest j om h2
  refine Wn <| aV J <| aF <| aG <| Rg 3 J <| aA (bY J J J J J om J) J <| aA (dQ J J J) J <| Ua J J <| cM ?_
  have hm := hb _ (bD (us := bl) (i := i) om)
  have htk : ((xcol bl k).take (i + 1)).map xc = ((xcol bl k).take i).map xc ++ [xc ((bl.getD i default).2.getD k default)] := by rw [dX (by rw [nC]; omega), xcol_get om]
  refine dR (z := 14) J kR <| Dm J J <| Dm J J <| Dm J J <| Dm J J <| aL (cC J J J J J om J) J <| aL (aS (b := outV q 4 (((xcol bl k).take i).map xc)) (dZ (f := one1) (us := cs2) (j := k) J J (aM om g0) (fun _ => rfl) J (by decide) om J) hcur) J <| Dm J J <| Dm J J <| aL (bY J J J J J om J) J <| aL (dQ (l := .agg [_, _, _, _]) J J J) J <| aL (dJ (cs := [_, _, _, _]) (rows := [[_, _, _, _]]) J J (by decide) J J J) J <| pN (te := ti114) (k0 := 0) (us := ((xcol bl k).take i).map xc) (rows := [xc ((bl.getD i default).2.getD k default)]) (.inl J) J J J (by rw [kX]; rfl) J (by decide) (by intro r hr; rw [List.mem_singleton] at hr; subst hr; rfl) (bK (n := 4) (fun _ => rfl)) (by simp) (by have := List.length_take_le i (xcol bl k); rw [List.length_map]; show (2 * (_ + 1) + 256) * 64 ≤ _; omega) (by have := List.length_take_le i (xcol bl k); rw [List.length_map]; show _ + 1 < _; omega) (g1 om J) J <| aL (cC J J J J J om J) J <| dP (eA (f := one1) (us := cs2) (.ref (n + 1 + 3 + 11) 4 0 ((((xcol bl k).take i).map xc).length + 1)) J J J (g1 om g0) (fun _ => rfl) J J om J) <| bT (bE kR) J <| aD <| Ck [0,1,6,7,20,21,24,25,26] J <| aI (z := 2) J <| aA (cI (((i + 1 : Nat) : Int)) (aQ J J om) om) J <| Um J J <| Wn <| aH <| ⟨⟨i + 1, (n + 1 + 3 + 11), cs2.set k (.ref (n + 1 + 3 + 11) 4 0 ((((xcol bl k).take i).map xc).length + 1))⟩, ⟨J, J, J, J, J, J, J, J, J, trivial⟩, ?_, ⟨om, om, om, by rw [List.length_set]; exact hcl2, ?_, ?_, om⟩, by show bl.length - (i + 1) < bl.length - i; omega⟩
  ·show subsM (outH _ 4 _ (((xcol bl k).take (i + 1)).map xc) _) _
   rw [htk, outH_snoc]
   exact ⟨g1 om g0, g0, trivial⟩
  ·rw [bP om, if_pos rfl, htk, outV_snoc]
  ·intro j h1 h2
   rw [bP om, if_neg (Ne.symm h2)]; exact hoth j h1 h2
 refine Wn <| aR J <| aT <| aP <| aN J ?_
 have hcs : ∀ j, j < wdx bl → cs.getD j default = .sl (kd bl.length) ((xcol bl j).map xc) := fun j hj => hdone j om
 refine Rg 1 J <| Ua J J <| Wn <| aC <| Rg 3 J <| Um J J <| aA (aX J J) J <| Um J J <| Wn <| aG <| aY (α := Nat × Nat × (List X1)) (fun ⟨i, q, ds⟩ => [(6, .ref 5 1 0 (wdx bl)), (10, outV q 1 (ds.map fX)), (45, .sl k1 (al.map fX)), (46, .v (.int .i64 (al.length : Int))), (47, .v (.int .i64 (i : Int)))]) (fun ⟨i, q, ds⟩ => outH q 1 108 (ds.map fX) [(5, { cells := (cs.map one1).flatten, sz := 1, elem := 108, st := 0 })]) (fun ⟨i, q, ds⟩ n => i ≤ al.length ∧ vX ds = ((vX al).take i).map (fun r => (List.range (wdx bl)).map fun k => dotR r (colR (vX bl) k)) ∧ ds.length = i ∧ q < n ∧ q ≠ 5 ∧ 5 < n) (fun ⟨i, q, ds⟩ => al.length - i) (0, 0, []) ⟨J, J, J, J, J, trivial⟩ ⟨g0, trivial⟩ ⟨Nat.zero_le _, by simp [vX], rfl, om, om, om⟩ ?_
 rintro ⟨i, q, ds⟩ n hF
 change WC _ _ _ _ _ (_ :: _) (outH _ _ _ _ _) n _
 obtain ⟨hi, hds, hdl, hq, hq5, hn5b⟩ := hF
 refine Rg 1 J <| aA (bS J J) J <| aW (fun h48 => ?_) (fun h48 => ?_)
 rotate_left
 ·refine Wn <| aR J <| aT <| aP <| aN J <| Rg 2 J <| Um J J <| Ua J J <| Wn <| aK <| ⟨.sl (kd ds.length) (ds.map fX), ⟨ds, rfl, by rw [hds, List.take_of_length_le (by rw [bQ]; omega)]; rfl⟩, ?_⟩
  rw [← fB]
  exact mN (n := 0) (.inr J) J (by decide) (bK (n := 1) (fun _ => rfl)) (aU dfX)
 refine Wn <| aV J <| aF <| aG <| Rg 3 J <| aA (bY J J J J J om J) J <| aA (dQ J J J) J <| Ua J J <| Wn <| Rg 1 J <| Ua J J <| Wn <| aC <| Rg 3 J <| Um J J <| aA (kF J J) J <| Um J J <| Wn <| aG <| aY (α := Nat × Nat × (List X)) (fun ⟨j, q2, row⟩ => [(6, .ref 5 1 0 (wdx bl)), (10, outV q 1 (ds.map fX)), (12, .sl (al.getD i default).1 ((al.getD i default).2.map xc)), (13, outV q2 4 (row.map xc)), (45, .sl k1 (al.map fX)), (46, .v (.int .i64 (al.length : Int))), (47, .v (.int .i64 (i : Int))), (51, .ref 5 1 0 (wdx bl)), (52, .v (.int .i64 (wdx bl : Int))), (53, .v (.int .i64 (j : Int)))]) (fun ⟨j, q2, row⟩ => outH q2 4 114 (row.map xc) (outH q 1 108 (ds.map fX) [(5, { cells := (cs.map one1).flatten, sz := 1, elem := 108, st := 0 })])) (fun ⟨j, q2, row⟩ n => j ≤ wdx bl ∧ row.map (·.1) = (List.range j).map (fun c => dotR ((al.getD i default).2.map (·.1)) (colR (vX bl) c)) ∧ row.length = j ∧ q2 < n ∧ q2 ≠ 5 ∧ q2 ≠ q ∧ q < n ∧ 5 < n) (fun ⟨j, q2, row⟩ => wdx bl - j) (0, (n + 1), []) ⟨J, J, J, J, J, J, J, J, J, J, trivial⟩ (qT om) ⟨Nat.zero_le _, rfl, rfl, om, om, om, om, om⟩ ?_
 rintro ⟨j, q2, row⟩ n hF
 change WC _ _ _ _ _ (_ :: _) (outH _ _ _ _ _) n _
 obtain ⟨hj, hrw, hrl, hq2, hq25, hq2q, hqn, hn5c⟩ := hF
 refine kO (z := 1) J <| aA (bS J J) J <| aW (fun h54 => ?_) (fun h54 => ?_)
 rotate_left
 ·refine Wn <| Fz.env (t := 13) (us := row.map xc) [(6, _), (10, _), (12, _), (45, _), (46, _), (47, _), (51, _), (52, _), (53, _), (54, _)] ⟨J, J, J, J, J, J, J, J, J, J, trivial⟩ J (fun _ r o hr => by rcases outH_dom hr with h | h <;> omega) (by decide) (bK (n := 4) (fun _ => rfl)) (aU rD) <| aR J <| aT <| aP <| aN J <| aI (z := 5) J <| Um J J <| Um J J <| aA (dJ (cs := [_]) (rows := [[_]]) J J (by decide) J J J) J <| fJ (te := ti108) (f := fX) (q := q) (us := ds) (u := (kd (row.map xc).length, row)) J J J J J (fun _ => rfl) (by decide) (by show (2 * (ds.length + 1) + 256) * 24 ≤ _; omega) om (g1 om J) (g1 om J) J <| Ua J J <| Wn <| aD <| Ck [6,10,45,46,47] J <| aI (z := 2) J <| aA (cI (((i + 1 : Nat) : Int)) (aQ J J om) om) J <| Um J J <| Wn <| aH <| ⟨⟨i + 1, _, ds ++ [(kd (row.map xc).length, row)]⟩, ⟨J, J, J, J, J, trivial⟩, qT om, ⟨om, ?_, by simp; omega, om, om, om⟩, by show al.length - (i + 1) < al.length - i; omega⟩
  rw [vX_app, hds, dX (us := vX al) (by rw [bQ]; omega)]
  congr 1
  show [row.map (·.1)] = _
  rw [hrw, show j = wdx bl by omega]
  unfold vX
  rw [lO (f := fun r : X1 => r.2.map (·.1)) om]
 refine Wn <| Fz.same [(6, _), (10, _), (12, _), (13, _), (45, _), (46, _), (47, _), (51, _), (52, _), (53, _), (54, _)] _ ⟨J, J, J, J, J, J, J, J, J, J, J, trivial⟩ (fun _ _ h => h) <| aV J <| aF <| aG <| Rg 3 J <| aA (cC J J J J J om J) J <| aA (aS (b := .sl (kd bl.length) ((xcol bl j).map xc)) (dZ (f := one1) (us := cs) (j := j) J J (aM om (aM om g0)) (fun _ => rfl) J (by decide) om J) (hcs j om)) J <| Ua J J <| cM ?_
 have hma := bD (us := al) (i := i) om
 obtain ⟨_, hr, s, rfl, hs⟩ := qI (al.getD i default).1 (kd bl.length) (al.getD i default).2 (xcol bl j) n1 m1 (by rw [nC, ha _ hma]; omega) (by rw [ha _ hma]; omega) (hA _ hma) (fun x hx => by
  obtain ⟨r, hr, rfl⟩ := List.mem_map.1 hx
  exact hB r hr _ (bD (by rw [hb r hr]; omega))) hn (by rw [ha _ hma]; exact hbd)
 refine aI (z := 7) J <| Um J J <| Um J J <| Um J J <| aA (aE J (hr) dD) J <| aA (dJ (cs := [_, _, _, _]) (rows := [[_, _, _, _]]) J J (by decide) J J J) J <| fJ (te := ti114) (f := xc) (q := q2) (us := row) (u := s) J J J J J (fun _ => rfl) (by decide) (by show (2 * (row.length + 1) + 256) * 64 ≤ _; omega) om (aM om (g1 om J)) (aM om (g1 om J)) J <| Ua J J <| Wn <| aD <| Ck [6,10,12,13,45,46,47,51,52,53] J <| aI (z := 2) J <| aA (cI (((j + 1 : Nat) : Int)) (aQ J J om) om) J <| Um J J <| Wn <| aH <| ⟨⟨j + 1, _, row ++ [s]⟩, ⟨J, J, J, J, J, J, J, J, J, J, trivial⟩, subsM_oo om om om, ⟨om, ?_, by simp; omega, om, om, om, om, om⟩, by show wdx bl - (j + 1) < wdx bl - j; omega⟩
 rw [List.map_append, hrw, List.range_succ, List.map_append]
 congr 1
 show [s.1] = _
 rw [hs, xcol_v]; rfl
end Go.Proofs.Ytcblgjaomljikaa
namespace Go.Proofs.Ytcblgjaomljikaa
open Go.Ab Go.RowKit
theorem mMul_run (k k2 : Nat) (a b : List M1) (hI : IM a) (hIb : IM b) (hF : Few8 a) (hFb : Few8 b) : Run Try.prog T E0 (.call 28 [.sl k (a.map fM), .sl k2 (b.map fM)] (lvMul a b)) := by
 have l1 := hF.ln
 have l2 : ∀ r, r ∈ a → r.2.length < 1099511627776 := fun r hr => by have := hF.lr r hr; omega
 have l3 := hFb.ln
 have l4 : ∀ r, r ∈ b → r.2.length < 1099511627776 := fun r hr => by have := hFb.lr r hr; omega
 refine bC Try.func28 J J (cW J) ?_
 have J5 : ∀ (h8 : VM a = true) (h12 : VM b = true) (hdim : 0 < a.length → wd a = b.length) (n : Nat) , WC Try.prog T E0 Try.f28.ntmps (codeR (codeR (codeOf Try.f28))) [(0, .sl k (a.map fM)), (1, .sl k2 (b.map fM))] [] n (Post T Try.f28.results.toList (lvMul a b)) := by
  intro h8 h12 hdim n
  refine Rg 10 J ?_
  obtain ⟨f1, f2⟩ := VM.facts h8
  obtain ⟨f3, f4⟩ := VM.facts h12
  have hva : ∀ r, r ∈ a → ∀ x, x ∈ r.2 → VN x := fun r hr => (f2 r hr).2.2
  have hvb : ∀ r, r ∈ b → ∀ x, x ∈ r.2 → VN x := fun r hr => (f4 r hr).2.2
  have hw8 := iG h12 hFb
  have hxa : ∀ r, r ∈ a.map nxr → r.2.length = (b.map nxr).length := fun r hr => by
   obtain ⟨s, hs, rfl⟩ := List.mem_map.1 hr
   show (s.2.map nx).length = _
   rw [List.length_map, List.length_map, (f2 s hs).1]; exact hdim (List.length_pos_of_mem hs)
  have hxb : ∀ r, r ∈ b.map nxr → r.2.length = wd b := fun r hr => by
   obtain ⟨s, hs, rfl⟩ := List.mem_map.1 hr
   show (s.2.map nx).length = _
   rw [List.length_map]; exact (f4 s hs).1
  have hAb : ∀ r, r ∈ a.map nxr → ∀ x, x ∈ r.2 → Bd 2 x.1 := fun r hr x hx => by
   obtain ⟨s, hs, rfl⟩ := List.mem_map.1 hr
   obtain ⟨y, hy, rfl⟩ := List.mem_map.1 hx
   exact (hva s hs y hy).bd
  have hBb : ∀ r, r ∈ b.map nxr → ∀ x, x ∈ r.2 → Bd 2 x.1 := fun r hr x hx => by
   obtain ⟨s, hs, rfl⟩ := List.mem_map.1 hr
   obtain ⟨y, hy, rfl⟩ := List.mem_map.1 hx
   exact (hvb s hs y hy).bd
  obtain ⟨_, hr, rows, rfl, hrows⟩ := gF (kd (a.map nxr).length) (kd (b.map nxr).length) (a.map nxr) (b.map nxr) 2 2 (by rw [List.length_map]; omega) (by rw [List.length_map]; omega) (by rw [nZ]; omega) (by rw [nZ]; exact hxb) hxa hAb hBb om (by rw [List.length_map]; omega)
  rw [eP, eP, nZ] at hrows
  have hrl : rows.length = a.length := by have := congrArg List.length hrows; rw [iU, bQ] at this; simpa [vM] using this
  have hrw := vX_rows hrows nT
  refine Um J J <| aA (aE J (cE k a om hI (fun r hr x hx => by have := (hva r hr x hx).1; omega) l2) dD) J <| Um J J <| aA (aE J (cE k2 b om hIb (fun r hr x hx => by have := (hvb r hr x hx).1; omega) l4) dD) J <| aA (aE J (hr) dD) J <| aA (aS (b := lvOM (mulO a b)) (aE J (gT (kd rows.length) rows om (fun r hr => by rw [hrw r hr]; omega)) dD) (by rw [iD, hrows]; rfl)) J <| aA (bU J J) J <| aA (bU J J) J <| Ua J J <| Ua J J <| Wn <| aK <| post (n := 0) (.inr J) J ?_ dD
  rw [lvMul_ok h8 h12 hdim]; rfl
 refine Rg 2 J <| Ua J J <| Ua J J <| Wn <| aG <| Rg 9 J <| Um J J <| aA (aE J (bV k a hI om (fun r hr => by have := l2 r hr; omega)) dD) J <| dM (fun h8 => ?_) (fun h8 => ?_)
 rotate_left
 ·refine aA (bZ J) J <| Um J J <| K1 J J <| K1 J J <| K1 J J <| aA (cG J J) J <| Ua J J <| Wn <| bI J <| Rg 2 J <| Ua J J <| Ua J J <| Wn <| aK <| aO <| post (n := 0) (.inr J) J ?_ dD
  rw [lvMul_no1 (.inl h8)]; rfl
 refine aA (bZ J) J <| Um J J <| aJ J (cR J) J <| aJ J (aE J (bV k2 b hIb om (fun r hr => by have := l4 r hr; omega)) dD) J <| dM (fun h12 => ?_) (fun h12 => ?_)
 rotate_left
 ·refine aJ J (bZ J) J <| aA (cD J J) J <| Ua J J <| Wn <| bI J <| Rg 2 J <| Ua J J <| Ua J J <| Wn <| aK <| aO <| post (n := 0) (.inr J) J ?_ dD
  rw [lvMul_no1 (.inr h12)]; rfl
 refine aJ J (bZ J) J <| aA (cD J J) J <| Ua J J <| Wn <| bH J <| Rg 11 J <| Um J J <| aA (aX J J) J <| aA (fU J J) J <| aW (fun h18 => ?_) (fun h18 => ?_)
 rotate_left
 ·refine Um J J <| K1 J J <| K1 J J <| K1 J J <| K1 J J <| K1 J J <| aA (cD J J) J <| Ua J J <| Nk [0,1,15] J <| bH J <| bJ <| aD <| Ck [0,1] J ?_
  exact J5 h8 h12 om _
 refine Um J J <| aJ J (cR J) J <| aJ J (aE J (cN k a) dD) J <| aJ J (cR J) J <| aJ J (aX J J) J <| aJ J (eG J J) J <| aW (fun h24 => ?_) (fun h24 => ?_)
 rotate_left
 ·refine aA (cG J J) J <| Ua J J <| Nk [0,1,15] J <| bH J <| bJ <| aD <| Ck [0,1] J ?_
  exact J5 h8 h12 om _
 refine aA (cG J J) J <| Ua J J <| Nk [0,1,15] J <| bI J <| Rg 2 J <| Ua J J <| Ua J J <| Wn <| aK <| aO <| post (n := 0) (.inr J) J ?_ dD
 rw [lvMul_no2 h8 h12 om om]; rfl
theorem qE (k k2 : Nat) (a : List M1) (x : List NM) (hI : IM a) (hIb : IV x) (hF : Few8 a) (lx : x.length ≤ 70) : Run Try.prog T E0 (.call 29 [.sl k (a.map fM), .sl k2 (x.map mc)] (lvApp a x)) := by
 have l1 := hF.ln
 have l2 : ∀ r, r ∈ a → r.2.length < 1099511627776 := fun r hr => by have := hF.lr r hr; omega
 refine bC Try.func29 J J (cW J) ?_
 have J5 : ∀ (hVa : VM a = true) (hVb : VV x = true) (hdim : 0 < a.length → wd a = x.length) (n : Nat) , WC Try.prog T E0 Try.f29.ntmps (codeR (codeR (codeOf Try.f29))) [(0, .sl k (a.map fM)), (1, .sl k2 (x.map mc))] [] n (Post T Try.f29.results.toList (lvApp a x)) := by
  intro hVa hVb hdim n
  refine Rg 1 J ?_
  have hla : (a.map nxr).length = a.length := List.length_map _
  obtain ⟨f1, f2⟩ := VM.facts hVa
  obtain ⟨f3, hvb⟩ := VV.facts hVb
  have hva : ∀ r, r ∈ a → ∀ x, x ∈ r.2 → VN x := fun r hr => (f2 r hr).2.2
  refine Ua J J <| Wn <| Rg 3 J <| Um J J <| aA (aE J (fZ k2 x om hIb (fun y hy => by have := (hvb y hy).1; omega)) dD) J <| Ua J J <| Wn <| aC <| Rg 4 J <| Um J J <| aA (aE J (cE k a om hI (fun r hr x hx => by have := (hva r hr x hx).1; omega) l2) dD) J <| aA (aX J J) J <| Um J J <| Wn <| aG <| aY (α := Nat × Nat × (List X)) (fun ⟨i, q, ds⟩ => [(6, outV q 4 (ds.map xc)), (7, .sl (kd (x.map nx).length) ((x.map nx).map xc)), (33, .sl (kd (a.map nxr).length) ((a.map nxr).map fX)), (34, .v (.int .i64 ((a.map nxr).length : Int))), (35, .v (.int .i64 (i : Int)))]) (fun ⟨i, q, ds⟩ => outH q 4 114 (ds.map xc) []) (fun ⟨i, q, ds⟩ n => i ≤ (a.map nxr).length ∧ ds.map (·.1) = ((vM a).take i).map (fun r => dotR r (x.map nq)) ∧ ds.length = i ∧ q < n) (fun ⟨i, q, ds⟩ => (a.map nxr).length - i) (0, 0, []) ⟨J, J, J, J, J, trivial⟩ trivial ⟨Nat.zero_le _, by simp, rfl, om⟩ ?_
  rintro ⟨i, q, ds⟩ n hF
  change WC _ _ _ _ _ (_ :: _) (outH _ _ _ _ _) n _
  obtain ⟨hi, hds, hdl, hq⟩ := hF
  refine Rg 1 J <| aA (bS J J) J <| aW (fun h36 => ?_) (fun h36 => ?_)
  rotate_left
  ·refine Wn <| aR J <| aT <| aP <| aN J <| Rg 6 J <| Um J J <| bL (aS (b := lvOV (appO a x)) (oCallU J (by rw [fB]; exact iS _ ds (by rw [List.length_map] at *; omega)) (fun hu => cU hu) (by decide) (bK (n := 4) (fun _ => rfl)) (aU rD) (bA (by simp))) (congrArg lvOV (by
 have hap : (vM a).take i = vM a := List.take_of_length_le (by simp [vM] at *; omega)
 rw [hap] at hds
 rw [show (ds.mapM fun x => outN x.1) = (ds.map (·.1)).mapM outN from (fW outN (·.1) ds).symm, hds]; rfl))) rfl ?_
   refine aA (bU J J) J <| aA (bU J J) J <| Ua J J <| Ua J J <| Wn <| aK <| post (n := 0) (.inr J) J ?_ dD
   rw [lvApp_ok hVa hVb hdim]; rfl
  refine Wn <| aV J <| aF <| aG <| Rg 3 J <| aA (bY J J J J J om J) J <| aA (dQ J J J) J <| Ua J J <| cM ?_
  have hro : ((a.map nxr).getD i default) = nxr (a.getD i default) := lO (by rw [List.length_map] at *; omega)
  have hma := bD (us := a) (i := i) (by rw [List.length_map] at *; omega)
  have hrl : ((a.map nxr).getD i default).2.length = x.length := by
   rw [hro]; show ((a.getD i default).2.map nx).length = _
   rw [List.length_map, (f2 _ hma).1]; exact hdim (List.length_pos_of_mem hma)
  have hAb : ∀ y, y ∈ ((a.map nxr).getD i default).2 → Bd 2 y.1 := fun y hy => by
   rw [hro] at hy
   obtain ⟨z, hz, rfl⟩ := List.mem_map.1 hy
   exact (hva _ hma z hz).bd
  have hBb : ∀ y, y ∈ x.map nx → Bd 2 y.1 := fun y hy => by
   obtain ⟨z, hz, rfl⟩ := List.mem_map.1 hy
   exact (hvb z hz).bd
  obtain ⟨_, hr, s, rfl, hs⟩ := qI ((a.map nxr).getD i default).1 (kd (x.map nx).length) ((a.map nxr).getD i default).2 (x.map nx) 2 2 (by rw [List.length_map, hrl]; omega) (by rw [hrl]; omega) hAb hBb om (by rw [hrl]; omega)
  refine aI (z := 7) J <| Um J J <| Um J J <| Um J J <| aA (aE J (hr) dD) J <| aA (dJ (cs := [_, _, _, _]) (rows := [[_, _, _, _]]) J J (by decide) J J J) J <| fJ (te := ti114) (f := xc) (q := q) (us := ds) (u := s) J J J J J (fun _ => rfl) (by decide) (by rw [List.length_map] at *; show (2 * (ds.length + 1) + 256) * 64 ≤ _; omega) (by rw [List.length_map] at *; omega) J J J <| Ua J J <| Wn <| aD <| Ck [6,7,33,34,35] J <| aI (z := 2) J <| aA (cI (((i + 1 : Nat) : Int)) (aQ J J om) om) J <| Um J J <| Wn <| aH <| ⟨⟨i + 1, _, ds ++ [s]⟩, ⟨J, J, J, J, J, trivial⟩, dT, ⟨om, ?_, by simp; omega, om⟩, by show (a.map nxr).length - (i + 1) < (a.map nxr).length - i; omega⟩
  rw [List.map_append, hds, dX (us := vM a) (f := (fun r => dotR r (x.map nq))) (by simp [vM] at *; omega)]
  congr 1
  show [s.1] = [dotR ((vM a).getD i default) (x.map nq)]
  have hvm : (vM a).getD i default = (a.getD i default).2.map nq := lO (f := fun r : M1 => r.2.map nq) (by rw [List.length_map] at *; omega)
  rw [hvm, hs, hro]
  show [dotR (((a.getD i default).2.map nx).map (·.1)) ((x.map nx).map (·.1))] = _
  rw [List.map_map, List.map_map]; rfl
 refine Rg 2 J <| Ua J J <| Ua J J <| Wn <| aG <| Rg 9 J <| Um J J <| aA (aE J (bV k a hI om (fun r hr => by have := l2 r hr; omega)) dD) J <| dM (fun h12 => ?_) (fun h12 => ?_)
 rotate_left
 ·refine aA (bZ J) J <| Um J J <| K1 J J <| K1 J J <| K1 J J <| aA (cG J J) J <| Ua J J <| Wn <| bI J <| Rg 2 J <| Ua J J <| Ua J J <| Wn <| aK <| aO <| post (n := 0) (.inr J) J ?_ dD
  rw [lvApp_no1 (.inl h12)]; rfl
 refine aA (bZ J) J <| Um J J <| aJ J (cR J) J <| aJ J (aE J (lU k2 x hIb om) dD) J <| dM (fun h16 => ?_) (fun h16 => ?_)
 rotate_left
 ·refine aJ J (bZ J) J <| aA (cD J J) J <| Ua J J <| Wn <| bI J <| Rg 2 J <| Ua J J <| Ua J J <| Wn <| aK <| aO <| post (n := 0) (.inr J) J ?_ dD
  rw [lvApp_no1 (.inr h16)]; rfl
 refine aJ J (bZ J) J <| aA (cD J J) J <| Ua J J <| Wn <| bH J <| Rg 11 J <| Um J J <| aA (aX J J) J <| aA (fU J J) J <| aW (fun h22 => ?_) (fun h22 => ?_)
 rotate_left
 ·refine Um J J <| K1 J J <| K1 J J <| K1 J J <| K1 J J <| K1 J J <| aA (cD J J) J <| Ua J J <| Nk [0,1,19] J <| bH J <| bJ <| aD <| Ck [0,1] J ?_
  exact J5 h12 h16 om _
 refine Um J J <| aJ J (cR J) J <| aJ J (aE J (cN k a) dD) J <| aJ J (cR J) J <| aJ J (aX J J) J <| aJ J (eG J J) J <| aW (fun h28 => ?_) (fun h28 => ?_)
 rotate_left
 ·refine aA (cG J J) J <| Ua J J <| Nk [0,1,19] J <| bH J <| bJ <| aD <| Ck [0,1] J ?_
  exact J5 h12 h16 om _
 refine aA (cG J J) J <| Ua J J <| Nk [0,1,19] J <| bI J <| Rg 2 J <| Ua J J <| Ua J J <| Wn <| aK <| aO <| post (n := 0) (.inr J) J ?_ dD
 rw [lvApp_no2 h12 h16 om om]; rfl
theorem few2_run (k k2 : Nat) (a b : List M1) : Run Try.prog T E0 (.call 24 [.sl 2 [[.sl k (a.map fM)], [.sl k2 (b.map fM)]]] (.v (.bool (fewb a && fewb b)))) := by
 refine bC Try.func24 J J (cW J) <| Rg 1 J <| Ua J J <| Wn <| aC <| Rg 3 J <| Um J J <| aA (cI 2 (lH J J) J) J <| Um J J <| Wn <| aG <| dF <| Rg 1 J <| aA (bS J J) J <| aW (fun h8 => ?_) (fun h8 => ?_)
 rotate_left
 ·omega
 refine Wn <| aV J <| aF <| aG <| Rg 3 J <| aA (oIx (j := 0) J J J J J J J) J <| aA (dQ J J J) J <| Ua J J <| Wn <| Rg 3 J <| Um J J <| aA (aE J (few_run k a) dD) J <| dM (fun h12 => ?_) (fun h12 => ?_)
 rotate_left
 ·refine aA (bZ J) J <| Wn <| bI J <| Rg 1 J <| Ua J J <| Wn <| aK <| aO <| unr_ret <| aO <| post (n := 0) (.inr J) J ?_ dD
  exact congrArg (fun z => LV.v (.bool z)) (show false = (fewb a && fewb b) by first | (rw [h12]; rfl) | (rw [hfa, h12]; rfl))
 refine aA (bZ J) J <| Wn <| bH J <| bJ <| aD ?_
 have hfa := h12
 refine aI (z := 2) J <| aA (cI 1 (aQ J J om) om) J <| Um J J <| Wn <| jK <| dF <| Rg 1 J <| aA (bS J J) J <| aW (fun h8 => ?_) (fun h8 => ?_)
 rotate_left
 ·omega
 refine Wn <| aV J <| aF <| aG <| Rg 3 J <| aA (oIx (j := 1) J J J J J J J) J <| aA (dQ J J J) J <| Ua J J <| Wn <| Rg 3 J <| Um J J <| aA (aE J (few_run k2 b) dD) J <| dM (fun h12 => ?_) (fun h12 => ?_)
 rotate_left
 ·refine aA (bZ J) J <| Wn <| bI J <| Rg 1 J <| Ua J J <| Wn <| aK <| aO <| unr_ret <| aO <| post (n := 0) (.inr J) J ?_ dD
  exact congrArg (fun z => LV.v (.bool z)) (show false = (fewb a && fewb b) by first | (rw [h12]; rfl) | (rw [hfa, h12]; rfl))
 refine aA (bZ J) J <| Wn <| bH J <| bJ <| aD <| aI (z := 2) J <| aA (cI 2 (aQ J J om) om) J <| Um J J <| Wn <| jK <| dF <| Rg 1 J <| aA (bS J J) J <| aW (fun h8 => ?_) (fun h8 => ?_)
 ·omega
 refine Wn <| aR J <| aT <| eY <| aN J <| Rg 1 J <| Ua J J <| Wn <| aK <| post (n := 0) (.inr J) J ?_ dD
 exact congrArg (fun z => LV.v (.bool z)) (show true = (fewb a && fewb b) by rw [hfa, h12]; rfl)
end Go.Proofs.Ytcblgjaomljikaa
namespace Go.Proofs.Ytcblgjaomljikaa
open Go.Ab Go.RowKit
theorem mI (rows0 : List X1) (cols w : Nat) (hne : 0 < rows0.length) (ln : rows0.length < 1000000) (hw : Wid w (vX rows0)) (hcw : cols ≤ w) (hc10 : cols ≤ 10) (lw : w < 1000000) (hb : BdL 2 (vX rows0)) : ∃ sz len ob rest, Run Try.prog T E0 (.callO 97 [.sl 1 (rows0.map fX), .v (.int .i64 (cols : Int))] (.tup (.ref 0 sz 0 len :: rest)) ob) ∧ sz = 1 ∧ ∃ (rows : List X1) (d : X), len = rows.length ∧ ob = { cells := (rows.map fX).flatten, sz := 1, elem := 108, st := 0 } ∧ rest = [.sl (kd (gjn (vX rows0) cols).2.length) ((gjn (vX rows0) cols).2.map d64), lvX d] ∧ vX rows = (gjn (vX rows0) cols).1 := by
 refine mkcallOt Try.func97 J J (cW J) ((oN rows0 cols w hne ln hw hcw hc10 lw hb).mono ?_)
 rintro x e h n ⟨hx, q, rows, d, h1, h2, h3, h4, h5⟩
 refine ⟨hx, 1, rows.length, _, 4, q, 1, 3, _, [lvX d], ⟨rfl, rows, d, rfl, rfl, by rw [fB], h1⟩, h3, h4, rfl, rfl, ?_, fun hu => ⟨?_, h5 hu⟩, by decide, bK (n := 1) (fun _ => rfl), iH, by simp⟩
 ·intro c hc
  obtain ⟨row, hr, hc⟩ := List.mem_flatten.1 hc
  exact aU dfX row hr c hc
 ·intro hq
  have h6 := h5 hu
  rw [← hq, h4] at h6
  exact absurd (congrArg Ob.elem (Option.some.inj h6)) (by show ¬ (108 : Nat) = 3; decide)
theorem eL (k : Nat) (a : List M1) : Run Try.prog T E0 (.call 94 [.sl k (a.map fM)] (.v (.bool (sqb a)))) := by
 refine bC Try.func94 J J (cW J) <| Rg 1 J <| Ua J J <| Wn <| Rg 11 J <| Um J J <| aA (aX J J) J <| aA (fR J J) J <| aW (fun h5 => ?_) (fun h5 => ?_)
 ·refine Um J J <| K1 J J <| K1 J J <| K1 J J <| K1 J J <| K1 J J <| aA (cG J J) J <| Ua J J <| Wn <| aK <| post (n := 0) (.inr J) J ?_ dD
  exact congrArg (fun z => LV.v (.bool z)) (show true = sqb a by unfold sqb; rw [decide_eq_true om]; rfl)
 refine Um J J <| aJ J (cR J) J <| aJ J (aE J (cN k a) dD) J <| aJ J (cR J) J <| aJ J (aX J J) J <| aJ J (fR J J) J <| aA (cD J J) J <| Ua J J <| Wn <| aK <| post (n := 0) (.inr J) J ?_ dD
 refine congrArg (fun z => LV.v (.bool z)) (?_ : _ = sqb a)
 unfold sqb; rw [decide_eq_false (show ¬ a.length = 0 by omega), Bool.false_or]; exact decide_eq_decide.2 om
theorem kC (m : Nat) (lm : m < 100000) : Run Try.prog T E0 (.call 95 [.v (.int .i64 (m : Int))] (.sl 1 (((List.range m).map fun i => (((1 : Nat), uX m i) : X1)).map fX))) := by
 refine bC Try.func95 J J (cW J) <| Rg 1 J <| Ua J J <| Wn <| Rg 3 J <| Um J J <| bL (oMk (a := m) (b := m) J J J J om om (by decide) om (by show 24 * m ≤ _; omega) om) J <| Ua J J <| Wn <| aC <| Rg 2 J <| Um J J <| Um J J <| Wn <| aG <| aY (α := Nat × (List LV)) (fun ⟨i, cs⟩ => [(0, .v (.int .i64 (m : Int))), (3, .ref 2 1 0 m), (7, .v (.int .i64 (m : Int))), (8, .v (.int .i64 (i : Int)))]) (fun ⟨i, cs⟩ => [(2, { cells := (cs.map one1).flatten, sz := 1, elem := 108, st := 0 })]) (fun ⟨i, cs⟩ n => i ≤ m ∧ cs.length = m ∧ (∀ j, j < i → cs.getD j default = .sl 1 ((uX m j).map xc)) ∧ 2 < n) (fun ⟨i, cs⟩ => m - i) (0, List.replicate m (.sl 0 [])) ⟨J, J, J, J, trivial⟩ ⟨g0.trans (by rw [List.map_replicate]; rfl), trivial⟩ ⟨Nat.zero_le _, by simp, by intro j hj; omega, om⟩ ?_
 rintro ⟨i, cs⟩ n hF
 change WC _ _ _ _ _ (_ :: _) (_ :: _) n _
 obtain ⟨hi, hcl, hcs, hn⟩ := hF
 refine Rg 1 J <| aA (bS J J) J <| aW (fun h9 => ?_) (fun h9 => ?_)
 rotate_left
 ·refine Wn <| aR J <| aT <| aP <| aN J <| Rg 2 J <| Um J J <| Ua J J <| Wn <| aK ?_
  have hcs' : cs = (List.range m).map fun i => .sl 1 ((uX m i).map xc) := by
   refine kB (by simp [hcl]) fun j hj => ?_
   rw [hcs j om, eN om]
  refine mO (n := 0) _ (.inr J) J (by simp) g0 (by show (0 : Nat) ≠ 2; decide) J (by decide) ?_ (bK (n := 1) (fun _ => rfl)) (aU dfX)
  rw [hcs', List.map_map, List.map_map]; rfl
 refine Wn <| aV J <| aF <| aG <| Rg 2 J <| Um J J <| Ua J J <| Wn <| Rg 6 J <| Um J J <| Um J J <| Um J J <| bL (oMk (a := m) (b := m) J J J J om om (by decide) om (by show 64 * m ≤ _; omega) om) J <| aA (cC J J J J J om J) J <| bB (eA (f := one1) (us := cs) (.ref (n + 1 + 2 + 3) 4 0 m) J J J (g1 om g0) (fun _ => rfl) J J om J) <| Wn <| dR (z := 8) J kR <| Dm J J <| Dm J J <| aL (cC J J J J J om J) J <| aL (aS (b := .ref (n + 1 + 2 + 3) 4 0 m) (dZ (f := one1) (us := cs.set i (.ref (n + 1 + 2 + 3) 4 0 m)) (j := i) J J g0 (fun _ => rfl) J (by decide) (by rw [List.length_set]; omega) J) (by rw [bP om, if_pos J])) J <| Dm J J <| aL (aE J (iX 1 (by unfold I64; omega)) dD) J <| aL (cC J J J J J om J) J ?_
 refine dP (eA (f := xc) (us := List.replicate m x0) (xint 1) J J J (g1 om (g0.trans (by rw [List.map_replicate]; rfl))) (fun _ => rfl) J J (by rw [List.length_replicate]; omega) J) <| bT (bE kR) J <| aD <| Ck [0,3,7,8] J ?_
 have hux : (uX m i).map xc ≠ [] := by intro h; have := congrArg List.length h; rw [List.length_map, qZ] at this; simp at this; omega
 refine fI (outH (n + 1 + 2 + 3) 4 114 ((uX m i).map xc) [(2, { cells := ((cs.set i (.ref (n + 1 + 2 + 3) 4 0 m)).map one1).flatten, sz := 1, elem := 108, st := 0 })]) (subsM_mk (fun _ => g0) (g1 om g0)) <| pM (z := 2) J <| aA (cI (((i + 1 : Nat) : Int)) (aQ J J om) om) J <| Um J J <| Wn <| Fz.cell (j := i) (q := n + 1 + 2 + 3) (us := (uX m i).map xc) [(0, _), (3, _), (7, _), (8, _)] ⟨J, J, J, J, trivial⟩ (by rw [List.length_set]; omega) (by rw [bP om, if_pos J, kY hux, List.length_map, qZ]) om (by decide) (bK (n := 4) (fun _ => rfl)) (aU rD) ?_
 rw [fB]
 refine aH <| ⟨⟨i + 1, (cs.set i (.ref (n + 1 + 2 + 3) 4 0 m)).set i (.sl (kd (uX m i).length) ((uX m i).map xc))⟩, ⟨J, J, J, J, trivial⟩, ⟨g0, trivial⟩, ⟨om, by rw [List.length_set, List.length_set]; exact hcl, ?_, om⟩, by show m - (i + 1) < m - i; omega⟩
 intro j hj
 rw [bP (by rw [List.length_set]; omega)]
 by_cases e : i = j
 ·subst e; rw [if_pos rfl, qZ, kd, if_neg om]
 ·rw [if_neg e, bP om, if_neg e]; exact hcs j om
end Go.Proofs.Ytcblgjaomljikaa
namespace Go.Proofs.Ytcblgjaomljikaa
open Go.Ab Go.RowKit
theorem minverse_run (k : Nat) (a : List M1) (hI : IM a) (hF : Few8 a) (hne : 0 < a.length) : Run Try.prog T E0 (.call 33 [.sl k (a.map fM)] (lvInv a)) := by
 have l1 := hF.ln
 have l2 : ∀ r, r ∈ a → r.2.length < 1099511627776 := fun r hr => by have := hF.lr r hr; omega
 refine bC Try.func33 J J (cW J) <| Rg 2 J <| Ua J J <| Ua J J <| Wn <| aG <| Rg 4 J <| Um J J <| aA (aE J (bV k a hI om (fun r hr => by have := l2 r hr; omega)) dD) J <| dM (fun h15 => ?_) (fun h15 => ?_)
 rotate_left
 ·refine aA (bZ J) J <| Ua J J <| Wn <| bI J <| Rg 2 J <| Ua J J <| Ua J J <| Wn <| aK <| aO <| post (n := 0) (.inr J) J ?_ dD
  rw [lvInv_no1 h15]; rfl
 refine aA (bZ J) J <| Ua J J <| Wn <| bH J <| Rg 4 J <| Um J J <| aA (aE J (eL k a) dD) J <| dM (fun h19 => ?_) (fun h19 => ?_)
 rotate_left
 ·refine aA (bZ J) J <| Ua J J <| Wn <| bI J <| Rg 2 J <| Ua J J <| Ua J J <| Wn <| aK <| aO <| post (n := 0) (.inr J) J ?_ dD
  rw [lvInv_no2 h15 h19]; rfl
 refine aA (bZ J) J <| Ua J J <| Wn <| bH J <| bJ <| aD ?_
 obtain ⟨f1, f2⟩ := VM.facts h15
 have hvn : ∀ r, r ∈ a → ∀ x, x ∈ r.2 → VN x := fun r hr => (f2 r hr).2.2
 have hw8 := iG h15 hF
 have hsq := qS h19
 have hmr := cE k a om hI (fun r hr x hx => by have := (hvn r hr x hx).1; omega) l2
 obtain ⟨al, hal⟩ : ∃ al, al = a.map nxr := ⟨_, rfl⟩
 have hl8 : al.length = a.length := by rw [hal]; simp
 have hw : ∀ r, r ∈ al → r.2.length = al.length := fun r hr => by
  rw [hal] at hr; obtain ⟨s, hs, rfl⟩ := List.mem_map.1 hr
  show (s.2.map nx).length = _; rw [List.length_map, (f2 s hs).1, hsq, hl8]
 have hk : ∀ r, r ∈ al → r.1 = kd r.2.length := fun r hr => by
  rw [hal] at hr; obtain ⟨s, hs, rfl⟩ := List.mem_map.1 hr; rfl
 have hvm : vX al = vM a := by rw [hal]; exact eP a
 have hba : BdL 2 (vX al) := by rw [hvm]; exact iF h15
 rw [← hal] at hmr
 have hvmr := congrArg List.length hvm
 have hiS : invS a = gjn (wU (vX al)) al.length := by unfold invS; rw [hvm, hl8]
 rw [kd, if_neg om] at hmr
 refine Rg 3 J <| Um J J <| aA (cI ((al.length : Int)) (aX J J) (by simp [hl8])) J <| Ua J J <| Wn <| Rg 1 J <| Ua J J <| Nk [0,4,5] J <| Rg 3 J <| Um J J <| aA (aE J (kC al.length om) dD) J <| Ua J J <| Wn <| aC <| Rg 4 J <| Um J J <| aA (aE J (hmr) dD) J <| aA (aX J J) J <| Um J J <| Wn <| aG <| aY (α := Nat × Nat × (List X1)) (fun ⟨i, q, ds⟩ => [(4, .v (.int .i64 (al.length : Int))), (5, outV q 1 (ds.map fX)), (6, .sl 1 (((List.range al.length).map fun i => (((1 : Nat), uX al.length i) : X1)).map fX)), (26, .sl 1 (al.map fX)), (27, .v (.int .i64 (al.length : Int))), (28, .v (.int .i64 (i : Int)))]) (fun ⟨i, q, ds⟩ => outH q 1 108 (ds.map fX) []) (fun ⟨i, q, ds⟩ n => i ≤ al.length ∧ ds = (List.range i).map (wUX al) ∧ ds.length = i ∧ q < n) (fun ⟨i, q, ds⟩ => al.length - i) (0, 0, []) ⟨J, J, J, J, J, J, trivial⟩ trivial ⟨Nat.zero_le _, rfl, rfl, om⟩ ?_
 rintro ⟨i, q, ds⟩ n hF
 change WC _ _ _ _ _ (_ :: _) (outH _ _ _ _ _) n _
 obtain ⟨hi, hds, hdl, hq⟩ := hF
 refine Rg 1 J <| aA (bS J J) J <| aW (fun h29 => ?_) (fun h29 => ?_)
 ·refine Wn <| aV J <| aF <| aG <| Rg 5 J <| Um J J <| aA (bY J J J J J om J) J <| aA (dQ J J J) J <| Ua J J <| Ua J J <| cM ?_
  have hm := bD (us := al) (i := i) om
  have hrw := hw _ hm
  have hrk := hk _ hm
  have hc0 : ((al.getD i default).2.map xc) = [] → Run Try.prog T E0 (.call 99 [.sl (al.getD i default).1 ((al.getD i default).2.map xc)] (.sl 0 [])) := fun h => by
   rw [hrk, xc_nil h]; exact lK
  have hc1 : ((al.getD i default).2.map xc) ≠ [] → Run Try.prog T E0 (.callO 99 [.sl (al.getD i default).1 ((al.getD i default).2.map xc)] (.ref 0 4 0 ((al.getD i default).2.map xc).length) { cells := ((al.getD i default).2.map xc).flatten, sz := 4, elem := 114, st := 0 }) := fun h => by
   have h2 : 0 < (al.getD i default).2.length := by
    rcases Nat.eq_zero_or_pos (al.getD i default).2.length with h3 | h3
    ·exact absurd (by rw [List.length_eq_zero_iff.1 h3]; rfl) h
    ·exact h3
   obtain ⟨_, _, _, h4, rfl, rfl, rfl⟩ := jC (al.getD i default).1 (al.getD i default).2 (by rw [hrk, kd, if_neg om]; decide) h2 om
   rw [List.length_map]; exact h4
  have hux : (uX al.length i).length = al.length := qZ _ _
  have hul : ((List.range al.length).map fun i => (((1 : Nat), uX al.length i) : X1)).length = al.length := by simp
  refine nD (z := 11) J kR <| Dm J J <| Dm J J <| pO (us := (al.getD i default).2.map xc) (sz := 4) (el := 114) J hc0 hc1 dD J <| Dm J J <| Dm J J <| aL (bY (j := i) J J J J om om J) J <| aL (aS (b := .sl 1 ((uX al.length i).map xc)) (dQ J J J) (by rw [eN om])) J <| pN (te := ti114) (k0 := 0) (us := (al.getD i default).2.map xc) (rows := (uX al.length i).map xc) (.inl J) J J J J J (by decide) (bK (n := 4) (fun _ => rfl)) (bK (n := 4) (fun _ => rfl)) (by rw [List.length_map, hux]; omega) (by rw [List.length_map, List.length_map, hrw, hux]; show (2 * (al.length + al.length) + 256) * 64 ≤ _; omega) (by rw [List.length_map, List.length_map, hrw, hux]; show al.length + al.length < _; omega) (aM om J) J <| aL (dJ (cs := [_]) (rows := [[_]]) J J (by decide) J J J) J <| lV _ (nS om) <| pN (te := ti108) (k0 := 0) (us := ds.map fX) (rows := [[_]]) (.inl J) J J J (by rw [kX]; rfl) J (by decide) (by intro r hr; rw [List.mem_singleton] at hr; subst hr; rfl) (bK (n := 1) (fun _ => rfl)) (by simp) (by rw [List.length_map]; show (2 * (ds.length + 1) + 256) * 24 ≤ _; omega) (by rw [List.length_map]; show ds.length + 1 < _; omega) (g1 om J) J <| aL (fV J) J <| bT (lL (rn n) (by simp only [List.reverse_cons, List.reverse_nil, List.nil_append, List.cons_append, List.map_cons, List.map_nil, ren, Nat.add_assoc, rn_add, rn_lt hq]; kernel_rfl)) J <| Fz.rows (d := 5) ds (wUX al i) (ys := ((al.getD i default).2 ++ (uX al.length i)).map xc) [(4, _), (6, _), (26, _), (27, _), (28, _)] ⟨J, J, J, J, J, trivial⟩ J (by simp) J om (by simp) (by decide) (by simp) (bK (n := 4) (fun _ => rfl)) (aU rD) <| aD <| aI (z := 2) J <| aA (cI (((i + 1 : Nat) : Int)) (aQ J J om) om) J <| Um J J <| Wn <| aH <| ⟨⟨i + 1, _, ds ++ [wUX al i]⟩, ⟨J, J, J, J, J, J, trivial⟩, dT, ⟨om, by rw [List.range_succ, List.map_append, hds]; rfl, by simp; omega, om⟩, by show al.length - (i + 1) < al.length - i; omega⟩
 refine Wn <| aR J <| aT <| aP <| aN J ?_
 obtain ⟨d0, dt, rfl⟩ : ∃ d0 dt, ds = d0 :: dt := by
  cases ds with
  | nil => simp at hdl; omega
  | cons d dt => exact ⟨d, dt, rfl⟩
 obtain rfl : i = al.length := by omega
 have hvw : vX (d0 :: dt) = wU (vX al) := by rw [hds]; exact vX_wU al
 have hwid : Wid (al.length + al.length) (wU (vX al)) := by
  have h := wU_wid (A := vX al) (w := al.length) (fun r hr => by obtain ⟨s, hs, rfl⟩ := List.mem_map.1 hr; rw [List.length_map]; exact hw s hs)
  rwa [bQ] at h
 have hbd : BdL 2 (wU (vX al)) := wU_bd (by decide) hba
 obtain ⟨sz, len, ob, rest, hr, rfl, rows, d, rfl, rfl, rfl, hrows⟩ := mI (d0 :: dt) al.length (al.length + al.length) (by simp) om (by rw [hvw]; exact hwid) om om om (by rw [hvw]; exact hbd)
 rw [hvw] at hr hrows
 obtain ⟨_, gw, gl, gc⟩ := GInv.all hbd hwid al.length
 have hrl : rows.length = al.length := by
  have := congrArg List.length hrows
  rw [cP, rA, bQ, bQ] at this; exact this
 rw [rA, bQ] at gl
 rw [← hiS] at hr hrows gw gl
 have hwr := iK gw hrows
 clear hiS hvmr
 refine Rg 11 J <| Um J J <| Um J J <| bL (oCallOF [.sl 1 ((d0 :: dt).map fX), .v (.int .i64 (al.length : Int))] [(q, { cells := ((d0 :: dt).map fX).flatten, sz := 1, elem := 108, st := 1 })] J hr (.own (ob := { cells := ((d0 :: dt).map fX).flatten, sz := 1, elem := 108, st := 0 }) ((d0 :: dt).map fX) (by simp) g0 (by show (0 : Nat) ≠ 2; decide) J (by decide) (by simp [keys]) J (bK (n := 1) (fun _ => rfl)) (aU dfX) (.data (.v _) .nil)) (by intro p hp; rw [List.mem_singleton] at hp; subst hp; exact ⟨_, g0, by show (0 : Nat) ≠ 2; decide, rfl⟩)) J <| Um J J <| aA (bU J J) J <| aA (bU J J) J <| aA (bU J J) J <| bL (gM J) J <| Ua J J <| Ua J J <| bB (dH (cs' := [_, _, _, _]) J J J g0 J J J J) <| Nk [4,9,10] J <| aC <| Rg 4 J <| Um J J <| aA (aX J J) J <| Um J J <| aA (bS J J) J <| aW (fun h54 => ?_) (fun h54 => ?_)
 ·refine Wn <| aV J <| aC <| Rg 2 J <| Ua J J <| Ua J J <| Wn <| bM <| post (n := 0) (.inr J) J ?_ dD
  rw [lvInv_no3 h15 h19 om]; rfl
 refine Wn <| aR J <| aF <| aC <| Rg 3 J <| Um J J <| aA (kF J J) J <| Um J J <| Wn <| aG <| aY (α := Nat × Nat × (List X1)) (fun ⟨i, q2, cs⟩ => [(4, .v (.int .i64 (al.length : Int))), (9, .ref q2 1 0 rows.length), (56, .v (.int .i64 (rows.length : Int))), (57, .v (.int .i64 (i : Int)))]) (fun ⟨i, q2, cs⟩ => [(q2, { cells := (cs.map fX).flatten, sz := 1, elem := 108, st := 0 })]) (fun ⟨i, q2, cs⟩ n => i ≤ rows.length ∧ cs = (rows.take i).map (cutX al.length) ++ rows.drop i) (fun ⟨i, q2, cs⟩ => rows.length - i) (0, _, rows) ⟨J, J, J, J, trivial⟩ ⟨gG, trivial⟩ ⟨Nat.zero_le _, rfl⟩ ?_
 rintro ⟨i, q2, cs⟩ n hF
 change WC _ _ _ _ _ (_ :: _) (_ :: _) n _
 obtain ⟨hi, hcs⟩ := hF
 have hcl : cs.length = rows.length := by rw [hcs, half_len hi]
 refine Rg 1 J <| aA (bS J J) J <| aW (fun h58 => ?_) (fun h58 => ?_)
 rotate_left
 ·refine Wn <| aR J <| aT <| aP <| aN J ?_
  have hcs' : cs = rows.map (cutX al.length) := by
   rw [hcs, show i = rows.length by omega, List.take_length, List.drop_length, List.append_nil]
  have hcr : ∀ r, r ∈ cs → r.2.length < 1099511627776 := by
   intro r hr
   rw [hcs'] at hr
   obtain ⟨s, hs, rfl⟩ := List.mem_map.1 hr
   have := hwr s hs
   show (s.2.drop al.length).length < _
   rw [List.length_drop]; omega
  have hout : lvOM (cs.mapM (fun r => r.2.mapM fun x => outN x.1)) = lvOM (invO a) := by
   rw [iD, hcs', vX_cut, hrows, hl8]; rfl
  refine Rg 6 J <| Um J J <| bL (aS (b := lvOM (invO a)) (hH [.sl 1 (cs.map fX)] [(q2, { cells := (cs.map fX).flatten, sz := 1, elem := 108, st := 1 })] J (gT 1 cs om hcr) (.own (ob := { cells := (cs.map fX).flatten, sz := 1, elem := 108, st := 0 }) (cs.map fX) (by rw [List.length_map, hcl]) g0 (by show (0 : Nat) ≠ 2; decide) J (by decide) (by simp [keys]) J (bK (n := 1) (fun _ => rfl)) (aU dfX) .nil) (by intro p hp; rw [List.mem_singleton] at hp; subst hp; exact ⟨_, g0, by show (0 : Nat) ≠ 2; decide, rfl⟩)) hout) J <| aA (bU J J) J <| aA (bU J J) J <| Ua J J <| Ua J J <| Wn <| aK <| post (n := 0) (.inr J) J ?_ dD
  rw [lvInv_ok h15 h19 om]; rfl
 refine Wn <| aV J <| aF <| aG <| Rg 2 J <| Um J J <| Ua J J <| Wn <| aI (z := 10) J <| Um J J <| Um J J <| Um J J <| Um J J <| aA (cC J J J J J om J) J <| aA (aS (b := .sl (rows.getD i default).1 ((rows.getD i default).2.map xc)) (dZ (f := fX) (us := cs) (j := i) J J g0 (fun _ => rfl) J (by decide) om J) (by rw [hcs, rO om])) J <| Um J J <| aA (aS (b := .sl (rows.getD i default).1 (((rows.getD i default).2.drop al.length).map xc)) (oSlLo (i := al.length) J J J (bK (f := xc) (n := 4) (fun _ => rfl)) J J (by rw [List.length_map, hwr _ (bD om)]; omega)) (by rw [List.map_drop])) J <| aA (cC J J J J J om J) J <| bB (eA (f := fX) (us := cs) (cutX al.length (rows.getD i default)) J J J g0 (fun _ => rfl) J J om J) <| Wn <| aD <| Ck [4,9,56,57] J <| aI (z := 2) J <| aA (cI (((i + 1 : Nat) : Int)) (aQ J J om) om) J ?_
 refine Um J J <| Wn <| aH <| ⟨⟨i + 1, _, cs.set i (cutX al.length (rows.getD i default))⟩, ⟨J, J, J, J, trivial⟩, ⟨g0, trivial⟩, ⟨om, ?_⟩, by show rows.length - (i + 1) < rows.length - i; omega⟩
 rw [hcs, half_set om]
theorem minverse_nil (k : Nat) : Run Try.prog T E0 (.call 33 [.sl k (([] : List M1).map fM)] (lvInv [])) := by
 refine bC Try.func33 J J (cW J) <| Rg 2 J <| Ua J J <| Ua J J <| Wn <| aG <| Rg 4 J <| Um J J <| aA (aS (b := .v (.bool true)) (aE J (bV k [] (by intro r hr; cases hr) (by decide) (by intro r hr; cases hr)) dD) J) J <| aA (bZ J) J <| Ua J J <| Wn <| bH J <| Rg 4 J <| Um J J <| aA (aS (b := .v (.bool true)) (aE J (eL k []) dD) J) J <| aA (bZ J) J <| Ua J J <| Wn <| bH J <| bJ <| aD <| Rg 3 J <| Um J J ?_
 refine aA (cI 0 (lH J J) J) J <| Ua J J <| Wn <| Rg 1 J <| aA (aS (b := .sl 0 []) (fV J) J) J <| Nk [0,4,5] J <| Rg 3 J <| Um J J <| aA (aE J (kC 0 (by decide)) dD) J <| Ua J J <| Wn <| aC <| Rg 4 J <| Um J J <| aA (aS (b := .sl 0 []) (aE J (cE k [] (by decide) (by intro r hr; cases hr) (by intro r hr; cases hr) (by intro r hr; cases hr)) dD) J) J <| aA (cI 0 (lH J J) J) J <| Um J J <| Wn <| aG <| dF <| Rg 1 J <| aA (bS J J) J <| aW (fun h29 => ?_) (fun h29 => ?_)
 ·omega
 refine Wn <| aR J <| aT <| eY <| aN J <| Rg 11 J <| Um J J <| Um J J <| aA (aE J (fP) dD) J <| Um J J <| aA (bU J J) J <| aA (bU J J) J <| aA (bU J J) J <| bL (gM J) J <| Ua J J <| Ua J J <| bB (dH (cs' := [_, _, _, _]) J J J g0 J J J J) <| Nk [4,9,10] J <| aC <| Rg 4 J <| Um J J <| aA (cI 0 (lH J J) J) J <| Um J J ?_
 refine aA (bS J J) J <| aW (fun h54 => ?_) (fun h54 => ?_)
 ·omega
 refine Wn <| aR J <| aF <| aC <| Rg 3 J <| Um J J <| aA (cI 0 (lH J J) J) J <| Um J J <| Wn <| aG <| dF <| Rg 1 J <| aA (bS J J) J <| aW (fun h58 => ?_) (fun h58 => ?_)
 ·omega
 refine Wn <| aR J <| aT <| eY <| aN J <| Rg 6 J <| Um J J <| aA (aE J (gT 0 [] (by decide) (by intro r hr; cases hr)) dD) J <| aA (bU J J) J <| aA (bU J J) J <| Ua J J <| Ua J J <| Nk [2,3] J <| aK <| post (n := 0) (.inr J) J ?_ dD
 rfl
end Go.Proofs.Ytcblgjaomljikaa
namespace Go.Proofs.Ytcblgjaomljikaa
open Go.Ab Go.RowKit
theorem mdetf_run (k : Nat) (a : List M1) (hI : IM a) (hF : Few8 a) (hne : 0 < a.length) : Run Try.prog T E0 (.call 34 [.sl k (a.map fM)] (lvDet a)) := by
 have l1 := hF.ln
 have l2 : ∀ r, r ∈ a → r.2.length < 1099511627776 := fun r hr => by have := hF.lr r hr; omega
 refine bC Try.func34 J J (cW J) <| Rg 2 J <| bL (gM J) J <| Ua J J <| Wn <| aG <| Rg 4 J <| Um J J <| aA (aE J (bV k a hI om (fun r hr => by have := l2 r hr; omega)) dD) J <| dM (fun h9 => ?_) (fun h9 => ?_)
 rotate_left
 ·refine aA (bZ J) J <| Ua J J <| Wn <| bI J <| Rg 3 J <| aA (mJ (cs := [_, _]) J J J J J) J <| bB (dH (cs' := [_, _]) J J J (by repeat (first | exact g0 | refine g1 (by decide) ?_)) J J J J) ?_
  refine Ua J J <| Wn <| aK <| aO <| post (n := 0) (.inr J) J ?_ dD
  rw [lvDet_no1 h9]; rfl
 refine aA (bZ J) J <| Ua J J <| Wn <| bH J <| Rg 4 J <| Um J J <| aA (aE J (eL k a) dD) J <| dM (fun h14 => ?_) (fun h14 => ?_)
 rotate_left
 ·refine aA (bZ J) J <| Ua J J <| Wn <| bI J <| Rg 3 J <| aA (mJ (cs := [_, _]) J J J J J) J <| bB (dH (cs' := [_, _]) J J J (by repeat (first | exact g0 | refine g1 (by decide) ?_)) J J J J) ?_
  refine Ua J J <| Wn <| aK <| aO <| post (n := 0) (.inr J) J ?_ dD
  rw [lvDet_no2 h9 h14]; rfl
 refine aA (bZ J) J <| Ua J J <| Wn <| bH J <| bJ <| aD ?_
 obtain ⟨f1, f2⟩ := VM.facts h9
 have hvn : ∀ r, r ∈ a → ∀ x, x ∈ r.2 → VN x := fun r hr => (f2 r hr).2.2
 have hw8 := iG h9 hF
 have hsq := qS h14
 have hl8 : (a.map nxr).length = a.length := by simp
 obtain ⟨r, hr, rows, d, rfl, hrows, hd⟩ := eU (a.map nxr) (wd a) (wd a) (by rw [hl8]; exact hne) (by rw [hl8]; omega) (by rw [eP a]; exact iJ h9) om om om (by rw [eP a]; exact iF h9)
 rw [eP a] at hrows hr hd
 have hrk : (gjn (vM a) (wd a)).2.length = (gjn (vM a) a.length).2.length := by rw [hsq]
 refine Rg 13 J <| Um J J <| aA (aS (b := .sl 1 ((a.map nxr).map fX)) (aE J (cE k a om hI (fun r hr x hx => by have := (hvn r hr x hx).1; omega) l2) dD) (by rw [hl8, kd, if_neg om])) J <| Um J J <| aA (aE J (cN k a) dD) J <| aA (aE J (hr) dD) J <| Um J J <| aA (bU J J) J <| aA (bU J J) J <| aA (bU J J) J <| bL (gM J) J <| Ua J J <| Ua J J <| bB (dH (cs' := [_, _, _, _]) J J J (by repeat (first | exact g0 | refine g1 (by decide) ?_)) J J J J) ?_
 refine Nk [0,2,5,6] J <| aC <| Rg 5 J <| Um J J <| aA (aX J J) J <| Um J J <| aA (cI ((a.length : Int)) (aX J J) (by simp)) J <| aA (bS J J) J <| aW (fun h30 => ?_) (fun h30 => ?_)
 rotate_left
 ·refine Wn <| aR J <| aF ?_
  have hdet : detV a = d.1 := by unfold detV; rw [if_neg om, hd, hsq]
  refine Rg 6 J <| aA (bF (l := lvX d) J J (by repeat (first | exact g0 | refine g1 (by decide) ?_)) J J) J ?_
  refine aA (aS (b := .tup [lvM (detn a), .v (.int .i64 (dete a))]) (aE J (kD d) dD) (by rw [← hdet]; exact (qC h9 h14).symm)) J <| aA (bU J J) J <| aA (bU J J) J <| bB (dH (cs' := [_, _]) J J J (by repeat (first | exact g0 | refine g1 (by decide) ?_)) J J J J) ?_
  refine Ua J J <| Wn <| aK <| post (n := 0) (.inr J) J ?_ dD
  rfl
 refine Wn <| aV J ?_
 have hdet : detV a = 0 := by unfold detV; rw [if_pos om]
 refine Rg 2 J <| aA (mJ (cs := [_, _, _, _]) J J J J J) J <| bB (dH (cs' := [_, _, _, _]) J J J (by repeat (first | exact g0 | refine g1 (by decide) ?_)) J J J J) ?_
 refine Wn <| Rg 6 J <| aA (bF (l := lvX x0) J J (by repeat (first | exact g0 | refine g1 (by decide) ?_)) J J) J ?_
 refine aA (aS (b := .tup [lvM (detn a), .v (.int .i64 (dete a))]) (aE J (kD x0) dD) (by rw [show (x0.1 : Rat) = 0 from J, ← hdet]; exact (qC h9 h14).symm)) J <| aA (bU J J) J <| aA (bU J J) J <| bB (dH (cs' := [_, _]) J J J (by repeat (first | exact g0 | refine g1 (by decide) ?_)) J J J J) ?_
 refine Ua J J <| Nk [2,3] J <| aK <| post (n := 0) (.inr J) J ?_ dD
 rfl
theorem mdetf_nil (k : Nat) : Run Try.prog T E0 (.call 34 [.sl k (([] : List M1).map fM)] (lvDet [])) := by
 refine bC Try.func34 J J (cW J) <| Rg 2 J <| bL (gM J) J <| Ua J J <| Wn <| aG <| Rg 4 J <| Um J J <| aA (aS (b := .v (.bool true)) (aE J (bV k [] (by intro r hr; cases hr) (by decide) (by intro r hr; cases hr)) dD) J) J <| aA (bZ J) J <| Ua J J <| Wn <| bH J <| Rg 4 J <| Um J J <| aA (aS (b := .v (.bool true)) (aE J (eL k []) dD) J) J <| aA (bZ J) J <| Ua J J <| Wn <| bH J <| bJ <| aD <| Rg 13 J <| Um J J ?_
 refine aA (aS (b := .sl 0 []) (aE J (cE k [] (by decide) (by intro r hr; cases hr) (by intro r hr; cases hr) (by intro r hr; cases hr)) dD) J) J <| Um J J <| aA (aE J (cN k []) dD) J <| aA (aE J (fP) dD) J <| Um J J <| aA (bU J J) J <| aA (bU J J) J <| aA (bU J J) J <| bL (gM J) J <| Ua J J <| Ua J J <| bB (dH (cs' := [_, _, _, _]) J J J (by repeat (first | exact g0 | refine g1 (by decide) ?_)) J J J J) ?_
 refine Nk [0,2,5,6] J <| aC <| Rg 5 J <| Um J J <| aA (cI 0 (lH J J) J) J <| Um J J <| aA (cI 0 (lH J J) J) J <| aA (bS J J) J <| aW (fun h30 => ?_) (fun h30 => ?_)
 ·omega
 refine Wn <| aR J <| aF <| Rg 6 J <| aA (bF (l := lvX (xint 1)) J J (by repeat (first | exact g0 | refine g1 (by decide) ?_)) J J) J ?_
 refine aA (aS (b := .tup [lvM (1, 1), .v (.int .i64 0)]) (aE J (kD (xint 1)) dD) (by rw [show outN (xint 1).1 = some (1, 1) by decide +kernel]; rfl)) J <| aA (bU J J) J <| aA (bU J J) J <| bB (dH (cs' := [_, _]) J J J (by repeat (first | exact g0 | refine g1 (by decide) ?_)) J J J J) ?_
 refine Ua J J <| Wn <| aK <| post (n := 0) (.inr J) J ?_ dD
 exact (show LV.tup [lvM (1, 1), .v (.int .i64 0)] = lvDet [] by rw [qC J J, show outN (detV []) = some (1, 1) by decide +kernel]; rfl)
end Go.Proofs.Ytcblgjaomljikaa
