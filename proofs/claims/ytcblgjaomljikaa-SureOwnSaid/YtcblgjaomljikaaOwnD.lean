/- Part D of the proof of sureOwn_holds: what it rests on. No condition. -/
import Derived.Test.YtcblgjaomljikaaOwnC
set_option linter.unusedVariables false
set_option linter.unusedSimpArgs false
set_option maxRecDepth 100000
set_option maxHeartbeats 4000000
namespace Go.Proofs.Ytcblgjaomljikaa
open Go.Ab Go.RowKit
theorem long_run (k1 k2 : Nat) (xs ys : List Nat) (hx : Dg 4294967296 xs) (hy : Dg 4294967296 ys) (ty : Trm ys) (hl : 2 ≤ ys.length) (hle : ys.length ≤ xs.length) (lx : xs.length < 549755813888) : ∃ r, Run Try.prog T E0 (.call 221 [.sl k1 (xs.map d32), .sl k2 (ys.map d32)] r) ∧ ∃ qs rs, r = .tup [.sl 1 (qs.map d32), .sl 1 (rs.map d32)] ∧ Dg 4294967296 qs ∧ Dg 4294967296 rs ∧ val 4294967296 qs * val 4294967296 ys + val 4294967296 rs = val 4294967296 xs ∧ val 4294967296 rs < val 4294967296 ys ∧ qs.length ≤ xs.length ∧ rs.length = ys.length := by
 obtain ⟨sh, hsh⟩ : ∃ sh, sh = 32 - blen (ys.getD (ys.length - 1) default) := ⟨_, rfl⟩
 obtain ⟨n1, n2, n3⟩ := norm_facts hy ty hl hsh
 obtain ⟨vs, hvs⟩ : ∃ vs, vs = dgs 4294967296 (val 4294967296 ys * 2 ^ sh) := ⟨_, rfl⟩
 rw [← hvs] at n2 n3
 rw [← n2] at n3
 have hvd : Dg 4294967296 vs := by rw [hvs]; exact iY (by decide) _
 have hvv : val 4294967296 vs = val 4294967296 ys * 2 ^ sh := by rw [hvs]; exact fU (by decide) _
 have hyl : ys.getD (ys.length - 1) default < 4294967296 := bL hy om
 obtain ⟨_, _, _, hr1, us0, rfl, rfl, rfl, hud0, huv0, hul0⟩ := mM k1 xs sh hx n1 om
 obtain ⟨_, _, _, hr2, ws, rfl, rfl, rfl, hwd, hwv, hwl⟩ := mM k2 ys sh hy n1 om
 have htr : trim ws = vs := by rw [jE (by decide) hwd, hwv, hvs]
 have hp31 : (2 : Nat) ^ sh ≤ 2 ^ 31 := Nat.pow_le_pow_right (by decide) om
 have hp0 : 0 < (2 : Nat) ^ sh := Nat.pow_pos (by decide)
 have hV0 : 0 < val 4294967296 vs := by
  have h1 := cL 4294967296 vs (vs.length - 1) om
  rw [bU (by omega : vs.length - 1 < vs.length)] at h1
  simp only [val] at h1
  have h2 : 0 < (4294967296 : Nat) ^ (vs.length - 1) := Nat.pow_pos (by decide)
  have h3 := Nat.mul_le_mul h2 n3
  have h4 := Nat.mul_add ((4294967296 : Nat) ^ (vs.length - 1)) (vs.getD (vs.length - 1) default) (4294967296 * val 4294967296 (List.drop (vs.length - 1 + 1) vs))
  omega
 refine nH Try.func221 J J (cW J) <| Rg 2 J <| Ua J J <| Ua J J <| Wn <| Rg 8 J <| Um J J <| Um J J <| aA (bC J J) J <| aA (cV J J om) J <| aA (cK (j := ys.length - 1) J J J J om om J) J <| aA (dX J J J) J <| aA (cI ((sh : Int)) (aN J (zeros32_run _ hyl) (by simp)) (by rw [hsh])) J <| Ua J J <| Wn <| Rg 9 J <| Um J J <| Um J J <| bB (oCallO J hr1 (by simp)) J <| Um J J <| Um J J <| bB (oCallO J hr2 (by simp)) J <| bB (bP (b := .sl 1 (vs.map d32)) (lT [.sl 1 (ws.map d32)] [((0 + 2 + 8 + 5), { cells := (ws.map d32).flatten, sz := 1, elem := 189, st := 1 })] J (jF 1 ws om om) (.own _ (by simp) g0 (by show (0 : Nat) ≠ 2; decide) J (by decide) (by simp [keys]) J fR cX .nil) (by intro p hp; simp at hp; subst hp; exact ⟨_, g0, by show (0 : Nat) ≠ 2; decide, rfl⟩)) (by rw [htr]; rfl)) J <| Ua J J ?_
 refine Ua J J <| Nk [6,7,8] J <| Rg 3 J <| Um J J <| aA (bC J J) J <| Ua J J <| Wn <| Rg 6 J <| Um J J <| aA (oLenR J J) J <| Um J J <| aA (cV J J om) J <| bB (oMk (a := xs.length + 1 - ys.length) (b := xs.length + 1 - ys.length) J J J J om om (by decide) om (by show 4 * (xs.length + 1 - ys.length) ≤ _; omega) om) J <| Ua J J <| Wn <| aC <| Rg 6 J <| Um J J <| aA (oLenR J J) J <| Um J J <| aA (cV J J om) J <| aA (cV J J om) J <| Ua J J ?_
 refine Nk [6,7,8,9,10,11] J <| aJ <| aY (α := Nat × (List Nat) × (List Nat)) (fun ⟨k, us, qs⟩ => [(6, .v (.int .i64 (sh : Int))), (7, .ref (0 + 2 + 8 + 2) 1 0 us.length), (8, .sl 1 (vs.map d32)), (9, .v (.int .i64 (vs.length : Int))), (10, .ref (0 + 2 + 8 + 9 + 3 + 4) 1 0 qs.length), (11, .v (.int .i64 ((k : Int) - 1)))]) (fun ⟨k, us, qs⟩ => [((0 + 2 + 8 + 2), { cells := (us.map d32).flatten, sz := 1, elem := 189, st := 0 }), ((0 + 2 + 8 + 9 + 3 + 4), { cells := (qs.map d32).flatten, sz := 1, elem := 189, st := 0 })]) (fun ⟨k, us, qs⟩ n => k + vs.length ≤ us.length ∧ us.length = xs.length + 1 ∧ qs.length = xs.length + 1 - ys.length ∧ Dg 4294967296 us ∧ Dg 4294967296 qs ∧ val 4294967296 us0 = val 4294967296 (qs.drop k) * val 4294967296 vs * 4294967296 ^ k + val 4294967296 us ∧ val 4294967296 (us.drop k) < val 4294967296 vs ∧ 30 ≤ n) (fun ⟨k, us, qs⟩ => k) (xs.length + 1 - ys.length, us0, List.replicate (xs.length + 1 - ys.length) 0) ⟨rfl, rfl, rfl, rfl, congrArg some (by rw [List.length_replicate]; rfl), congrArg (fun z => some (LV.v (.int .i64 z))) om, trivial⟩ ⟨rfl, g0.trans (by rw [List.map_replicate]; rfl), trivial⟩ ⟨om, hul0, by simp, hud0, by intro d hd; simp at hd; rw [hd.2]; decide, by rw [List.drop_eq_nil_of_le (by simp)]; simp [val], long_init (n := xs.length) (by decide) huv0 (eS (by decide) hx) om om om hp0 om, om⟩ ?_
 rintro ⟨k, us, qs⟩ n hF
 change WC _ _ _ _ _ (_ :: _) (_ :: _) n _
 obtain ⟨hk, hul, hql0, hud, hqd, hU, hlt, hn30⟩ := hF
 refine aC <| Rg 2 J <| Um J J <| aA (iT J J) J <| bF (fun h54 => ?_) (fun h54 => ?_)
 rotate_left
 ·refine Wn <| aU J <| bA <| aP <| aQ J ?_
  have hk0 : k = 0 := by omega
  subst hk0
  rw [List.drop_zero, Nat.pow_zero, Nat.mul_one] at hU
  rw [List.drop_zero] at hlt
  refine Rg 3 J <| Um J J <| bB (oMk (a := vs.length) (b := vs.length) J J J J om om (by decide) om (by show 4 * vs.length ≤ _; omega) om) J <| Ua J J <| Wn <| aC <| Rg 3 J <| Um J J <| aA (oLenR J J) J <| Um J J <| Wn <| aJ <| aY (α := Nat × Nat × (List Nat)) (fun ⟨i, q3, rs⟩ => [(6, .v (.int .i64 (sh : Int))), (7, .ref (0 + 2 + 8 + 2) 1 0 us.length), (10, .ref (0 + 2 + 8 + 9 + 3 + 4) 1 0 qs.length), (25, .ref q3 1 0 rs.length), (229, .v (.int .i64 (vs.length : Int))), (230, .v (.int .i64 (i : Int)))]) (fun ⟨i, q3, rs⟩ => [((0 + 2 + 8 + 2), { cells := (us.map d32).flatten, sz := 1, elem := 189, st := 0 }), ((0 + 2 + 8 + 9 + 3 + 4), { cells := (qs.map d32).flatten, sz := 1, elem := 189, st := 0 }), (q3, { cells := (rs.map d32).flatten, sz := 1, elem := 189, st := 0 })]) (fun ⟨i, q3, rs⟩ n => i ≤ vs.length ∧ rs.length = vs.length ∧ Dg 4294967296 rs ∧ val 4294967296 rs = (val 4294967296 (us.take (i + 1)) / 2 ^ sh) % 4294967296 ^ i ∧ (∀ j, i ≤ j → rs.getD j default = 0) ∧ 30 ≤ q3) (fun ⟨i, q3, rs⟩ => vs.length - i) (0, n + 2 + 1, List.replicate vs.length 0) ⟨rfl, rfl, rfl, congrArg some (by rw [List.length_replicate]; rfl), rfl, rfl, trivial⟩ ⟨g1 om g0, g1 om (g1 (by decide) g0), g0.trans (by rw [List.map_replicate]; rfl), trivial⟩ ⟨Nat.zero_le _, by simp, by intro d hd; simp at hd; rw [hd.2]; decide, by rw [mA, Nat.pow_zero, Nat.mod_one], fun j _ => iM _ _, om⟩ ?_
  rintro ⟨i, q3, rs⟩ n hR
  change WC _ _ _ _ _ (_ :: _) (_ :: _) n _
  obtain ⟨hi, hrl, hrd, hrv, hrz, hq3⟩ := hR
  refine Rg 1 J <| aA (cC J J) J <| bF (fun h231 => ?_) (fun h231 => ?_)
  rotate_left
  ·refine Wn <| aU J <| bA <| aP <| aQ J ?_
   have hi' : i = vs.length := by omega
   subst hi'
   rw [rest_end (Nat.lt_trans hlt (eS (by decide) hvd)) om] at hrv
   obtain ⟨hx1, hx2⟩ := unshift hp0 (show val 4294967296 xs * 2 ^ sh = val 4294967296 qs * (val 4294967296 ys * 2 ^ sh) + val 4294967296 us by rw [← hvv, ← huv0, hU]) (by rw [← hvv]; exact hlt)
   rw [← hrv] at hx1 hx2
   refine Rg 4 J <| Um J J <| Um J J <| Ua J J <| Ua J J <| Wn <| aK <| ⟨.tup [.sl 1 (qs.map d32), .sl 1 (rs.map d32)], ⟨qs, rs, rfl, hqd, hrd, hx1, hx2, om, om⟩, ?_⟩
   exact postA (n := 0) [((0 + 2 + 8 + 9 + 3 + 4), { cells := (qs.map d32).flatten, sz := 1, elem := 189, st := 1 }), (q3, { cells := (rs.map d32).flatten, sz := 1, elem := 189, st := 1 })] (.inr J) J (.own _ (by simp) (g1 om g0) (by show (0 : Nat) ≠ 2; decide) J (by decide) (by simp [keys]) J fR cX (.own _ (by simp) (g1 om (g1 om g0)) (by show (0 : Nat) ≠ 2; decide) J (by decide) (by simp [keys]) J fR cX .nil)) (by intro p hp; simp at hp; rcases hp with hp | hp <;> subst hp; exact ⟨_, g1 om g0, by show (0 : Nat) ≠ 2; decide, rfl⟩; exact ⟨_, g1 om (g1 om g0), by show (0 : Nat) ≠ 2; decide, rfl⟩)
  refine Wn <| aS J <| aG <| aJ <| Rg 2 J <| Um J J <| Ua J J <| dZ ?_
  have hux : us.getD i default < 4294967296 := bL hud om
  have huy : us.getD (i + 1) default < 4294967296 := bL hud om
  obtain ⟨Z, hZ⟩ : ∃ Z, Z = (us.getD i default + us.getD (i + 1) default * 4294967296) / 2 ^ sh := ⟨_, rfl⟩
  refine fC (z := 20) J kR <| Dm J J <| Dm J J <| Dm J J <| Dm J J <| aO (cZ J J J J J om J) J <| aO (gY (f := d32) (us := us) (j := i) J J g0 (fun _ => rfl) J (by decide) om J) J <| aO (cI ((us.getD i default : Int)) (bW J J J) (by rw [IntKind.wrap_u64]; omega)) J <| Dm J J <| Dm J J <| aO (cI (((i + 1 : Nat) : Int)) (aR J J om) om) J <| aO (cZ (j := i + 1) J J J J om om J) J <| aO (gY (f := d32) (us := us) (j := i + 1) J J g0 (fun _ => rfl) J (by decide) om J) J <| aO (cI ((us.getD (i + 1) default : Int)) (bW J J J) (by rw [IntKind.wrap_u64]; omega)) J <| aO (cI (((us.getD (i + 1) default * 4294967296 : Nat) : Int)) (pY (s := 32) J J om) om) J <| aO (eQ (v := .int .u64 (((us.getD i default + us.getD (i + 1) default * 4294967296) : Nat) : Int)) J J (or_lo om om)) J <| Dm J J <| aO (cI ((Z : Int)) (dR (s := sh) J J om) (by rw [hZ]; simp)) J <| aO (cI (((Z % 4294967296 : Nat) : Int)) (bW J J J) (by rw [IntKind.wrap_u32]; omega)) J <| aO (cZ J J J J J om J) J <| dQ (fO (f := d32) (us := rs) (Z % 4294967296) J J J (g1 om (g1 om g0)) (fun _ => rfl) J J om J) <| bY (bH kR) J <| aF <| Ck [6,7,10,25,229,230] J ?_
  refine aI (z := 2) J <| aA (cI (((i + 1 : Nat) : Int)) (aR J J om) om) J <| Um J J <| Wn <| aE <| ⟨⟨i + 1, q3, rs.set i (Z % 4294967296)⟩, ⟨rfl, rfl, rfl, congrArg some (by rw [List.length_set]), rfl, rfl, trivial⟩, ⟨g1 om g0, g1 om (g1 (by decide) g0), g0, trivial⟩, ⟨om, by rw [List.length_set]; exact hrl, hrd.set _ (Nat.mod_lt _ (by decide)), by rw [hZ]; exact rest_set om om hud om (hrz i (Nat.le_refl _)) hrv, ?_, hq3⟩, by show vs.length - (i + 1) < vs.length - i; omega⟩
  intro j hj
  rw [fW om]; exact hrz j om
 refine Wn <| aS J <| aG <| aJ ?_
 have hu0 : us.getD (k - 1 + vs.length) default < 4294967296 := bL hud om
 have hu1 : us.getD (k - 1 + vs.length - 1) default < 4294967296 := bL hud om
 have LQh := lq_make (B := 4294967296) (by decide) (j := k - 1) hud hvd om om om (by rw [show k - 1 + 1 = k by omega]; exact hlt)
 obtain ⟨top, htop⟩ : ∃ top, top = us.getD (k - 1 + vs.length) default * 4294967296 + us.getD (k - 1 + vs.length - 1) default := ⟨_, rfl⟩
 obtain ⟨u2, hu2⟩ : ∃ z, z = us.getD (k - 1 + vs.length - 2) default := ⟨_, rfl⟩
 obtain ⟨v1, hv1⟩ : ∃ z, z = vs.getD (vs.length - 1) default := ⟨_, rfl⟩
 obtain ⟨v2, hv2⟩ : ∃ z, z = vs.getD (vs.length - 2) default := ⟨_, rfl⟩
 rw [← htop, ← hu2, ← hv1, ← hv2] at LQh
 have lu2 : u2 < 4294967296 := by rw [hu2]; exact bL hud om
 have lv1 : v1 < 4294967296 := by rw [hv1]; exact bL hvd om
 have lv2 : v2 < 4294967296 := by rw [hv2]; exact bL hvd om
 have gv1 : 2147483648 ≤ v1 := by rw [hv1]; exact n3
 have htop2 : top < 18446744073709551616 := by omega
 have hRB := LQh.lt_pow (eS (B := 4294967296) (by decide) hvd)
 refine cH (z := 18) J kR <| Dm J J <| Dm J J <| Dm J J <| aO (cI (((k - 1 + vs.length : Nat) : Int)) (aR J J om) om) J <| aO (cZ (j := k - 1 + vs.length) J J J J om om J) J <| aO (gY (f := d32) (us := us) (j := k - 1 + vs.length) J J g0 (fun _ => rfl) J (by decide) om J) J <| aO (cI ((us.getD (k - 1 + vs.length) default : Int)) (bW J J J) (by rw [IntKind.wrap_u64]; omega)) J <| aO (cI (((us.getD (k - 1 + vs.length) default * 4294967296 : Nat) : Int)) (pY (s := 32) J J om) om) J <| Dm J J <| Dm J J <| Dm J J <| aO (cI (((k - 1 + vs.length : Nat) : Int)) (aR J J om) om) J <| aO (cV J J om) J <| aO (cZ (j := k - 1 + vs.length - 1) J J J J om om J) J <| aO (gY (f := d32) (us := us) (j := k - 1 + vs.length - 1) J J g0 (fun _ => rfl) J (by decide) om J) J <| aO (cI ((us.getD (k - 1 + vs.length - 1) default : Int)) (bW J J J) (by rw [IntKind.wrap_u64]; omega)) J <| aO (cI ((top : Int)) (eQ (v := .int .u64 ((us.getD (k - 1 + vs.length) default * 4294967296 + us.getD (k - 1 + vs.length - 1) default : Nat) : Int)) J J (or_hi om om)) (by rw [htop])) J <| aO (fZ J) J <| bY (bH kR) J <| Ck [6,7,8,9,10,11,12] J <| Rg 9 J <| Um J J <| Um J J ?_
 refine Um J J <| aA (cV J J om) J <| aA (cK (j := vs.length - 1) J J J J om om J) J <| aA (dX J J J) J <| aA (cI ((v1 : Int)) (bW J J J) (by rw [IntKind.wrap_u64]; omega)) J <| aA (oQuoU J J om om) J <| Ua J J <| Nk [6,7,8,9,10,11,12,13] J <| Rg 9 J <| Um J J <| Um J J <| Um J J <| aA (cV J J om) J <| aA (cK (j := vs.length - 1) J J J J om om J) J <| aA (dX J J J) J <| aA (cI ((v1 : Int)) (bW J J J) (by rw [IntKind.wrap_u64]; omega)) J <| aA (oRemU J J om) J <| Ua J J <| Nk [6,7,8,9,10,11,13,14] J <| aJ <| aY (α := Nat × Nat) (fun ⟨qh, rh⟩ => [(6, .v (.int .i64 (sh : Int))), (7, .ref (0 + 2 + 8 + 2) 1 0 us.length), (8, .sl 1 (vs.map d32)), (9, .v (.int .i64 (vs.length : Int))), (10, .ref (0 + 2 + 8 + 9 + 3 + 4) 1 0 qs.length), (11, .v (.int .i64 ((k : Int) - 1))), (13, .v (.int .u64 (qh : Int))), (14, .v (.int .u64 (rh : Int)))]) (fun ⟨qh, rh⟩ => [((0 + 2 + 8 + 2), { cells := (us.map d32).flatten, sz := 1, elem := 189, st := 0 }), ((0 + 2 + 8 + 9 + 3 + 4), { cells := (qs.map d32).flatten, sz := 1, elem := 189, st := 0 })]) (fun ⟨qh, rh⟩ n => top = qh * v1 + rh ∧ val 4294967296 (us.drop (k - 1)) / val 4294967296 vs ≤ qh ∧ qh ≤ 4294967297 ∧ rh < 4294967296 ∧ 30 ≤ n) (fun ⟨qh, rh⟩ => qh) (top / v1, top % v1) ⟨J, J, J, J, J, J, J, J, trivial⟩ ⟨g0, g1 (by decide) g0, trivial⟩ ⟨(Nat.div_add_mod' top v1).symm, lq_start LQh (by decide), lq_first LQh (by decide), by have := Nat.mod_lt top (show 0 < v1 by omega); omega, om⟩ ?_
 rintro ⟨qh, rh⟩ n hG
 change WC _ _ _ _ _ (_ :: _) (_ :: _) n _
 obtain ⟨hG1, hG2, hG3, hG4, hn31⟩ := hG
 refine aC <| cH (z := 24) J kR <| Dm J J <| aO (iT J J) J <| WD.D (fun h91 => ?_) (fun h91 => ?_)
 ·refine Dm J J <| fI J J <| fI J J <| fI J J <| fI J J <| fI J J <| fI J J <| fI J J <| fI J J <| fI J J <| fI J J <| fI J J <| fI J J <| fI J J <| fI J J <| fI J J <| fI J J <| fI J J <| fI J J <| fI J J <| fI J J <| aO (bS J J) J <| bY (bH kR) J <| Ck [6,7,8,9,10,11,13,14,93,94,95,96,97,98,99,100,101,102,103,104,105,106,107,108,109,110,111,112,113] J ?_
  refine aS J <| aG <| cM ?_
  obtain ⟨hdc1, hdc2⟩ := lq_dec LQh hG1 hG2 (by first | exact .inl om | exact .inr om)
  refine Rg 3 J <| Um J J <| aA (cI (((qh - 1 : Nat) : Int)) (fP J J) om) J <| Ua J J <| Nk [6,7,8,9,10,11,13,14,93,94,95,96,97,98,99,100,101,102,103,104,105,106,107,108,109,110,111,112] J <| Rg 9 J <| Um J J <| Um J J <| Um J J <| aA (cV J J om) J <| aA (cK (j := vs.length - 1) J J J J om om J) J <| aA (dX J J J) J <| aA (cI ((v1 : Int)) (bW J J J) (by rw [IntKind.wrap_u64]; omega)) J <| aA (cI (((rh + v1 : Nat) : Int)) (gW J J) om) J <| Ua J J <| Nk [6,7,8,9,10,11,13,14,93,94,95,96,97,98,99,100,101,102,103,104,105,106,107,108,109,110,111,112] J <| Rg 2 J <| Um J J <| aA (iT J J) J <| bF (fun h125 => ?_) (fun h125 => ?_)
  rotate_left
  ·refine Nk [6,7,8,9,10,11,13,14,93,94,95,96,97,98,99,100,101,102,103,104,105,106,107,108,109,110,111,112,125] J <| bT J <| bR <| dE <| aE <| ⟨⟨qh - 1, rh + v1⟩, ⟨J, J, J, J, J, J, J, J, trivial⟩, ⟨g0, g1 (by decide) g0, trivial⟩, ⟨dec_eq hG1 hdc1, hdc2, om, om, om⟩, by show qh - 1 < qh; omega⟩
  refine Nk [6,7,8,9,10,11,13,14,93,94,95,96,97,98,99,100,101,102,103,104,105,106,107,108,109,110,111,112,125] J <| cA J <| qP <| kF J <| aP <| aQ J <| Ck [6,7,8,9,10,11,13,93,94,95,96,97,98,99,100,101,102,103,104,105,106,107,108,109,110,111,112] J ?_
  obtain ⟨hql, hqo⟩ := lq_break LQh hG1 hdc1 hG4 om hG3
  replace hG2 := hdc2
  obtain ⟨q1, hq1⟩ : ∃ q1, q1 = qh - 1 := ⟨_, rfl⟩
  rw [← hq1] at hqo hql hG2 ⊢
  refine Rg 2 J <| Ua J J <| Ua J J <| Nk [6,7,8,9,10,11,13,15,16,93,94,95,96,97,98,99,100,101,102,103,104,105,106,107,108,109,110,111,112] J <| aC <| Rg 3 J <| Um J J <| aA (bC J J) J <| Um J J <| Nk [6,7,8,9,10,11,13,15,16,93,94,95,96,97,98,99,100,101,102,103,104,105,106,107,108,109,110,111,112,126,127,128] J <| aJ ?_
  refine aY (α := Nat × Nat × Nat × (List Nat)) (fun ⟨i, c, b, us1⟩ => [(6, .v (.int .i64 (sh : Int))), (7, .ref (0 + 2 + 8 + 2) 1 0 us1.length), (8, .sl 1 (vs.map d32)), (9, .v (.int .i64 (vs.length : Int))), (10, .ref (0 + 2 + 8 + 9 + 3 + 4) 1 0 qs.length), (11, .v (.int .i64 ((k : Int) - 1))), (13, .v (.int .u64 (q1 : Int))), (15, .v (.int .u64 (b : Int))), (16, .v (.int .u64 (c : Int))), (126, .sl 1 (vs.map d32)), (127, .v (.int .i64 (vs.length : Int))), (128, .v (.int .i64 (i : Int)))]) (fun ⟨i, c, b, us1⟩ => [((0 + 2 + 8 + 2), { cells := (us1.map d32).flatten, sz := 1, elem := 189, st := 0 }), ((0 + 2 + 8 + 9 + 3 + 4), { cells := (qs.map d32).flatten, sz := 1, elem := 189, st := 0 })]) (fun ⟨i, c, b, us1⟩ n => i ≤ vs.length ∧ us1.length = us.length ∧ Dg 4294967296 us1 ∧ c < 4294967296 ∧ b ≤ 1 ∧ val 4294967296 us1 + 4294967296 ^ (k - 1) * (q1 * val 4294967296 (vs.take i)) = val 4294967296 us + 4294967296 ^ (k - 1 + i) * (c + b) ∧ us1.take (k - 1) = us.take (k - 1) ∧ us1.drop (k - 1 + i) = us.drop (k - 1 + i) ∧ 30 ≤ n) (fun ⟨i, c, b, us1⟩ => vs.length - i) (0, 0, 0, us) ⟨J, J, J, J, J, J, J, J, J, J, J, J, trivial⟩ ⟨g0, g1 (by decide) g0, trivial⟩ ⟨Nat.zero_le _, rfl, hud, by decide, by decide, by simp [val], rfl, rfl, om⟩ ?_
  rintro ⟨i, c, b, us1⟩ n hL
  change WC _ _ _ _ _ (_ :: _) (_ :: _) n _
  obtain ⟨hi, hl1, hd1, hc1, hb1, he1, ht1, hp1, hn32⟩ := hL
  refine Rg 1 J <| aA (cC J J) J <| bF (fun h129 => ?_) (fun h129 => ?_)
  ·refine Wn <| aS J <| aG <| aJ ?_
   have hvi : vs.getD i default < 4294967296 := bL hvd om
   have hui : us1.getD (k - 1 + i) default < 4294967296 := bL hd1 om
   have hqv := fV hql hvi
   obtain ⟨p, hpe⟩ : ∃ p, p = q1 * vs.getD i default + c := ⟨_, rfl⟩
   obtain ⟨u, hue⟩ : ∃ u, u = us1.getD (k - 1 + i) default := ⟨_, rfl⟩
   have hpb : p < 18446744073709551616 := by omega
   obtain ⟨d, hde⟩ : ∃ d, d = (u + 4294967296 - p % 4294967296 - b) % 4294967296 := ⟨_, rfl⟩
   refine Rg 5 J <| Um J J <| aA (cK J J J J J om J) J <| aA (dX J J J) J <| Ua J J <| Ua J J <| Nk [6,7,8,9,10,11,13,15,16,17,18,126,127,128] J <| Rg 7 J <| Um J J <| Um J J <| aA (cI ((vs.getD i default : Int)) (bW J J J) (by rw [IntKind.wrap_u64]; omega)) J <| aA (cI (((q1 * vs.getD i default : Nat) : Int)) (jV J J) (by rw [← Int.natCast_mul]; omega)) J <| Um J J <| aA (cI ((p : Int)) (gW J J) om) J <| Ua J J <| Nk [6,7,8,9,10,11,13,15,17,19,126,127,128] J <| Rg 3 J <| Um J J <| aA (cI (((p / 4294967296 : Nat) : Int)) (dR (s := 32) J J om) om) J <| Ua J J <| Nk [6,7,8,9,10,11,13,15,16,17,19,126,127,128] J ?_
   refine Rg 14 J <| Um J J <| Um J J <| Um J J <| aA (cI (((k - 1 + i : Nat) : Int)) (aR J J om) om) J <| aA (cZ (j := k - 1 + i) J J J J om om J) J <| aA (gY (f := d32) (us := us1) (j := k - 1 + i) J J g0 (fun _ => rfl) J (by decide) om J) J <| aA (cI ((u : Int)) (bW J J J) (by rw [IntKind.wrap_u64]; omega)) J <| Um J J <| aA (cI (((p % 4294967296 : Nat) : Int)) (bW J J J) (by rw [IntKind.wrap_u32]; omega)) J <| aA (cI (((p % 4294967296 : Nat) : Int)) (bW J J J) (by rw [IntKind.wrap_u64]; omega)) J <| aA (fP J J) J <| Um J J <| aA (cI (((((u + 18446744073709551616 - p % 4294967296 - b) % 18446744073709551616) : Nat) : Int)) (fP J J) om) J <| Ua J J <| Nk [6,7,8,9,10,11,13,16,17,20,126,127,128] J <| Rg 8 J <| Um J J <| Um J J <| Um J J <| aA (cI (((k - 1 + i : Nat) : Int)) (aR J J om) om) J <| Um J J <| aA (cI ((d : Int)) (bW J J J) (by rw [IntKind.wrap_u32]; omega)) J ?_
   refine aA (cZ (j := k - 1 + i) J J J J om om J) J <| aW (fO (f := d32) (us := us1) d J J J g0 (fun _ => rfl) J J om J) <| Nk [6,7,8,9,10,11,13,16,20,126,127,128] J <| aI (z := 3) J <| Um J J <| aA (cI (((if u < p % 4294967296 + b then 1 else 0 : Nat) : Int)) (dR (s := 63) J J om) (by split <;> omega)) J <| Ua J J <| Wn <| aF <| Ck [6,7,8,9,10,11,13,15,16,126,127,128] J <| aI (z := 2) J <| aA (cI (((i + 1 : Nat) : Int)) (aR J J om) om) J <| Um J J <| Wn <| aE <| ⟨⟨i + 1, p / 4294967296, if u < p % 4294967296 + b then 1 else 0, us1.set (k - 1 + i) d⟩, ⟨rfl, congrArg some (by rw [List.length_set]), rfl, rfl, rfl, rfl, rfl, rfl, rfl, rfl, rfl, rfl, trivial⟩, ⟨g0, g1 (by decide) (g1 (by decide) g0), trivial⟩, ⟨om, by rw [List.length_set]; exact hl1, hd1.set _ om, om, by split <;> omega, ?_, by rw [cE om]; exact ht1, by rw [cR om]; exact eL hp1 om, om⟩, by show vs.length - (i + 1) < vs.length - i; omega⟩
   rw [hpe]
   exact jC he1 om (by rw [← hpe, ← hue, hde]; split <;> omega)
  refine Wn <| aU J <| bA <| aP <| aQ J ?_
  have hi' : i = vs.length := by omega
  subst hi'
  rw [List.take_of_length_le (Nat.le_refl _)] at he1
  obtain ⟨u, hue⟩ : ∃ u, u = us1.getD (k - 1 + vs.length) default := ⟨_, rfl⟩
  have hul1 : u < 4294967296 := by rw [hue]; exact bL hd1 om
  obtain ⟨d, hde⟩ : ∃ d, d = (u + 4294967296 - c - b) % 4294967296 := ⟨_, rfl⟩
  have hd4 : d < 4294967296 := by omega
  refine Rg 12 J <| Um J J <| Um J J <| Um J J <| aA (cI (((k - 1 + vs.length : Nat) : Int)) (aR J J om) om) J <| aA (cZ (j := k - 1 + vs.length) J J J J om om J) J <| aA (gY (f := d32) (us := us1) (j := k - 1 + vs.length) J J g0 (fun _ => rfl) J (by decide) om J) J <| aA (cI ((u : Int)) (bW J J J) (by rw [IntKind.wrap_u64]; omega)) J <| Um J J <| aA (fP J J) J <| Um J J <| aA (cI (((((u + 18446744073709551616 - c - b) % 18446744073709551616) : Nat) : Int)) (fP J J) om) J <| Ua J J <| Nk [6,7,8,9,10,11,13,21] J <| Rg 8 J <| Um J J <| Um J J <| Um J J <| aA (cI (((k - 1 + vs.length : Nat) : Int)) (aR J J om) om) J <| Um J J <| aA (cI ((d : Int)) (bW J J J) (by rw [IntKind.wrap_u32]; omega)) J <| aA (cZ (j := k - 1 + vs.length) J J J J om om J) J <| aW (fO (f := d32) (us := us1) d J J J g0 (fun _ => rfl) J J om J) ?_
  refine Nk [6,7,8,9,10,11,13,21] J <| aC <| Rg 3 J <| Um J J <| aA (cI (((if u < c + b then 1 else 0 : Nat) : Int)) (dR (s := 63) J J om) (by split <;> omega)) J <| aA (fF J J) J <| bF (fun h184 => ?_) (fun h184 => ?_)
  rotate_left
  ·have hneg : c + b ≤ u := by
    rcases Nat.lt_or_ge u (c + b) with h | h
    ·rw [if_pos h] at h184; simp at h184
    ·exact h
   have hs2 := hY (o := 0) (d := d) he1 om (by rw [← hue]; omega)
   rw [Nat.mul_zero, Nat.add_zero] at hs2
   refine Wn <| aU J <| aG ?_
   have hlF : (us1.set (k - 1 + vs.length) d).length = us.length := by rw [List.length_set]; exact hl1
   have hdF : Dg 4294967296 (us1.set (k - 1 + vs.length) d) := hd1.set _ hd4
   have hltF := lR (by decide) hV0 om om (by rw [cE om]; exact ht1) hs2 hG2
   have hUF := fY (qs := qs) (j := k - 1) om (by rw [show k - 1 + 1 = k by omega]; exact hU) hs2
   refine aI (z := 6) J <| Um J J <| Um J J <| Um J J <| aA (cI ((q1 : Int)) (bW J J J) (by rw [IntKind.wrap_u32]; omega)) J <| aA (cZ (j := k - 1) J J J J om om J) J <| aW (fO (f := d32) (us := qs) q1 J J J (g1 (by decide) (g1 (by decide) g0)) (fun _ => rfl) J J om J) <| Wn <| aF <| Ck [6,7,8,9,10,11] J <| aI (z := 3) J <| Um J J <| aA (cI (((k - 1 : Nat) : Int) - 1) (cV J J om) om) J <| Ua J J <| Wn <| aE <| ⟨⟨k - 1, (us1.set (k - 1 + vs.length) d), qs.set (k - 1) q1⟩, ⟨rfl, congrArg some (by rw [List.length_set]), rfl, rfl, congrArg some (by rw [List.length_set]), rfl, trivial⟩, ⟨g1 (by decide) g0, g0, trivial⟩, ⟨by rw [hlF]; omega, by rw [hlF]; exact hul, by rw [List.length_set]; exact hql0, hdF, hqd.set _ om, hUF, hltF, om⟩, by show k - 1 < k; omega⟩
  have hneg : u < c + b := by
   rcases Nat.lt_or_ge u (c + b) with h | h
   ·exact h
   ·rw [if_neg om] at h184; simp at h184
  have hs2 := hY (o := 1) (d := d) he1 om (by rw [← hue]; omega)
  have hlT : (us1.set (k - 1 + vs.length) d).length = us.length := by rw [List.length_set]; exact hl1
  have hdT : Dg 4294967296 (us1.set (k - 1 + vs.length) d) := hd1.set _ hd4
  have htT : (us1.set (k - 1 + vs.length) d).take (k - 1) = us.take (k - 1) := by rw [cE om]; exact ht1
  have hpT : (us1.set (k - 1 + vs.length) d).drop (k - 1 + vs.length + 1) = us.drop (k - 1 + vs.length + 1) := by rw [cR om]; exact eL hp1 om
  obtain ⟨hgt, hq1p⟩ := neg_gt (by decide) hdT om hlT hRB hpT htT hs2
  refine Wn <| aS J <| aC <| Rg 3 J <| Um J J <| aA (cI (((q1 - 1 : Nat) : Int)) (fP J J) om) J <| Ua J J <| Wn <| aC <| Rg 1 J <| Ua J J <| Wn <| aC <| aC <| Rg 3 J <| Um J J <| aA (bC J J) J <| Um J J <| Nk [6,7,8,9,10,11,13,22,187,188,189] J <| aJ <| aY (α := Nat × Nat × (List Nat)) (fun ⟨i2, c2, us3⟩ => [(6, .v (.int .i64 (sh : Int))), (7, .ref (0 + 2 + 8 + 2) 1 0 us3.length), (8, .sl 1 (vs.map d32)), (9, .v (.int .i64 (vs.length : Int))), (10, .ref (0 + 2 + 8 + 9 + 3 + 4) 1 0 qs.length), (11, .v (.int .i64 ((k : Int) - 1))), (13, .v (.int .u64 ((q1 - 1 : Nat) : Int))), (22, .v (.int .u32 (c2 : Int))), (187, .sl 1 (vs.map d32)), (188, .v (.int .i64 (vs.length : Int))), (189, .v (.int .i64 (i2 : Int)))]) (fun ⟨i2, c2, us3⟩ => [((0 + 2 + 8 + 2), { cells := (us3.map d32).flatten, sz := 1, elem := 189, st := 0 }), ((0 + 2 + 8 + 9 + 3 + 4), { cells := (qs.map d32).flatten, sz := 1, elem := 189, st := 0 })]) (fun ⟨i2, c2, us3⟩ n => i2 ≤ vs.length ∧ us3.length = us.length ∧ Dg 4294967296 us3 ∧ c2 ≤ 1 ∧ val 4294967296 us3 + 4294967296 ^ (k - 1 + i2) * c2 = val 4294967296 (us1.set (k - 1 + vs.length) d) + 4294967296 ^ (k - 1) * val 4294967296 (vs.take i2) ∧ us3.take (k - 1) = us.take (k - 1) ∧ us3.drop (k - 1 + vs.length) = (us1.set (k - 1 + vs.length) d).drop (k - 1 + vs.length) ∧ 30 ≤ n) (fun ⟨i2, c2, us3⟩ => vs.length - i2) (0, 0, (us1.set (k - 1 + vs.length) d)) ⟨rfl, congrArg some (by rw [List.length_set]), rfl, rfl, rfl, rfl, rfl, rfl, rfl, rfl, rfl, trivial⟩ ⟨g0, g1 (by decide) (g1 (by decide) g0), trivial⟩ ⟨Nat.zero_le _, hlT, hdT, by decide, by simp [val], htT, rfl, om⟩ ?_
  rintro ⟨i2, c2, us3⟩ n hM
  change WC _ _ _ _ _ (_ :: _) (_ :: _) n _
  obtain ⟨hi2, hl3, hd3, hc3, he3, ht3, hp3, hn33⟩ := hM
  refine Rg 1 J <| aA (cC J J) J <| bF (fun h190 => ?_) (fun h190 => ?_)
  ·refine Wn <| aS J <| aG <| aJ <| Rg 5 J <| Um J J <| aA (cK J J J J J om J) J <| aA (dX J J J) J <| Ua J J <| Ua J J <| Nk [6,7,8,9,10,11,13,22,23,24,187,188,189] J ?_
   have hu3 : us3.getD (k - 1 + i2) default < 4294967296 := bL hd3 om
   have hv3 : vs.getD i2 default < 4294967296 := bL hvd om
   refine aI (z := 19) J <| Um J J <| Um J J <| Um J J <| aA (cI (((k - 1 + i2 : Nat) : Int)) (aR J J om) om) J <| Um J J <| Um J J <| Um J J <| aA (cI (((k - 1 + i2 : Nat) : Int)) (aR J J om) om) J <| aA (cZ (j := k - 1 + i2) J J J J om om J) J <| aA (gY (f := d32) (us := us3) (j := k - 1 + i2) J J g0 (fun _ => rfl) J (by decide) om J) J <| Um J J <| Um J J <| aA (aN J (gS (us3.getD (k - 1 + i2) default) (vs.getD i2 default) c2 hu3 hv3 hc3) (by simp)) J <| Um J J <| aA (cS J J) J <| aA (cS J J) J <| aA (cZ (j := k - 1 + i2) J J J J om om J) J <| aW (fO (f := d32) (us := us3) ((us3.getD (k - 1 + i2) default + vs.getD i2 default + c2) % 4294967296) J J J g0 (fun _ => rfl) J J om J) <| Ua J J <| Wn <| aF <| Ck [6,7,8,9,10,11,13,22,187,188,189] J <| aI (z := 2) J ?_
   refine aA (cI (((i2 + 1 : Nat) : Int)) (aR J J om) om) J <| Um J J <| Wn <| aE <| ⟨⟨i2 + 1, _, us3.set (k - 1 + i2) ((us3.getD (k - 1 + i2) default + vs.getD i2 default + c2) % 4294967296)⟩, ⟨rfl, congrArg some (by rw [List.length_set]), rfl, rfl, rfl, rfl, rfl, rfl, rfl, rfl, rfl, trivial⟩, ⟨g0, g1 (by decide) (g1 (by decide) g0), trivial⟩, ⟨om, by rw [List.length_set]; exact hl3, hd3.set _ om, om, iE he3 om, by rw [cE om]; exact ht3, by rw [cR om]; exact hp3, om⟩, by show vs.length - (i2 + 1) < vs.length - i2; omega⟩
  refine Wn <| aU J <| bA <| aP <| aQ J ?_
  have hi' : i2 = vs.length := by omega
  subst hi'
  rw [List.take_of_length_le (Nat.le_refl _)] at he3
  have hu3 : us3.getD (k - 1 + vs.length) default < 4294967296 := bL hd3 om
  refine Rg 10 J <| Um J J <| Um J J <| Um J J <| aA (cI (((k - 1 + vs.length : Nat) : Int)) (aR J J om) om) J <| aA (cZ (j := k - 1 + vs.length) J J J J om om J) J <| aA (gY (f := d32) (us := us3) (j := k - 1 + vs.length) J J g0 (fun _ => rfl) J (by decide) om J) J <| Um J J <| aA (cI ((((us3.getD (k - 1 + vs.length) default + c2) % 4294967296 : Nat) : Int)) (oAdd32 J J) om) J <| aA (cZ (j := k - 1 + vs.length) J J J J om om J) J <| aW (fO (f := d32) (us := us3) ((us3.getD (k - 1 + vs.length) default + c2) % 4294967296) J J J g0 (fun _ => rfl) J J om J) <| Nk [6,7,8,9,10,11,13] J ?_
  have hlF : (us3.set (k - 1 + vs.length) ((us3.getD (k - 1 + vs.length) default + c2) % 4294967296)).length = us.length := by rw [List.length_set]; exact hl3
  have hdF : Dg 4294967296 (us3.set (k - 1 + vs.length) ((us3.getD (k - 1 + vs.length) default + c2) % 4294967296)) := hd3.set _ om
  have h4 := iD he3 om
  obtain ⟨hs4, hltF⟩ := nU (by decide) hV0 hdF om hlF hRB (by rw [cR om]; exact (eL hp3 om).trans hpT) (by rw [cE om]; exact ht3) hs2 h4 hG2 hq1p hqo hgt om
  have hUF := fY (qs := qs) (j := k - 1) om (by rw [show k - 1 + 1 = k by omega]; exact hU) hs4
  refine aI (z := 6) J <| Um J J <| Um J J <| Um J J <| aA (cI (((q1 - 1 : Nat) : Int)) (bW J J J) (by rw [IntKind.wrap_u32]; omega)) J <| aA (cZ (j := k - 1) J J J J om om J) J <| aW (fO (f := d32) (us := qs) (q1 - 1) J J J (g1 (by decide) (g1 (by decide) g0)) (fun _ => rfl) J J om J) <| Wn <| aF <| aI (z := 3) J <| Um J J <| aA (cI (((k - 1 : Nat) : Int) - 1) (cV J J om) om) J <| Ua J J <| Wn <| aE <| ⟨⟨k - 1, (us3.set (k - 1 + vs.length) ((us3.getD (k - 1 + vs.length) default + c2) % 4294967296)), qs.set (k - 1) (q1 - 1)⟩, ⟨rfl, congrArg some (by rw [List.length_set]), rfl, rfl, congrArg some (by rw [List.length_set]), rfl, trivial⟩, ⟨g1 (by decide) g0, g0, trivial⟩, ⟨by rw [hlF]; omega, by rw [hlF]; exact hul, by rw [List.length_set]; exact hql0, hdF, hqd.set _ om, hUF, hltF, om⟩, by show k - 1 < k; omega⟩
 refine Dm J J <| dL J (dF J) J <| dL J (dF J) J <| dL J (dF J) J <| dL J (cV J J om) J <| dL J (cK (j := vs.length - 2) J J J J om om J) J <| dL J (dX J J J) J <| dL J (cI ((v2 : Int)) (bW J J J) (by rw [IntKind.wrap_u64]; omega)) J <| dL J (cI (((qh * v2 : Nat) : Int)) (jV J J) (by rw [← Int.natCast_mul]; have := fV (a := qh) (b := v2) om om; omega)) J <| dL J (dF J) J <| dL J (cI (((rh * 4294967296 : Nat) : Int)) (pY (s := 32) J J om) om) J <| dL J (dF J) J <| dL J (dF J) J <| dL J (dF J) J <| dL J (cI (((k - 1 + vs.length : Nat) : Int)) (aR J J om) om) J <| dL J (cV J J om) J <| dL J (cZ (j := k - 1 + vs.length - 2) J J J J om om J) J <| dL J (gY (f := d32) (us := us) (j := k - 1 + vs.length - 2) J J g0 (fun _ => rfl) J (by decide) om J) J <| dL J (cI ((u2 : Int)) (bW J J J) (by rw [IntKind.wrap_u64]; omega)) J <| dL J (eQ (v := .int .u64 ((rh * 4294967296 + u2 : Nat) : Int)) J J (or_hi om om)) J <| dL J (gE J J) J <| WD.D (fun h112 => ?_) (fun h112 => ?_)
 rotate_left
 ·refine aO (bZ J J) J <| bY (bH kR) J <| Ck [6,7,8,9,10,11,13,14,93,94,95,96,97,98,99,100,101,102,103,104,105,106,107,108,109,110,111,112,113] J <| aU J <| bA <| aP <| aQ J <| Ck [6,7,8,9,10,11,13,93,94,95,96,97,98,99,100,101,102,103,104,105,106,107,108,109,110,111,112] J ?_
  have hqo := lq_ok LQh hG1 (show qh < 4294967296 by omega) om
  have hql : qh < 4294967296 := by omega
  obtain ⟨q1, hq1⟩ : ∃ q1, q1 = qh := ⟨_, rfl⟩
  rw [← hq1] at hqo hql hG2 ⊢
  refine Rg 2 J <| Ua J J <| Ua J J <| Nk [6,7,8,9,10,11,13,15,16,93,94,95,96,97,98,99,100,101,102,103,104,105,106,107,108,109,110,111,112] J <| aC <| Rg 3 J <| Um J J <| aA (bC J J) J <| Um J J <| Nk [6,7,8,9,10,11,13,15,16,93,94,95,96,97,98,99,100,101,102,103,104,105,106,107,108,109,110,111,112,126,127,128] J <| aJ ?_
  refine aY (α := Nat × Nat × Nat × (List Nat)) (fun ⟨i, c, b, us1⟩ => [(6, .v (.int .i64 (sh : Int))), (7, .ref (0 + 2 + 8 + 2) 1 0 us1.length), (8, .sl 1 (vs.map d32)), (9, .v (.int .i64 (vs.length : Int))), (10, .ref (0 + 2 + 8 + 9 + 3 + 4) 1 0 qs.length), (11, .v (.int .i64 ((k : Int) - 1))), (13, .v (.int .u64 (q1 : Int))), (15, .v (.int .u64 (b : Int))), (16, .v (.int .u64 (c : Int))), (126, .sl 1 (vs.map d32)), (127, .v (.int .i64 (vs.length : Int))), (128, .v (.int .i64 (i : Int)))]) (fun ⟨i, c, b, us1⟩ => [((0 + 2 + 8 + 2), { cells := (us1.map d32).flatten, sz := 1, elem := 189, st := 0 }), ((0 + 2 + 8 + 9 + 3 + 4), { cells := (qs.map d32).flatten, sz := 1, elem := 189, st := 0 })]) (fun ⟨i, c, b, us1⟩ n => i ≤ vs.length ∧ us1.length = us.length ∧ Dg 4294967296 us1 ∧ c < 4294967296 ∧ b ≤ 1 ∧ val 4294967296 us1 + 4294967296 ^ (k - 1) * (q1 * val 4294967296 (vs.take i)) = val 4294967296 us + 4294967296 ^ (k - 1 + i) * (c + b) ∧ us1.take (k - 1) = us.take (k - 1) ∧ us1.drop (k - 1 + i) = us.drop (k - 1 + i) ∧ 30 ≤ n) (fun ⟨i, c, b, us1⟩ => vs.length - i) (0, 0, 0, us) ⟨J, J, J, J, J, J, J, J, J, J, J, J, trivial⟩ ⟨g0, g1 (by decide) g0, trivial⟩ ⟨Nat.zero_le _, rfl, hud, by decide, by decide, by simp [val], rfl, rfl, om⟩ ?_
  rintro ⟨i, c, b, us1⟩ n hL
  change WC _ _ _ _ _ (_ :: _) (_ :: _) n _
  obtain ⟨hi, hl1, hd1, hc1, hb1, he1, ht1, hp1, hn32⟩ := hL
  refine Rg 1 J <| aA (cC J J) J <| bF (fun h129 => ?_) (fun h129 => ?_)
  ·refine Wn <| aS J <| aG <| aJ ?_
   have hvi : vs.getD i default < 4294967296 := bL hvd om
   have hui : us1.getD (k - 1 + i) default < 4294967296 := bL hd1 om
   have hqv := fV hql hvi
   obtain ⟨p, hpe⟩ : ∃ p, p = q1 * vs.getD i default + c := ⟨_, rfl⟩
   obtain ⟨u, hue⟩ : ∃ u, u = us1.getD (k - 1 + i) default := ⟨_, rfl⟩
   have hpb : p < 18446744073709551616 := by omega
   obtain ⟨d, hde⟩ : ∃ d, d = (u + 4294967296 - p % 4294967296 - b) % 4294967296 := ⟨_, rfl⟩
   refine Rg 5 J <| Um J J <| aA (cK J J J J J om J) J <| aA (dX J J J) J <| Ua J J <| Ua J J <| Nk [6,7,8,9,10,11,13,15,16,17,18,126,127,128] J <| Rg 7 J <| Um J J <| Um J J <| aA (cI ((vs.getD i default : Int)) (bW J J J) (by rw [IntKind.wrap_u64]; omega)) J <| aA (cI (((q1 * vs.getD i default : Nat) : Int)) (jV J J) (by rw [← Int.natCast_mul]; omega)) J <| Um J J <| aA (cI ((p : Int)) (gW J J) om) J <| Ua J J <| Nk [6,7,8,9,10,11,13,15,17,19,126,127,128] J <| Rg 3 J <| Um J J <| aA (cI (((p / 4294967296 : Nat) : Int)) (dR (s := 32) J J om) om) J <| Ua J J <| Nk [6,7,8,9,10,11,13,15,16,17,19,126,127,128] J ?_
   refine Rg 14 J <| Um J J <| Um J J <| Um J J <| aA (cI (((k - 1 + i : Nat) : Int)) (aR J J om) om) J <| aA (cZ (j := k - 1 + i) J J J J om om J) J <| aA (gY (f := d32) (us := us1) (j := k - 1 + i) J J g0 (fun _ => rfl) J (by decide) om J) J <| aA (cI ((u : Int)) (bW J J J) (by rw [IntKind.wrap_u64]; omega)) J <| Um J J <| aA (cI (((p % 4294967296 : Nat) : Int)) (bW J J J) (by rw [IntKind.wrap_u32]; omega)) J <| aA (cI (((p % 4294967296 : Nat) : Int)) (bW J J J) (by rw [IntKind.wrap_u64]; omega)) J <| aA (fP J J) J <| Um J J <| aA (cI (((((u + 18446744073709551616 - p % 4294967296 - b) % 18446744073709551616) : Nat) : Int)) (fP J J) om) J <| Ua J J <| Nk [6,7,8,9,10,11,13,16,17,20,126,127,128] J <| Rg 8 J <| Um J J <| Um J J <| Um J J <| aA (cI (((k - 1 + i : Nat) : Int)) (aR J J om) om) J <| Um J J <| aA (cI ((d : Int)) (bW J J J) (by rw [IntKind.wrap_u32]; omega)) J ?_
   refine aA (cZ (j := k - 1 + i) J J J J om om J) J <| aW (fO (f := d32) (us := us1) d J J J g0 (fun _ => rfl) J J om J) <| Nk [6,7,8,9,10,11,13,16,20,126,127,128] J <| aI (z := 3) J <| Um J J <| aA (cI (((if u < p % 4294967296 + b then 1 else 0 : Nat) : Int)) (dR (s := 63) J J om) (by split <;> omega)) J <| Ua J J <| Wn <| aF <| Ck [6,7,8,9,10,11,13,15,16,126,127,128] J <| aI (z := 2) J <| aA (cI (((i + 1 : Nat) : Int)) (aR J J om) om) J <| Um J J <| Wn <| aE <| ⟨⟨i + 1, p / 4294967296, if u < p % 4294967296 + b then 1 else 0, us1.set (k - 1 + i) d⟩, ⟨rfl, congrArg some (by rw [List.length_set]), rfl, rfl, rfl, rfl, rfl, rfl, rfl, rfl, rfl, rfl, trivial⟩, ⟨g0, g1 (by decide) (g1 (by decide) g0), trivial⟩, ⟨om, by rw [List.length_set]; exact hl1, hd1.set _ om, om, by split <;> omega, ?_, by rw [cE om]; exact ht1, by rw [cR om]; exact eL hp1 om, om⟩, by show vs.length - (i + 1) < vs.length - i; omega⟩
   rw [hpe]
   exact jC he1 om (by rw [← hpe, ← hue, hde]; split <;> omega)
  refine Wn <| aU J <| bA <| aP <| aQ J ?_
  have hi' : i = vs.length := by omega
  subst hi'
  rw [List.take_of_length_le (Nat.le_refl _)] at he1
  obtain ⟨u, hue⟩ : ∃ u, u = us1.getD (k - 1 + vs.length) default := ⟨_, rfl⟩
  have hul1 : u < 4294967296 := by rw [hue]; exact bL hd1 om
  obtain ⟨d, hde⟩ : ∃ d, d = (u + 4294967296 - c - b) % 4294967296 := ⟨_, rfl⟩
  have hd4 : d < 4294967296 := by omega
  refine Rg 12 J <| Um J J <| Um J J <| Um J J <| aA (cI (((k - 1 + vs.length : Nat) : Int)) (aR J J om) om) J <| aA (cZ (j := k - 1 + vs.length) J J J J om om J) J <| aA (gY (f := d32) (us := us1) (j := k - 1 + vs.length) J J g0 (fun _ => rfl) J (by decide) om J) J <| aA (cI ((u : Int)) (bW J J J) (by rw [IntKind.wrap_u64]; omega)) J <| Um J J <| aA (fP J J) J <| Um J J <| aA (cI (((((u + 18446744073709551616 - c - b) % 18446744073709551616) : Nat) : Int)) (fP J J) om) J <| Ua J J <| Nk [6,7,8,9,10,11,13,21] J <| Rg 8 J <| Um J J <| Um J J <| Um J J <| aA (cI (((k - 1 + vs.length : Nat) : Int)) (aR J J om) om) J <| Um J J <| aA (cI ((d : Int)) (bW J J J) (by rw [IntKind.wrap_u32]; omega)) J <| aA (cZ (j := k - 1 + vs.length) J J J J om om J) J <| aW (fO (f := d32) (us := us1) d J J J g0 (fun _ => rfl) J J om J) ?_
  refine Nk [6,7,8,9,10,11,13,21] J <| aC <| Rg 3 J <| Um J J <| aA (cI (((if u < c + b then 1 else 0 : Nat) : Int)) (dR (s := 63) J J om) (by split <;> omega)) J <| aA (fF J J) J <| bF (fun h184 => ?_) (fun h184 => ?_)
  rotate_left
  ·have hneg : c + b ≤ u := by
    rcases Nat.lt_or_ge u (c + b) with h | h
    ·rw [if_pos h] at h184; simp at h184
    ·exact h
   have hs2 := hY (o := 0) (d := d) he1 om (by rw [← hue]; omega)
   rw [Nat.mul_zero, Nat.add_zero] at hs2
   refine Wn <| aU J <| aG ?_
   have hlF : (us1.set (k - 1 + vs.length) d).length = us.length := by rw [List.length_set]; exact hl1
   have hdF : Dg 4294967296 (us1.set (k - 1 + vs.length) d) := hd1.set _ hd4
   have hltF := lR (by decide) hV0 om om (by rw [cE om]; exact ht1) hs2 hG2
   have hUF := fY (qs := qs) (j := k - 1) om (by rw [show k - 1 + 1 = k by omega]; exact hU) hs2
   refine aI (z := 6) J <| Um J J <| Um J J <| Um J J <| aA (cI ((q1 : Int)) (bW J J J) (by rw [IntKind.wrap_u32]; omega)) J <| aA (cZ (j := k - 1) J J J J om om J) J <| aW (fO (f := d32) (us := qs) q1 J J J (g1 (by decide) (g1 (by decide) g0)) (fun _ => rfl) J J om J) <| Wn <| aF <| Ck [6,7,8,9,10,11] J <| aI (z := 3) J <| Um J J <| aA (cI (((k - 1 : Nat) : Int) - 1) (cV J J om) om) J <| Ua J J <| Wn <| aE <| ⟨⟨k - 1, (us1.set (k - 1 + vs.length) d), qs.set (k - 1) q1⟩, ⟨rfl, congrArg some (by rw [List.length_set]), rfl, rfl, congrArg some (by rw [List.length_set]), rfl, trivial⟩, ⟨g1 (by decide) g0, g0, trivial⟩, ⟨by rw [hlF]; omega, by rw [hlF]; exact hul, by rw [List.length_set]; exact hql0, hdF, hqd.set _ om, hUF, hltF, om⟩, by show k - 1 < k; omega⟩
  have hneg : u < c + b := by
   rcases Nat.lt_or_ge u (c + b) with h | h
   ·exact h
   ·rw [if_neg om] at h184; simp at h184
  have hs2 := hY (o := 1) (d := d) he1 om (by rw [← hue]; omega)
  have hlT : (us1.set (k - 1 + vs.length) d).length = us.length := by rw [List.length_set]; exact hl1
  have hdT : Dg 4294967296 (us1.set (k - 1 + vs.length) d) := hd1.set _ hd4
  have htT : (us1.set (k - 1 + vs.length) d).take (k - 1) = us.take (k - 1) := by rw [cE om]; exact ht1
  have hpT : (us1.set (k - 1 + vs.length) d).drop (k - 1 + vs.length + 1) = us.drop (k - 1 + vs.length + 1) := by rw [cR om]; exact eL hp1 om
  obtain ⟨hgt, hq1p⟩ := neg_gt (by decide) hdT om hlT hRB hpT htT hs2
  refine Wn <| aS J <| aC <| Rg 3 J <| Um J J <| aA (cI (((q1 - 1 : Nat) : Int)) (fP J J) om) J <| Ua J J <| Wn <| aC <| Rg 1 J <| Ua J J <| Wn <| aC <| aC <| Rg 3 J <| Um J J <| aA (bC J J) J <| Um J J <| Nk [6,7,8,9,10,11,13,22,187,188,189] J <| aJ <| aY (α := Nat × Nat × (List Nat)) (fun ⟨i2, c2, us3⟩ => [(6, .v (.int .i64 (sh : Int))), (7, .ref (0 + 2 + 8 + 2) 1 0 us3.length), (8, .sl 1 (vs.map d32)), (9, .v (.int .i64 (vs.length : Int))), (10, .ref (0 + 2 + 8 + 9 + 3 + 4) 1 0 qs.length), (11, .v (.int .i64 ((k : Int) - 1))), (13, .v (.int .u64 ((q1 - 1 : Nat) : Int))), (22, .v (.int .u32 (c2 : Int))), (187, .sl 1 (vs.map d32)), (188, .v (.int .i64 (vs.length : Int))), (189, .v (.int .i64 (i2 : Int)))]) (fun ⟨i2, c2, us3⟩ => [((0 + 2 + 8 + 2), { cells := (us3.map d32).flatten, sz := 1, elem := 189, st := 0 }), ((0 + 2 + 8 + 9 + 3 + 4), { cells := (qs.map d32).flatten, sz := 1, elem := 189, st := 0 })]) (fun ⟨i2, c2, us3⟩ n => i2 ≤ vs.length ∧ us3.length = us.length ∧ Dg 4294967296 us3 ∧ c2 ≤ 1 ∧ val 4294967296 us3 + 4294967296 ^ (k - 1 + i2) * c2 = val 4294967296 (us1.set (k - 1 + vs.length) d) + 4294967296 ^ (k - 1) * val 4294967296 (vs.take i2) ∧ us3.take (k - 1) = us.take (k - 1) ∧ us3.drop (k - 1 + vs.length) = (us1.set (k - 1 + vs.length) d).drop (k - 1 + vs.length) ∧ 30 ≤ n) (fun ⟨i2, c2, us3⟩ => vs.length - i2) (0, 0, (us1.set (k - 1 + vs.length) d)) ⟨rfl, congrArg some (by rw [List.length_set]), rfl, rfl, rfl, rfl, rfl, rfl, rfl, rfl, rfl, trivial⟩ ⟨g0, g1 (by decide) (g1 (by decide) g0), trivial⟩ ⟨Nat.zero_le _, hlT, hdT, by decide, by simp [val], htT, rfl, om⟩ ?_
  rintro ⟨i2, c2, us3⟩ n hM
  change WC _ _ _ _ _ (_ :: _) (_ :: _) n _
  obtain ⟨hi2, hl3, hd3, hc3, he3, ht3, hp3, hn33⟩ := hM
  refine Rg 1 J <| aA (cC J J) J <| bF (fun h190 => ?_) (fun h190 => ?_)
  ·refine Wn <| aS J <| aG <| aJ <| Rg 5 J <| Um J J <| aA (cK J J J J J om J) J <| aA (dX J J J) J <| Ua J J <| Ua J J <| Nk [6,7,8,9,10,11,13,22,23,24,187,188,189] J ?_
   have hu3 : us3.getD (k - 1 + i2) default < 4294967296 := bL hd3 om
   have hv3 : vs.getD i2 default < 4294967296 := bL hvd om
   refine aI (z := 19) J <| Um J J <| Um J J <| Um J J <| aA (cI (((k - 1 + i2 : Nat) : Int)) (aR J J om) om) J <| Um J J <| Um J J <| Um J J <| aA (cI (((k - 1 + i2 : Nat) : Int)) (aR J J om) om) J <| aA (cZ (j := k - 1 + i2) J J J J om om J) J <| aA (gY (f := d32) (us := us3) (j := k - 1 + i2) J J g0 (fun _ => rfl) J (by decide) om J) J <| Um J J <| Um J J <| aA (aN J (gS (us3.getD (k - 1 + i2) default) (vs.getD i2 default) c2 hu3 hv3 hc3) (by simp)) J <| Um J J <| aA (cS J J) J <| aA (cS J J) J <| aA (cZ (j := k - 1 + i2) J J J J om om J) J <| aW (fO (f := d32) (us := us3) ((us3.getD (k - 1 + i2) default + vs.getD i2 default + c2) % 4294967296) J J J g0 (fun _ => rfl) J J om J) <| Ua J J <| Wn <| aF <| Ck [6,7,8,9,10,11,13,22,187,188,189] J <| aI (z := 2) J ?_
   refine aA (cI (((i2 + 1 : Nat) : Int)) (aR J J om) om) J <| Um J J <| Wn <| aE <| ⟨⟨i2 + 1, _, us3.set (k - 1 + i2) ((us3.getD (k - 1 + i2) default + vs.getD i2 default + c2) % 4294967296)⟩, ⟨rfl, congrArg some (by rw [List.length_set]), rfl, rfl, rfl, rfl, rfl, rfl, rfl, rfl, rfl, trivial⟩, ⟨g0, g1 (by decide) (g1 (by decide) g0), trivial⟩, ⟨om, by rw [List.length_set]; exact hl3, hd3.set _ om, om, iE he3 om, by rw [cE om]; exact ht3, by rw [cR om]; exact hp3, om⟩, by show vs.length - (i2 + 1) < vs.length - i2; omega⟩
  refine Wn <| aU J <| bA <| aP <| aQ J ?_
  have hi' : i2 = vs.length := by omega
  subst hi'
  rw [List.take_of_length_le (Nat.le_refl _)] at he3
  have hu3 : us3.getD (k - 1 + vs.length) default < 4294967296 := bL hd3 om
  refine Rg 10 J <| Um J J <| Um J J <| Um J J <| aA (cI (((k - 1 + vs.length : Nat) : Int)) (aR J J om) om) J <| aA (cZ (j := k - 1 + vs.length) J J J J om om J) J <| aA (gY (f := d32) (us := us3) (j := k - 1 + vs.length) J J g0 (fun _ => rfl) J (by decide) om J) J <| Um J J <| aA (cI ((((us3.getD (k - 1 + vs.length) default + c2) % 4294967296 : Nat) : Int)) (oAdd32 J J) om) J <| aA (cZ (j := k - 1 + vs.length) J J J J om om J) J <| aW (fO (f := d32) (us := us3) ((us3.getD (k - 1 + vs.length) default + c2) % 4294967296) J J J g0 (fun _ => rfl) J J om J) <| Nk [6,7,8,9,10,11,13] J ?_
  have hlF : (us3.set (k - 1 + vs.length) ((us3.getD (k - 1 + vs.length) default + c2) % 4294967296)).length = us.length := by rw [List.length_set]; exact hl3
  have hdF : Dg 4294967296 (us3.set (k - 1 + vs.length) ((us3.getD (k - 1 + vs.length) default + c2) % 4294967296)) := hd3.set _ om
  have h4 := iD he3 om
  obtain ⟨hs4, hltF⟩ := nU (by decide) hV0 hdF om hlF hRB (by rw [cR om]; exact (eL hp3 om).trans hpT) (by rw [cE om]; exact ht3) hs2 h4 hG2 hq1p hqo hgt om
  have hUF := fY (qs := qs) (j := k - 1) om (by rw [show k - 1 + 1 = k by omega]; exact hU) hs4
  refine aI (z := 6) J <| Um J J <| Um J J <| Um J J <| aA (cI (((q1 - 1 : Nat) : Int)) (bW J J J) (by rw [IntKind.wrap_u32]; omega)) J <| aA (cZ (j := k - 1) J J J J om om J) J <| aW (fO (f := d32) (us := qs) (q1 - 1) J J J (g1 (by decide) (g1 (by decide) g0)) (fun _ => rfl) J J om J) <| Wn <| aF <| aI (z := 3) J <| Um J J <| aA (cI (((k - 1 : Nat) : Int) - 1) (cV J J om) om) J <| Ua J J <| Wn <| aE <| ⟨⟨k - 1, (us3.set (k - 1 + vs.length) ((us3.getD (k - 1 + vs.length) default + c2) % 4294967296)), qs.set (k - 1) (q1 - 1)⟩, ⟨rfl, congrArg some (by rw [List.length_set]), rfl, rfl, congrArg some (by rw [List.length_set]), rfl, trivial⟩, ⟨g1 (by decide) g0, g0, trivial⟩, ⟨by rw [hlF]; omega, by rw [hlF]; exact hul, by rw [List.length_set]; exact hql0, hdF, hqd.set _ om, hUF, hltF, om⟩, by show k - 1 < k; omega⟩
 refine aO (bZ J J) J <| bY (bH kR) J <| Ck [6,7,8,9,10,11,13,14,93,94,95,96,97,98,99,100,101,102,103,104,105,106,107,108,109,110,111,112,113] J <| aS J <| aG <| cM ?_
 obtain ⟨hdc1, hdc2⟩ := lq_dec LQh hG1 hG2 (by first | exact .inl om | exact .inr om)
 refine Rg 3 J <| Um J J <| aA (cI (((qh - 1 : Nat) : Int)) (fP J J) om) J <| Ua J J <| Nk [6,7,8,9,10,11,13,14,93,94,95,96,97,98,99,100,101,102,103,104,105,106,107,108,109,110,111,112] J <| Rg 9 J <| Um J J <| Um J J <| Um J J <| aA (cV J J om) J <| aA (cK (j := vs.length - 1) J J J J om om J) J <| aA (dX J J J) J <| aA (cI ((v1 : Int)) (bW J J J) (by rw [IntKind.wrap_u64]; omega)) J <| aA (cI (((rh + v1 : Nat) : Int)) (gW J J) om) J <| Ua J J <| Nk [6,7,8,9,10,11,13,14,93,94,95,96,97,98,99,100,101,102,103,104,105,106,107,108,109,110,111,112] J <| Rg 2 J <| Um J J <| aA (iT J J) J <| bF (fun h125 => ?_) (fun h125 => ?_)
 rotate_left
 ·refine Nk [6,7,8,9,10,11,13,14,93,94,95,96,97,98,99,100,101,102,103,104,105,106,107,108,109,110,111,112,125] J <| bT J <| bR <| dE <| aE <| ⟨⟨qh - 1, rh + v1⟩, ⟨J, J, J, J, J, J, J, J, trivial⟩, ⟨g0, g1 (by decide) g0, trivial⟩, ⟨dec_eq hG1 hdc1, hdc2, om, om, om⟩, by show qh - 1 < qh; omega⟩
 refine Nk [6,7,8,9,10,11,13,14,93,94,95,96,97,98,99,100,101,102,103,104,105,106,107,108,109,110,111,112,125] J <| cA J <| qP <| kF J <| aP <| aQ J <| Ck [6,7,8,9,10,11,13,93,94,95,96,97,98,99,100,101,102,103,104,105,106,107,108,109,110,111,112] J ?_
 obtain ⟨hql, hqo⟩ := lq_break LQh hG1 hdc1 hG4 om hG3
 replace hG2 := hdc2
 obtain ⟨q1, hq1⟩ : ∃ q1, q1 = qh - 1 := ⟨_, rfl⟩
 rw [← hq1] at hqo hql hG2 ⊢
 refine Rg 2 J <| Ua J J <| Ua J J <| Nk [6,7,8,9,10,11,13,15,16,93,94,95,96,97,98,99,100,101,102,103,104,105,106,107,108,109,110,111,112] J <| aC <| Rg 3 J <| Um J J <| aA (bC J J) J <| Um J J <| Nk [6,7,8,9,10,11,13,15,16,93,94,95,96,97,98,99,100,101,102,103,104,105,106,107,108,109,110,111,112,126,127,128] J <| aJ ?_
 refine aY (α := Nat × Nat × Nat × (List Nat)) (fun ⟨i, c, b, us1⟩ => [(6, .v (.int .i64 (sh : Int))), (7, .ref (0 + 2 + 8 + 2) 1 0 us1.length), (8, .sl 1 (vs.map d32)), (9, .v (.int .i64 (vs.length : Int))), (10, .ref (0 + 2 + 8 + 9 + 3 + 4) 1 0 qs.length), (11, .v (.int .i64 ((k : Int) - 1))), (13, .v (.int .u64 (q1 : Int))), (15, .v (.int .u64 (b : Int))), (16, .v (.int .u64 (c : Int))), (126, .sl 1 (vs.map d32)), (127, .v (.int .i64 (vs.length : Int))), (128, .v (.int .i64 (i : Int)))]) (fun ⟨i, c, b, us1⟩ => [((0 + 2 + 8 + 2), { cells := (us1.map d32).flatten, sz := 1, elem := 189, st := 0 }), ((0 + 2 + 8 + 9 + 3 + 4), { cells := (qs.map d32).flatten, sz := 1, elem := 189, st := 0 })]) (fun ⟨i, c, b, us1⟩ n => i ≤ vs.length ∧ us1.length = us.length ∧ Dg 4294967296 us1 ∧ c < 4294967296 ∧ b ≤ 1 ∧ val 4294967296 us1 + 4294967296 ^ (k - 1) * (q1 * val 4294967296 (vs.take i)) = val 4294967296 us + 4294967296 ^ (k - 1 + i) * (c + b) ∧ us1.take (k - 1) = us.take (k - 1) ∧ us1.drop (k - 1 + i) = us.drop (k - 1 + i) ∧ 30 ≤ n) (fun ⟨i, c, b, us1⟩ => vs.length - i) (0, 0, 0, us) ⟨J, J, J, J, J, J, J, J, J, J, J, J, trivial⟩ ⟨g0, g1 (by decide) g0, trivial⟩ ⟨Nat.zero_le _, rfl, hud, by decide, by decide, by simp [val], rfl, rfl, om⟩ ?_
 rintro ⟨i, c, b, us1⟩ n hL
 change WC _ _ _ _ _ (_ :: _) (_ :: _) n _
 obtain ⟨hi, hl1, hd1, hc1, hb1, he1, ht1, hp1, hn32⟩ := hL
 refine Rg 1 J <| aA (cC J J) J <| bF (fun h129 => ?_) (fun h129 => ?_)
 ·refine Wn <| aS J <| aG <| aJ ?_
  have hvi : vs.getD i default < 4294967296 := bL hvd om
  have hui : us1.getD (k - 1 + i) default < 4294967296 := bL hd1 om
  have hqv := fV hql hvi
  obtain ⟨p, hpe⟩ : ∃ p, p = q1 * vs.getD i default + c := ⟨_, rfl⟩
  obtain ⟨u, hue⟩ : ∃ u, u = us1.getD (k - 1 + i) default := ⟨_, rfl⟩
  have hpb : p < 18446744073709551616 := by omega
  obtain ⟨d, hde⟩ : ∃ d, d = (u + 4294967296 - p % 4294967296 - b) % 4294967296 := ⟨_, rfl⟩
  refine Rg 5 J <| Um J J <| aA (cK J J J J J om J) J <| aA (dX J J J) J <| Ua J J <| Ua J J <| Nk [6,7,8,9,10,11,13,15,16,17,18,126,127,128] J <| Rg 7 J <| Um J J <| Um J J <| aA (cI ((vs.getD i default : Int)) (bW J J J) (by rw [IntKind.wrap_u64]; omega)) J <| aA (cI (((q1 * vs.getD i default : Nat) : Int)) (jV J J) (by rw [← Int.natCast_mul]; omega)) J <| Um J J <| aA (cI ((p : Int)) (gW J J) om) J <| Ua J J <| Nk [6,7,8,9,10,11,13,15,17,19,126,127,128] J <| Rg 3 J <| Um J J <| aA (cI (((p / 4294967296 : Nat) : Int)) (dR (s := 32) J J om) om) J <| Ua J J <| Nk [6,7,8,9,10,11,13,15,16,17,19,126,127,128] J ?_
  refine Rg 14 J <| Um J J <| Um J J <| Um J J <| aA (cI (((k - 1 + i : Nat) : Int)) (aR J J om) om) J <| aA (cZ (j := k - 1 + i) J J J J om om J) J <| aA (gY (f := d32) (us := us1) (j := k - 1 + i) J J g0 (fun _ => rfl) J (by decide) om J) J <| aA (cI ((u : Int)) (bW J J J) (by rw [IntKind.wrap_u64]; omega)) J <| Um J J <| aA (cI (((p % 4294967296 : Nat) : Int)) (bW J J J) (by rw [IntKind.wrap_u32]; omega)) J <| aA (cI (((p % 4294967296 : Nat) : Int)) (bW J J J) (by rw [IntKind.wrap_u64]; omega)) J <| aA (fP J J) J <| Um J J <| aA (cI (((((u + 18446744073709551616 - p % 4294967296 - b) % 18446744073709551616) : Nat) : Int)) (fP J J) om) J <| Ua J J <| Nk [6,7,8,9,10,11,13,16,17,20,126,127,128] J <| Rg 8 J <| Um J J <| Um J J <| Um J J <| aA (cI (((k - 1 + i : Nat) : Int)) (aR J J om) om) J <| Um J J <| aA (cI ((d : Int)) (bW J J J) (by rw [IntKind.wrap_u32]; omega)) J ?_
  refine aA (cZ (j := k - 1 + i) J J J J om om J) J <| aW (fO (f := d32) (us := us1) d J J J g0 (fun _ => rfl) J J om J) <| Nk [6,7,8,9,10,11,13,16,20,126,127,128] J <| aI (z := 3) J <| Um J J <| aA (cI (((if u < p % 4294967296 + b then 1 else 0 : Nat) : Int)) (dR (s := 63) J J om) (by split <;> omega)) J <| Ua J J <| Wn <| aF <| Ck [6,7,8,9,10,11,13,15,16,126,127,128] J <| aI (z := 2) J <| aA (cI (((i + 1 : Nat) : Int)) (aR J J om) om) J <| Um J J <| Wn <| aE <| ⟨⟨i + 1, p / 4294967296, if u < p % 4294967296 + b then 1 else 0, us1.set (k - 1 + i) d⟩, ⟨rfl, congrArg some (by rw [List.length_set]), rfl, rfl, rfl, rfl, rfl, rfl, rfl, rfl, rfl, rfl, trivial⟩, ⟨g0, g1 (by decide) (g1 (by decide) g0), trivial⟩, ⟨om, by rw [List.length_set]; exact hl1, hd1.set _ om, om, by split <;> omega, ?_, by rw [cE om]; exact ht1, by rw [cR om]; exact eL hp1 om, om⟩, by show vs.length - (i + 1) < vs.length - i; omega⟩
  rw [hpe]
  exact jC he1 om (by rw [← hpe, ← hue, hde]; split <;> omega)
 refine Wn <| aU J <| bA <| aP <| aQ J ?_
 have hi' : i = vs.length := by omega
 subst hi'
 rw [List.take_of_length_le (Nat.le_refl _)] at he1
 obtain ⟨u, hue⟩ : ∃ u, u = us1.getD (k - 1 + vs.length) default := ⟨_, rfl⟩
 have hul1 : u < 4294967296 := by rw [hue]; exact bL hd1 om
 obtain ⟨d, hde⟩ : ∃ d, d = (u + 4294967296 - c - b) % 4294967296 := ⟨_, rfl⟩
 have hd4 : d < 4294967296 := by omega
 refine Rg 12 J <| Um J J <| Um J J <| Um J J <| aA (cI (((k - 1 + vs.length : Nat) : Int)) (aR J J om) om) J <| aA (cZ (j := k - 1 + vs.length) J J J J om om J) J <| aA (gY (f := d32) (us := us1) (j := k - 1 + vs.length) J J g0 (fun _ => rfl) J (by decide) om J) J <| aA (cI ((u : Int)) (bW J J J) (by rw [IntKind.wrap_u64]; omega)) J <| Um J J <| aA (fP J J) J <| Um J J <| aA (cI (((((u + 18446744073709551616 - c - b) % 18446744073709551616) : Nat) : Int)) (fP J J) om) J <| Ua J J <| Nk [6,7,8,9,10,11,13,21] J <| Rg 8 J <| Um J J <| Um J J <| Um J J <| aA (cI (((k - 1 + vs.length : Nat) : Int)) (aR J J om) om) J <| Um J J <| aA (cI ((d : Int)) (bW J J J) (by rw [IntKind.wrap_u32]; omega)) J <| aA (cZ (j := k - 1 + vs.length) J J J J om om J) J <| aW (fO (f := d32) (us := us1) d J J J g0 (fun _ => rfl) J J om J) ?_
 refine Nk [6,7,8,9,10,11,13,21] J <| aC <| Rg 3 J <| Um J J <| aA (cI (((if u < c + b then 1 else 0 : Nat) : Int)) (dR (s := 63) J J om) (by split <;> omega)) J <| aA (fF J J) J <| bF (fun h184 => ?_) (fun h184 => ?_)
 rotate_left
 ·have hneg : c + b ≤ u := by
   rcases Nat.lt_or_ge u (c + b) with h | h
   ·rw [if_pos h] at h184; simp at h184
   ·exact h
  have hs2 := hY (o := 0) (d := d) he1 om (by rw [← hue]; omega)
  rw [Nat.mul_zero, Nat.add_zero] at hs2
  refine Wn <| aU J <| aG ?_
  have hlF : (us1.set (k - 1 + vs.length) d).length = us.length := by rw [List.length_set]; exact hl1
  have hdF : Dg 4294967296 (us1.set (k - 1 + vs.length) d) := hd1.set _ hd4
  have hltF := lR (by decide) hV0 om om (by rw [cE om]; exact ht1) hs2 hG2
  have hUF := fY (qs := qs) (j := k - 1) om (by rw [show k - 1 + 1 = k by omega]; exact hU) hs2
  refine aI (z := 6) J <| Um J J <| Um J J <| Um J J <| aA (cI ((q1 : Int)) (bW J J J) (by rw [IntKind.wrap_u32]; omega)) J <| aA (cZ (j := k - 1) J J J J om om J) J <| aW (fO (f := d32) (us := qs) q1 J J J (g1 (by decide) (g1 (by decide) g0)) (fun _ => rfl) J J om J) <| Wn <| aF <| Ck [6,7,8,9,10,11] J <| aI (z := 3) J <| Um J J <| aA (cI (((k - 1 : Nat) : Int) - 1) (cV J J om) om) J <| Ua J J <| Wn <| aE <| ⟨⟨k - 1, (us1.set (k - 1 + vs.length) d), qs.set (k - 1) q1⟩, ⟨rfl, congrArg some (by rw [List.length_set]), rfl, rfl, congrArg some (by rw [List.length_set]), rfl, trivial⟩, ⟨g1 (by decide) g0, g0, trivial⟩, ⟨by rw [hlF]; omega, by rw [hlF]; exact hul, by rw [List.length_set]; exact hql0, hdF, hqd.set _ om, hUF, hltF, om⟩, by show k - 1 < k; omega⟩
 have hneg : u < c + b := by
  rcases Nat.lt_or_ge u (c + b) with h | h
  ·exact h
  ·rw [if_neg om] at h184; simp at h184
 have hs2 := hY (o := 1) (d := d) he1 om (by rw [← hue]; omega)
 have hlT : (us1.set (k - 1 + vs.length) d).length = us.length := by rw [List.length_set]; exact hl1
 have hdT : Dg 4294967296 (us1.set (k - 1 + vs.length) d) := hd1.set _ hd4
 have htT : (us1.set (k - 1 + vs.length) d).take (k - 1) = us.take (k - 1) := by rw [cE om]; exact ht1
 have hpT : (us1.set (k - 1 + vs.length) d).drop (k - 1 + vs.length + 1) = us.drop (k - 1 + vs.length + 1) := by rw [cR om]; exact eL hp1 om
 obtain ⟨hgt, hq1p⟩ := neg_gt (by decide) hdT om hlT hRB hpT htT hs2
 refine Wn <| aS J <| aC <| Rg 3 J <| Um J J <| aA (cI (((q1 - 1 : Nat) : Int)) (fP J J) om) J <| Ua J J <| Wn <| aC <| Rg 1 J <| Ua J J <| Wn <| aC <| aC <| Rg 3 J <| Um J J <| aA (bC J J) J <| Um J J <| Nk [6,7,8,9,10,11,13,22,187,188,189] J <| aJ <| aY (α := Nat × Nat × (List Nat)) (fun ⟨i2, c2, us3⟩ => [(6, .v (.int .i64 (sh : Int))), (7, .ref (0 + 2 + 8 + 2) 1 0 us3.length), (8, .sl 1 (vs.map d32)), (9, .v (.int .i64 (vs.length : Int))), (10, .ref (0 + 2 + 8 + 9 + 3 + 4) 1 0 qs.length), (11, .v (.int .i64 ((k : Int) - 1))), (13, .v (.int .u64 ((q1 - 1 : Nat) : Int))), (22, .v (.int .u32 (c2 : Int))), (187, .sl 1 (vs.map d32)), (188, .v (.int .i64 (vs.length : Int))), (189, .v (.int .i64 (i2 : Int)))]) (fun ⟨i2, c2, us3⟩ => [((0 + 2 + 8 + 2), { cells := (us3.map d32).flatten, sz := 1, elem := 189, st := 0 }), ((0 + 2 + 8 + 9 + 3 + 4), { cells := (qs.map d32).flatten, sz := 1, elem := 189, st := 0 })]) (fun ⟨i2, c2, us3⟩ n => i2 ≤ vs.length ∧ us3.length = us.length ∧ Dg 4294967296 us3 ∧ c2 ≤ 1 ∧ val 4294967296 us3 + 4294967296 ^ (k - 1 + i2) * c2 = val 4294967296 (us1.set (k - 1 + vs.length) d) + 4294967296 ^ (k - 1) * val 4294967296 (vs.take i2) ∧ us3.take (k - 1) = us.take (k - 1) ∧ us3.drop (k - 1 + vs.length) = (us1.set (k - 1 + vs.length) d).drop (k - 1 + vs.length) ∧ 30 ≤ n) (fun ⟨i2, c2, us3⟩ => vs.length - i2) (0, 0, (us1.set (k - 1 + vs.length) d)) ⟨rfl, congrArg some (by rw [List.length_set]), rfl, rfl, rfl, rfl, rfl, rfl, rfl, rfl, rfl, trivial⟩ ⟨g0, g1 (by decide) (g1 (by decide) g0), trivial⟩ ⟨Nat.zero_le _, hlT, hdT, by decide, by simp [val], htT, rfl, om⟩ ?_
 rintro ⟨i2, c2, us3⟩ n hM
 change WC _ _ _ _ _ (_ :: _) (_ :: _) n _
 obtain ⟨hi2, hl3, hd3, hc3, he3, ht3, hp3, hn33⟩ := hM
 refine Rg 1 J <| aA (cC J J) J <| bF (fun h190 => ?_) (fun h190 => ?_)
 ·refine Wn <| aS J <| aG <| aJ <| Rg 5 J <| Um J J <| aA (cK J J J J J om J) J <| aA (dX J J J) J <| Ua J J <| Ua J J <| Nk [6,7,8,9,10,11,13,22,23,24,187,188,189] J ?_
  have hu3 : us3.getD (k - 1 + i2) default < 4294967296 := bL hd3 om
  have hv3 : vs.getD i2 default < 4294967296 := bL hvd om
  refine aI (z := 19) J <| Um J J <| Um J J <| Um J J <| aA (cI (((k - 1 + i2 : Nat) : Int)) (aR J J om) om) J <| Um J J <| Um J J <| Um J J <| aA (cI (((k - 1 + i2 : Nat) : Int)) (aR J J om) om) J <| aA (cZ (j := k - 1 + i2) J J J J om om J) J <| aA (gY (f := d32) (us := us3) (j := k - 1 + i2) J J g0 (fun _ => rfl) J (by decide) om J) J <| Um J J <| Um J J <| aA (aN J (gS (us3.getD (k - 1 + i2) default) (vs.getD i2 default) c2 hu3 hv3 hc3) (by simp)) J <| Um J J <| aA (cS J J) J <| aA (cS J J) J <| aA (cZ (j := k - 1 + i2) J J J J om om J) J <| aW (fO (f := d32) (us := us3) ((us3.getD (k - 1 + i2) default + vs.getD i2 default + c2) % 4294967296) J J J g0 (fun _ => rfl) J J om J) <| Ua J J <| Wn <| aF <| Ck [6,7,8,9,10,11,13,22,187,188,189] J <| aI (z := 2) J ?_
  refine aA (cI (((i2 + 1 : Nat) : Int)) (aR J J om) om) J <| Um J J <| Wn <| aE <| ⟨⟨i2 + 1, _, us3.set (k - 1 + i2) ((us3.getD (k - 1 + i2) default + vs.getD i2 default + c2) % 4294967296)⟩, ⟨rfl, congrArg some (by rw [List.length_set]), rfl, rfl, rfl, rfl, rfl, rfl, rfl, rfl, rfl, trivial⟩, ⟨g0, g1 (by decide) (g1 (by decide) g0), trivial⟩, ⟨om, by rw [List.length_set]; exact hl3, hd3.set _ om, om, iE he3 om, by rw [cE om]; exact ht3, by rw [cR om]; exact hp3, om⟩, by show vs.length - (i2 + 1) < vs.length - i2; omega⟩
 refine Wn <| aU J <| bA <| aP <| aQ J ?_
 have hi' : i2 = vs.length := by omega
 subst hi'
 rw [List.take_of_length_le (Nat.le_refl _)] at he3
 have hu3 : us3.getD (k - 1 + vs.length) default < 4294967296 := bL hd3 om
 refine Rg 10 J <| Um J J <| Um J J <| Um J J <| aA (cI (((k - 1 + vs.length : Nat) : Int)) (aR J J om) om) J <| aA (cZ (j := k - 1 + vs.length) J J J J om om J) J <| aA (gY (f := d32) (us := us3) (j := k - 1 + vs.length) J J g0 (fun _ => rfl) J (by decide) om J) J <| Um J J <| aA (cI ((((us3.getD (k - 1 + vs.length) default + c2) % 4294967296 : Nat) : Int)) (oAdd32 J J) om) J <| aA (cZ (j := k - 1 + vs.length) J J J J om om J) J <| aW (fO (f := d32) (us := us3) ((us3.getD (k - 1 + vs.length) default + c2) % 4294967296) J J J g0 (fun _ => rfl) J J om J) <| Nk [6,7,8,9,10,11,13] J ?_
 have hlF : (us3.set (k - 1 + vs.length) ((us3.getD (k - 1 + vs.length) default + c2) % 4294967296)).length = us.length := by rw [List.length_set]; exact hl3
 have hdF : Dg 4294967296 (us3.set (k - 1 + vs.length) ((us3.getD (k - 1 + vs.length) default + c2) % 4294967296)) := hd3.set _ om
 have h4 := iD he3 om
 obtain ⟨hs4, hltF⟩ := nU (by decide) hV0 hdF om hlF hRB (by rw [cR om]; exact (eL hp3 om).trans hpT) (by rw [cE om]; exact ht3) hs2 h4 hG2 hq1p hqo hgt om
 have hUF := fY (qs := qs) (j := k - 1) om (by rw [show k - 1 + 1 = k by omega]; exact hU) hs4
 refine aI (z := 6) J <| Um J J <| Um J J <| Um J J <| aA (cI (((q1 - 1 : Nat) : Int)) (bW J J J) (by rw [IntKind.wrap_u32]; omega)) J <| aA (cZ (j := k - 1) J J J J om om J) J <| aW (fO (f := d32) (us := qs) (q1 - 1) J J J (g1 (by decide) (g1 (by decide) g0)) (fun _ => rfl) J J om J) <| Wn <| aF <| aI (z := 3) J <| Um J J <| aA (cI (((k - 1 : Nat) : Int) - 1) (cV J J om) om) J <| Ua J J <| Wn <| aE <| ⟨⟨k - 1, (us3.set (k - 1 + vs.length) ((us3.getD (k - 1 + vs.length) default + c2) % 4294967296)), qs.set (k - 1) (q1 - 1)⟩, ⟨rfl, congrArg some (by rw [List.length_set]), rfl, rfl, congrArg some (by rw [List.length_set]), rfl, trivial⟩, ⟨g1 (by decide) g0, g0, trivial⟩, ⟨by rw [hlF]; omega, by rw [hlF]; exact hul, by rw [List.length_set]; exact hql0, hdF, hqd.set _ om, hUF, hltF, om⟩, by show k - 1 < k; omega⟩
end Go.Proofs.Ytcblgjaomljikaa
set_option maxHeartbeats 1000000
namespace Go.Proofs.Ytcblgjaomljikaa
open Go.Ab Go.RowKit
theorem kX (v w : Int) (hw0 : w ≠ 0) (hv : len32 v < 549755813888) (hw : len32 w < 549755813888) : Run Try.prog T E0 (.call 204 [lvI v, lvI w] (.tup [lvI (v.tdiv w), lvI (v.tmod w)])) := by
 obtain ⟨xs, hxs, dv, qv, tv, lxv⟩ := xs_of v
 obtain ⟨ys, hys, dw, qw, tw, lyw⟩ := xs_of w
 have bv := mH v
 have bw := mH w
 have hwa : 0 < w.natAbs := by omega
 have hyl : 0 < ys.length := by
  rcases Nat.eq_zero_or_pos ys.length with h | h
  ·rw [List.length_eq_zero_iff.1 h] at dw; simp [val] at dw; omega
  ·exact h
 refine aZ Try.func204 J J (cW J) ?_
 have J3 : ∀  (n : Nat) , WC Try.prog T E0 Try.f204.ntmps (codeR (codeR (codeOf Try.f204))) [(2, .ptr 0 0), (3, .ptr 1 0), (4, .ptr 2 0), (5, .ptr 3 0)] [(3, { cells := [.v (.int .i64 0), .sl 0 []], sz := 2, elem := 112, st := 0 }), (2, { cells := [.v (.int .i64 0), .sl 0 []], sz := 2, elem := 112, st := 0 }), (1, { cells := (lvI w).cells, sz := 2, elem := 112, st := 0 }), (0, { cells := (lvI v).cells, sz := 2, elem := 112, st := 0 })] n (Post T Try.f204.results.toList (.tup [lvI (v.tdiv w), lvI (v.tmod w)])) := by
  intro  n
  refine Rg 7 J <| aA (aL (l := .agg [_, _]) J J J J J) J <| aA (aN J ((hxs ▸ eC v)) (by simp)) J <| Um J J <| aA (cS J J) J <| aA (cS J J) J <| Ua J J <| Ua J J <| Wn <| Rg 7 J <| aA (aL (l := .agg [_, _]) J J J J J) J <| aA (aN J ((hys ▸ eC w)) (by simp)) J <| Um J J <| aA (cS J J) J <| aA (cS J J) J <| Ua J J <| Ua J J <| Nk [2,4,5,6,7,8,9] J <| aC <| Rg 4 J <| Um J J <| Um J J <| aA (aN J (iW 1 1 xs ys qv qw tv tw om om) (by simp)) J ?_
  refine aA (cC J J) J <| bF (fun h47 => ?_) (fun h47 => ?_)
  ·refine Wn <| aS J <| aC <| cH (z := 4) J kR <| aO (iA (cs := [_, _]) J J J J J) J <| aO (aL (l := .agg [_, _]) J J J J J) J <| dQ (dA (cs' := [_, _]) J J J J J J J J) <| dQ (dA (cs' := [_, _]) J J J J J J J J) <| bY (bH kR) J <| bE <| post (n := 0) (.inr J) J ?_ (by simp)
   obtain ⟨e1, e2⟩ := quo_small (v := v) (w := w) (by have := Int.sign_neg_iff.1 (show ((val 4294967296 xs : Int) - val 4294967296 ys).sign < 0 from h47); omega)
   rw [e1, e2]; rfl
  refine Wn <| aU J <| aG <| aC ?_
  have hge : val 4294967296 ys ≤ val 4294967296 xs := by
   rcases Nat.lt_or_ge (val 4294967296 xs) (val 4294967296 ys) with h | h
   ·exact absurd (Int.sign_neg_iff.2 (show (val 4294967296 xs : Int) - val 4294967296 ys < 0 by omega)) h47
   ·exact h
  have hv0 : v ≠ 0 := by omega
  have hpm := sign_pm hv0 hw0
  have hp1 := sign_1 hv0
  have hll : ys.length ≤ xs.length := by
   rcases Nat.lt_or_ge xs.length ys.length with h | h
   ·have := eU (by decide) qv tw h; omega
   ·exact h
  obtain ⟨σ, hσ⟩ : ∃ σ, σ = v.sign * w.sign := ⟨_, rfl⟩
  rw [← hσ] at hpm
  refine Rg 3 J <| Um J J <| aA (bC J J) J <| aA (fF J J) J <| bF (fun h52 => ?_) (fun h52 => ?_)
  rotate_left
  ·refine Wn <| aU J <| aG ?_
   have hy2 : 2 ≤ ys.length := by omega
   obtain ⟨r, hr, qs, rs, rfl, hqd, hrd, hval, hrest, hql, hrl⟩ := long_run 1 1 xs ys qv qw tw hy2 hll om
   obtain ⟨hq1, hq2⟩ := rP (v := v) (w := w) (q := val 4294967296 qs) (r := val 4294967296 rs) (by rw [← dw, ← dv]; exact hval) (by rw [← dw]; exact hrest)
   refine Rg 8 J <| Um J J <| Um J J <| aA (aN J (hr) (by simp)) J <| Um J J <| aA (cS J J) J <| aA (cS J J) J <| Ua J J <| Ua J J <| Nk [4,5,6,8,12,13] J <| Rg 10 J <| Um J J <| Um J J <| aA (cI σ (jX J J (by rw [← hσ]; omega)) hσ.symm) J <| Um J J <| aA (aN J (eE σ 1 qs om (.inl J) hqd om) (by simp)) J <| Um J J <| Um J J <| aA (aN J (eE v.sign 1 rs om (.inl J) hrd om) (by simp)) J <| aW (dA (cs' := [_, _]) J J J J J J J J) <| aW (dA (cs' := [_, _]) J J J J J J J J) <| Wn <| aK ?_
   refine post (n := 0) (.inr J) J ?_ (by simp)
   rw [hq1, hq2, ← hσ]; rfl
  refine Wn <| aS J <| aC ?_
  have hy1 : ys.length = 1 := by omega
  have hyv : val 4294967296 ys = ys.getD 0 default := by
   obtain ⟨y, rfl⟩ := List.length_eq_one_iff.1 hy1
   simp [val]
  have hyb : ys.getD 0 default < 4294967296 := bL qw om
  obtain ⟨r, hr, ds, rest, rfl, hdd, hrest, hval, hlen⟩ := short_run 1 xs (ys.getD 0 default) qv om hyb om
  obtain ⟨hq1, hq2⟩ := rP (v := v) (w := w) (q := val 4294967296 ds) (r := rest) (by rw [← dw, ← dv, hyv]; exact hval) (by rw [← dw, hyv]; exact hrest)
  have hrd : Dg 4294967296 [rest] := by intro d hd; simp at hd; omega
  refine Rg 10 J <| Um J J <| Um J J <| aA (cK (j := 0) J J J J om om J) J <| aA (dX J J J) J <| aA (aN J (hr) (by simp)) J <| Um J J <| aA (cS J J) J <| aA (cS J J) J <| Ua J J <| Ua J J <| Nk [4,5,6,8,10,11] J <| aC <| Rg 11 J <| Um J J <| Um J J <| aA (cI σ (jX J J (by rw [← hσ]; omega)) hσ.symm) J <| Um J J <| aA (aN J (eE σ 1 ds om (.inl J) hdd om) (by simp)) J <| Um J J <| Um J J <| aA (dK (cs := [_]) (rows := [[_]]) J J (by decide) J J J) J <| aA (aN J (eE v.sign 2 [rest] om (.inr J) hrd (by simp)) (by simp)) J ?_
  refine aW (dA (cs' := [_, _]) J J J J J J J J) <| aW (dA (cs' := [_, _]) J J J J J J J J) <| Nk [4,5] J <| bE <| post (n := 0) (.inr J) J ?_ (by simp)
  rw [hq1, hq2, ← hσ]; exact congrArg (fun z => LV.tup [lvI (σ * (val 4294967296 ds : Int)), lvI (v.sign * z)]) (by simp [val])
 refine Rg 4 J <| bB (dY J J) J <| bB (dY J J) J <| bB (fN J) J <| bB (fN J) J <| Wn <| aC <| Rg 8 J <| aA (bD J J J J J) J <| aA (aL J J J J J) J <| aA (mK J J) J <| dH (fun h16 => ?_) (fun h16 => ?_)
 rotate_left
 ·refine Um J J <| K1 J J <| K1 J J <| K1 J J <| aA (bZ J J) J <| Wn <| aU J <| aG <| Ck [2,3,4,5] J ?_
  exact J3 _
 refine Um J J <| aH J (bD J J J J J) J <| aH J (aL J J J J J) J <| aH J (mK J J) J <| dH (fun h20 => ?_) (fun h20 => ?_)
 rotate_left
 ·refine aA (bS J J) J <| Wn <| aU J <| aG <| Ck [2,3,4,5] J ?_
  exact J3 _
 refine aA (bS J J) J <| Wn <| aS J <| aC ?_
 have hia := cU (mI.1 h16)
 have hiw := cU (mI.1 h20)
 have sv := mI.1 h16
 have b1 : (v.tdiv w).natAbs ≤ v.natAbs := by rw [Int.natAbs_tdiv]; exact Nat.div_le_self _ _
 have b2 : (v.tmod w).natAbs ≤ v.natAbs := by rw [Int.natAbs_tmod]; exact Nat.mod_le _ _
 unfold small at sv
 refine cH (z := 14) J kR <| aO (bD J J J J J) J <| aO (cI v (aL J J J J J) hia) J <| aO (bD J J J J J) J <| aO (cI w (aL J J J J J) hiw) J <| aO (oQuo64 J J hw0 om) J <| aO (iA (cs := [_, _]) J J J J J) J <| aO (bD J J J J J) J <| aO (cI v (aL J J J J J) hia) J <| aO (bD J J J J J) J <| aO (cI w (aL J J J J J) hiw) J <| aO (oRem J J hw0) J <| aO (iA (cs := [_, _]) J J J J J) J <| dQ (dA (cs' := [_, _]) J J J J J J J J) <| dQ (dA (cs' := [_, _]) J J J J J J J J) <| bY (bH kR) J <| Ck [4,5] J <| bE <| post (n := 0) (.inr J) J ?_ (by simp)
 rw [gU (v := v.tdiv w) (by unfold small; omega), gU (v := v.tmod w) (by unfold small; omega)]; rfl
theorem gcd_run (v w : Int) (hv : len32 v < 549755813888) (hw : len32 w < 549755813888) : Run Try.prog T E0 (.call 180 [lvI v, lvI w] (lvI (v.gcd w : Nat))) := by
 refine aZ Try.func180 J J (cW J) <| Rg 3 J <| bB (dY J J) J <| bB (dY J J) J <| bB (fN J) J <| Wn <| cH (z := 6) J kR <| aO (aL (l := .agg [_, _]) J J J J J) J <| aO (aN J (abs_run _) (by simp)) J <| aO (aL (l := .agg [_, _]) J J J J J) J <| aO (aN J (abs_run _) (by simp)) J <| dQ (dA (cs' := [_, _]) J J J J J J J J) <| dQ (dA (cs' := [_, _]) J J J J J J J J) <| bY (bH kR) J <| aJ <| aY (α := Nat × Nat) (fun ⟨a, b⟩ => [(2, .ptr 0 0), (3, .ptr 1 0), (4, .ptr 2 0)]) (fun ⟨a, b⟩ => [(0, { cells := (lvI (a : Int)).cells, sz := 2, elem := 112, st := 0 }), (1, { cells := (lvI (b : Int)).cells, sz := 2, elem := 112, st := 0 }), (2, { cells := [.v (.int .i64 0), .sl 0 []], sz := 2, elem := 112, st := 0 })]) (fun ⟨a, b⟩ n => Nat.gcd a b = v.gcd w ∧ len32 (a : Int) < 549755813888 ∧ len32 (b : Int) < 549755813888 ∧ 3 ≤ n) (fun ⟨a, b⟩ => b) (v.natAbs, w.natAbs) ⟨J, J, J, trivial⟩ ⟨J, J, J, trivial⟩ ⟨rfl, by rw [pU]; exact hv, by rw [pU]; exact hw, om⟩ ?_
 rintro ⟨a, b⟩ n hF
 change WC _ _ _ _ _ (_ :: _) (_ :: _) n _
 obtain ⟨hg, hla, hlb, hn3⟩ := hF
 refine aC <| Rg 3 J <| aA (aL (l := .agg [_, _]) J J J J J) J <| aA (aN J (hP _) (by simp)) J <| aA (iO J J) J <| bF (fun h13 => ?_) (fun h13 => ?_)
 rotate_left
 ·refine Wn <| aU J <| bA <| aP <| aQ J <| Rg 2 J <| aA (aL (l := .agg [_, _]) J J J J J) J <| aW (dA (cs' := [_, _]) J J J J J J J J) <| Wn <| aK <| post (n := 0) (.inr J) J ?_ (by simp)
  have hb0 : b = 0 := by
   have := Int.sign_eq_zero_iff_zero (a := (b : Int)); omega
  subst hb0
  rw [Nat.gcd_zero_right] at hg
  rw [← hg]; rfl
 refine Wn <| aS J <| aG <| cM ?_
 have hb0 : 0 < b := by
  rcases Nat.eq_zero_or_pos b with h | h
  ·subst h; simp at h13
  ·exact h
 have hm : (a : Int).tmod b = ((a % b : Nat) : Int) := by rw [Int.tmod_eq_emod_of_nonneg om]; simp
 have hlm : len32 ((a % b : Nat) : Int) < 549755813888 := by rw [← hm]; have := len32_tmod (a : Int) (b : Int); omega
 refine Rg 10 J <| aA (aL (l := .agg [_, _]) J J J J J) J <| aA (aL (l := .agg [_, _]) J J J J J) J <| aA (aN J (kX (a : Int) (b : Int) om hla hlb) (by simp)) J <| Um J J <| aA (cS J J) J <| aA (bP (b := lvI ((a % b : Nat) : Int)) (cS J J) (by rw [hm])) J <| bB (fN J) J <| bB (fN J) J <| aW (dA (cs' := [_, _]) J J J (g1 om g0) J J J J) <| aW (dA (cs' := [_, _]) J J J (g1 om g0) J J J J) <| Wn <| fC (z := 4) J kR <| aO (aL (l := .agg [_, _]) J J (g1 om (g1 om (g1 om (g1 om (g1 (by decide) g0))))) J J) J <| aO (aL (l := .agg [_, _]) J J g0 J J) J <| dQ (dA (cs' := [_, _]) J J J (g1 om (g1 om (g1 om (g1 om g0)))) J J J J) <| dQ (dA (cs' := [_, _]) J J J (g1 (by decide) (g1 om (g1 om (g1 om (g1 om (g1 (by decide) g0)))))) J J J J) <| bY (bH kR) J <| dE <| aE <| ⟨⟨b, a % b⟩, ⟨J, J, J, trivial⟩, ⟨g1 (by decide) g0, g0, g1 (by decide) (g1 (by decide) (g1 om (g1 om (g1 om (g1 om (g1 (by decide) (g1 (by decide) g0))))))), trivial⟩, ⟨by rw [← hg, Nat.gcd_comm b, ← Nat.gcd_rec b a, Nat.gcd_comm], hlb, hlm, om⟩, Nat.mod_lt _ hb0⟩
theorem lX (v w : Int) (hw0 : w ≠ 0) (hv : len32 v < 549755813888) (hw : len32 w < 549755813888) : Run Try.prog T E0 (.call 173 [lvI v, lvI w] (lvX (Rat.divInt v w, false))) := by
 have hgp : 0 < v.gcd w := Int.gcd_pos_of_ne_zero_right _ hw0
 obtain ⟨hL1, hL2⟩ := lW (a := v) hw0
 have hlg : len32 ((v.gcd w : Nat) : Int) < 549755813888 := by
  have h1 : v.gcd w ≤ w.natAbs := Nat.le_of_dvd om (Nat.gcd_dvd_right _ _)
  have := jW (v := ((v.gcd w : Nat) : Int)) (w := w) (by simpa using h1)
  omega
 obtain ⟨g, hg⟩ : ∃ g : Int, g = (v.gcd w : Nat) := ⟨_, rfl⟩
 rw [← hg] at hL1 hL2 hlg
 refine aZ Try.func173 J J (cW J) ?_
 have J5 : ∀ (a b : Int) (ha : a = v.tdiv g) (hb : b = w.tdiv g) (n : Nat) , WC Try.prog T E0 Try.f173.ntmps (codeR (codeR (codeOf Try.f173))) [(2, .ptr 0 0), (3, .ptr 1 0), (4, .ptr 2 0)] [(0, { cells := (lvI a).cells, sz := 2, elem := 112, st := 0 }), (1, { cells := (lvI b).cells, sz := 2, elem := 112, st := 0 }), (2, { cells := [.v (.int .i64 0), .sl 0 [], .v (.int .i64 0), .sl 0 []], sz := 4, elem := 114, st := 0 })] n (Post T Try.f173.results.toList (lvX (Rat.divInt v w, false))) := by
  intro a b ha hb n
  subst ha hb
  refine aC <| Rg 3 J <| aA (aL (l := .agg [_, _]) J J J J J) J <| aA (aN J (hP _) (by simp)) J <| aA (cC J J) J <| bF (fun h31 => ?_) (fun h31 => ?_)
  rotate_left
  ·refine Wn <| aU J <| aG <| Rg 4 J <| aA (aL (l := .agg [_, _]) J J J J J) J <| aA (aL (l := .agg [_, _]) J J J J J) J <| aA (iA (cs := [_, _, _, _]) J J J J J) J <| aW (dA (cs' := [_, _, _, _]) J J J J J J J J) <| Wn <| aK <| post (n := 0) (.inr J) J ?_ (by simp)
   obtain ⟨h1, h2⟩ := hL2 (by have := @Int.sign_neg_iff (w.tdiv g); omega)
   rw [lvX_f, ← h1, ← h2]; rfl
  refine Wn <| aS J <| cH (z := 6) J kR <| aO (aL (l := .agg [_, _]) J J J J J) J <| aO (aN J (nI _) (by simp)) J <| aO (aL (l := .agg [_, _]) J J J J J) J <| aO (aN J (nI _) (by simp)) J <| dQ (dA (cs' := [_, _]) J J J J J J J J) <| dQ (dA (cs' := [_, _]) J J J J J J J J) <| bY (bH kR) J <| Rg 4 J <| aA (aL (l := .agg [_, _]) J J J J J) J <| aA (aL (l := .agg [_, _]) J J J J J) J <| aA (iA (cs := [_, _, _, _]) J J J J J) J <| aW (dA (cs' := [_, _, _, _]) J J J J J J J J) <| Wn <| aK <| post (n := 0) (.inr J) J ?_ (by simp)
  obtain ⟨h1, h2⟩ := hL1 (Int.sign_neg_iff.1 h31)
  rw [lvX_f, ← h1, ← h2]; rfl
 refine Rg 3 J <| bB (dY J J) J <| bB (dY J J) J <| bB (fN J) J <| Wn <| aC <| Rg 5 J <| aA (aL (l := .agg [_, _]) J J J J J) J <| aA (aL (l := .agg [_, _]) J J J J J) J <| aA (aN J (hg ▸ gcd_run v w hv hw) (by simp)) J <| bB (fN J) J <| aW (dA (cs' := [_, _]) J J J J J J J J) <| Wn <| aC <| Rg 8 J <| aA (bD J J J J J) J <| aA (aL J J J J J) J <| aA (iO J J) J <| bF (fun h11 => ?_) (fun h11 => ?_)
 ·refine Um J J <| K1 J J <| K1 J J <| K1 J J <| aA (bS J J) J <| Nk [2,3,4,5,16] J <| aS J <| aC <| Rg 7 J <| aA (aL (l := .agg [_, _]) J J J J J) J <| aA (aL (l := .agg [_, _]) J J J J J) J <| aA (aN J (kX v g om hv hlg) (by simp)) J <| Um J J <| aA (cS J J) J <| aA (cS J J) J <| aW (dA (cs' := [_, _]) J J J J J J J J) <| Wn <| Rg 7 J <| aA (aL (l := .agg [_, _]) J J J J J) J <| aA (aL (l := .agg [_, _]) J J J J J) J <| aA (aN J (kX w g om hw hlg) (by simp)) J <| Um J J <| aA (cS J J) J ?_
  refine aA (cS J J) J <| aW (dA (cs' := [_, _]) J J J J J J J J) <| Nk [2,3,4] J <| Ck [2,3,4] J <| iV _ ?_ (J5 _ _ J J _)
  exact ⟨J, J, J, trivial⟩
 refine Um J J <| aH J (bD J J J J J) J <| aH J (aL J J J J J) J <| aH J (oNilN J J) J <| dH (fun h15 => ?_) (fun h15 => ?_)
 rotate_left
 ·refine aA (bZ J J) J <| Nk [2,3,4,5,16] J <| aU J <| aG <| Ck [2,3,4] J ?_
  have h1 : g = 1 := by
   have := cU (oG.1 h15); omega
  have e1 : v = v.tdiv g := by rw [h1]; simp
  have e2 : w = w.tdiv g := by rw [h1]; simp
  refine iV _ ?_ (J5 _ _ e1 e2 _)
  exact ⟨J, J, J, trivial⟩
 refine aA (bZ J J) J <| Nk [2,3,4,5,16] J <| aS J <| aC <| Rg 7 J <| aA (aL (l := .agg [_, _]) J J J J J) J <| aA (aL (l := .agg [_, _]) J J J J J) J <| aA (aN J (kX v g om hv hlg) (by simp)) J <| Um J J <| aA (cS J J) J <| aA (cS J J) J <| aW (dA (cs' := [_, _]) J J J J J J J J) <| Wn <| Rg 7 J <| aA (aL (l := .agg [_, _]) J J J J J) J <| aA (aL (l := .agg [_, _]) J J J J J) J <| aA (aN J (kX w g om hw hlg) (by simp)) J <| Um J J <| aA (cS J J) J <| aA (cS J J) J <| aW (dA (cs' := [_, _]) J J J J J J J J) <| Nk [2,3,4] J ?_
 refine Ck [2,3,4] J <| iV _ ?_ (J5 _ _ J J _)
 exact ⟨J, J, J, trivial⟩
theorem isw_run (x : X) : Run Try.prog T E0 (.call 174 [lvX x] (.v (.bool (xw x)))) := by
 refine aZ Try.func174 J J (cW J) <| Rg 2 J <| bB (dY J J) J <| Ua J J <| Wn <| Rg 11 J <| aA (bD J J J J J) J <| aA (bD J J J J J) J <| aA (aL J J J J J) J <| aA (mK J J) J <| dH (fun h6 => ?_) (fun h6 => ?_)
 ·refine Um J J <| aH J (bD J J J J J) J <| aH J (bD J J J J J) J <| aH J (aL J J J J J) J <| aH J (oLeq J J) J <| aA (bS J J) J <| Ua J J <| Wn <| aK <| post (n := 0) (.inr J) J ?_ (by simp)
  have h1 : decide (ia (xlow x) ≤ 1) = xw x := by
   rw [cU (mI.1 h6)]; exact decide_eq_decide.2 (pC x)
  exact congrArg (fun z => LV.v (.bool z)) h1
 refine Um J J <| K1 J J <| K1 J J <| K1 J J <| K1 J J <| aA (bZ J J) J <| Ua J J <| Wn <| aK <| post (n := 0) (.inr J) J ?_ (by simp)
 have h1 : false = xw x := by
  have h2 := ik_ne.1 h6
  have h3 := pC x
  have h4 : ¬ x.1.den = 1 := fun k => h2 (by have := h3.2 k; have := xlow_nonneg x; unfold small; omega)
  unfold xw; rw [decide_eq_false h4]
 exact congrArg (fun z => LV.v (.bool z)) h1
theorem gO (x : X) : Run Try.prog T E0 (.call 171 [lvX x] (lvI (x.1.den : Int))) := by
 refine aZ Try.func171 J J (cW J) <| Rg 2 J <| bB (dY J J) J <| bB (fN J) J <| Wn <| aC <| Rg 4 J <| aA (bD J J J J J) J <| aA (aL (l := .agg [_, _]) J J J J J) J <| aA (aN J (hP _) (by simp)) J <| aA (fF J J) J <| bF (fun h6 => ?_) (fun h6 => ?_)
 ·refine Wn <| aS J <| aC <| Rg 2 J <| aA (aN J (one_run) (by simp)) J <| aW (dA (cs' := [_, _]) J J J J J J J J) <| Wn <| bE <| post (n := 0) (.inr J) J ?_ (by simp)
  rw [xlow_zero (Int.sign_eq_zero_iff_zero.1 h6)]; rfl
 refine Wn <| aU J <| aG <| Rg 3 J <| aA (bD J J J J J) J <| aA (aL (l := .agg [_, _]) J J J J J) J <| aW (dA (cs' := [_, _]) J J J J J J J J) <| Wn <| aK <| post (n := 0) (.inr J) J ?_ (by simp)
 rw [← xlow_ne (fun k => h6 (by rw [k]; rfl))]; rfl
theorem rsign_run (x : X) : Run Try.prog T E0 (.call 122 [lvX x] (.v (.int .i64 x.1.num.sign))) := by
 refine aZ Try.func122 J J (cW J) <| Rg 2 J <| bB (dY J J) J <| Ua J J <| Wn <| Rg 4 J <| aA (bD J J J J J) J <| aA (aL (l := .agg [_, _]) J J J J J) J <| aA (aN J (hP x.1.num) (by simp)) J <| Ua J J <| Wn <| aK ?_
 exact post (n := 0) (.inr J) J J (by simp)
theorem rneg_run (x : X) : Run Try.prog T E0 (.call 123 [lvX x] (lvX (xneg x))) := by
 refine aZ Try.func123 J J (cW J) <| Rg 2 J <| bB (dY J J) J <| bB (fN J) J <| Wn <| cH (z := 7) J kR <| aO (bD J J J J J) J <| aO (aL (l := .agg [_, _]) J J J J J) J <| aO (aN J (nI x.1.num) (by simp)) J <| aO (bD J J J J J) J <| aO (aL (l := .agg [_, _]) J J J J J) J <| aO (iA (cs := [_, _, _, _]) J J J J J) J <| dQ (dA (cs' := [_, _, _, _]) J J J J J J J J) <| bY (bH kR) J <| aK <| post (n := 0) (.inr J) J ?_ (by simp)
 rw [lvX_neg]; rfl
theorem whole_run (v : Int) (hv : I64 v) : Run Try.prog T E0 (.call 125 [.v (.int .i64 v)] (lvX (xint v))) := by
 unfold I64 at hv
 refine aZ Try.func125 J J (cW J) <| Rg 1 J <| bB (fN J) J <| Wn <| Rg 4 J <| Um J J <| aA (aN J (lU _ om) (by simp)) J <| aA (iA (cs := [_, _, _, _]) J J J J J) J <| aW (dA (cs' := [_, _, _, _]) J J J J J J J J) <| Wn <| aK <| post (n := 0) (.inr J) J ?_ (by simp)
 rw [lvX_int]; rfl
theorem radd_run (x y : X) (hx : Bd 68719476736 x.1) (hy : Bd 68719476736 y.1) : Run Try.prog T E0 (.call 108 [lvX x, lvX y] (lvX (xadd x y))) := by
 obtain ⟨hx1, hx2⟩ := hx
 obtain ⟨hy1, hy2⟩ := hy
 have m1 := dT x.1.num y.1.den
 have m2 := dT y.1.num x.1.den
 have m3 := pT (x.1.num * y.1.den) (y.1.num * x.1.den)
 have m4 := dT x.1.den y.1.den
 refine aZ Try.func108 J J (cW J) <| Rg 3 J <| bB (dY J J) J <| bB (dY J J) J <| bB (fN J) J <| Wn <| aC <| Rg 6 J <| aA (aL (l := .agg [_, _, _, _]) J J J J J) J <| aA (aN J (isw_run x) (by simp)) J <| dH (fun h6 => ?_) (fun h6 => ?_)
 rotate_left
 ·refine Um J J <| K1 J J <| K1 J J <| aA (bZ J J) J <| Wn <| aU J <| aG <| cH (z := 18) J kR <| aO (bD J J J J J) J <| aO (aL (l := .agg [_, _]) J J J J J) J <| aO (aL (l := .agg [_, _, _, _]) J J J J J) J <| aO (aN J (gO y) (by simp)) J <| aO (aN J (jL x.1.num y.1.den om om) (by simp)) J <| aO (bD J J J J J) J <| aO (aL (l := .agg [_, _]) J J J J J) J <| aO (aL (l := .agg [_, _, _, _]) J J J J J) J <| aO (aN J (gO x) (by simp)) J <| aO (aN J (jL y.1.num x.1.den om om) (by simp)) J <| aO (aN J (qR (x.1.num * y.1.den) (y.1.num * x.1.den) om om) (by simp)) J <| aO (aL (l := .agg [_, _, _, _]) J J J J J) J <| aO (aN J (gO x) (by simp)) J <| aO (aL (l := .agg [_, _, _, _]) J J J J J) J <| aO (aN J (gO y) (by simp)) J <| aO (aN J (jL x.1.den y.1.den om om) (by simp)) J ?_
  refine aO (aN J (lX (x.1.num * y.1.den + y.1.num * x.1.den) (x.1.den * y.1.den) (Int.mul_ne_zero (iH _) (iH _)) om om) (by simp)) J <| dQ (dA (cs' := [_, _, _, _]) J J J J J J J J) <| bY (bH kR) J <| Ck [4] J <| aK <| post (n := 0) (.inr J) J ?_ (by simp)
  rw [xadd_f (by rw [h6]; rfl)]; rfl
 refine Um J J <| aH J (aL (l := .agg [_, _, _, _]) J J J J J) J <| aH J (aN J (isw_run y) (by simp)) J <| dH (fun h9 => ?_) (fun h9 => ?_)
 ·refine aA (bS J J) J <| Wn <| aS J <| aC <| Rg 7 J <| aA (bD J J J J J) J <| aA (aL (l := .agg [_, _]) J J J J J) J <| aA (bD J J J J J) J <| aA (aL (l := .agg [_, _]) J J J J J) J <| aA (aN J (qR x.1.num y.1.num om om) (by simp)) J <| aA (iA (cs := [_, _, _, _]) J J J J J) J <| aW (dA (cs' := [_, _, _, _]) J J J J J J J J) <| Nk [4] J <| bE <| post (n := 0) (.inr J) J ?_ (by simp)
  rw [xadd_w h6 h9]; rfl
 refine aA (bS J J) J <| Wn <| aU J <| aG <| cH (z := 18) J kR <| aO (bD J J J J J) J <| aO (aL (l := .agg [_, _]) J J J J J) J <| aO (aL (l := .agg [_, _, _, _]) J J J J J) J <| aO (aN J (gO y) (by simp)) J <| aO (aN J (jL x.1.num y.1.den om om) (by simp)) J <| aO (bD J J J J J) J <| aO (aL (l := .agg [_, _]) J J J J J) J <| aO (aL (l := .agg [_, _, _, _]) J J J J J) J <| aO (aN J (gO x) (by simp)) J <| aO (aN J (jL y.1.num x.1.den om om) (by simp)) J <| aO (aN J (qR (x.1.num * y.1.den) (y.1.num * x.1.den) om om) (by simp)) J <| aO (aL (l := .agg [_, _, _, _]) J J J J J) J <| aO (aN J (gO x) (by simp)) J <| aO (aL (l := .agg [_, _, _, _]) J J J J J) J <| aO (aN J (gO y) (by simp)) J <| aO (aN J (jL x.1.den y.1.den om om) (by simp)) J <| aO (aN J (lX (x.1.num * y.1.den + y.1.num * x.1.den) (x.1.den * y.1.den) (Int.mul_ne_zero (iH _) (iH _)) om om) (by simp)) J <| dQ (dA (cs' := [_, _, _, _]) J J J J J J J J) <| bY (bH kR) J ?_
 refine Ck [4] J <| aK <| post (n := 0) (.inr J) J ?_ (by simp)
 rw [xadd_f (by rw [h6, h9]; rfl)]; rfl
theorem nrat_run (a : NM) (h1 : I64 a.1) (h2 : I64 a.2) (h0 : a.2 ≠ 0) : Run Try.prog T E0 (.call 105 [lvM a] (lvX (Rat.divInt a.1 a.2, false))) := by
 unfold I64 at h1 h2
 have m1 := eX (v := a.1) om
 have m2 := eX (v := a.2) om
 refine aZ Try.func105 J J (cW J) <| Rg 2 J <| bB (dY J J) J <| bB (fN J) J <| Wn <| cH (z := 8) J kR <| aO (bD J J J J J) J <| aO (aL J J J J J) J <| aO (aN J (lU _ om) (by simp)) J <| aO (bD J J J J J) J <| aO (aL J J J J J) J <| aO (aN J (lU _ om) (by simp)) J <| aO (aN J (lX a.1 a.2 h0 om om) (by simp)) J <| dQ (dA (cs' := [_, _, _, _]) J J J J J J J J) <| bY (bH kR) J <| aK <| post (n := 0) (.inr J) J ?_ (by simp)
 rfl
theorem oM (a : NM) (h1 : I64 a.1) (h2 : I64 a.2) : Run Try.prog T E0 (.call 118 [lvM a] (.v (.bool (decide (VN a))))) := by
 unfold I64 at h1 h2
 have m1 := eX (v := a.1) om
 have m2 := eX (v := a.2) om
 refine aZ Try.func118 J J (cW J) <| Rg 2 J <| bB (dY J J) J <| Ua J J <| Wn <| aC <| Rg 18 J <| aA (bD J J J J J) J <| aA (aL J J J J J) J <| aA (cC J J) J <| bF (fun h7 => ?_) (fun h7 => ?_)
 ·refine Um J J <| K1 J J <| K1 J J <| K1 J J <| aA (bS J J) J <| Um J J <| K1 J J <| K1 J J <| K1 J J <| aA (bS J J) J <| Um J J <| K1 J J <| K1 J J <| K1 J J <| aA (bS J J) J <| Nk [1,22] J <| aS J <| aC ?_
  have hV : ¬ VN a := by unfold VN; omega
  refine Rg 1 J <| Ua J J <| Wn <| bE <| post (n := 0) (.inr J) J ?_ (by simp)
  exact congrArg (fun z => LV.v (.bool z)) (decide_eq_false hV).symm
 refine Um J J <| aH J (bD J J J J J) J <| aH J (aL J J J J J) J <| aH J (gE J J) J <| bF (fun h11 => ?_) (fun h11 => ?_)
 ·refine aA (bZ J J) J <| Um J J <| K1 J J <| K1 J J <| K1 J J <| aA (bS J J) J <| Um J J <| K1 J J <| K1 J J <| K1 J J <| aA (bS J J) J <| Nk [1,22] J <| aS J <| aC ?_
  have hV : ¬ VN a := by unfold VN; omega
  refine Rg 1 J <| Ua J J <| Wn <| bE <| post (n := 0) (.inr J) J ?_ (by simp)
  exact congrArg (fun z => LV.v (.bool z)) (decide_eq_false hV).symm
 refine aA (bZ J J) J <| Um J J <| aH J (bD J J J J J) J <| aH J (aL J J J J J) J <| aH J (gE J J) J <| bF (fun h16 => ?_) (fun h16 => ?_)
 ·refine aA (bZ J J) J <| Um J J <| K1 J J <| K1 J J <| K1 J J <| aA (bS J J) J <| Nk [1,22] J <| aS J <| aC ?_
  have hV : ¬ VN a := by unfold VN; omega
  refine Rg 1 J <| Ua J J <| Wn <| bE <| post (n := 0) (.inr J) J ?_ (by simp)
  exact congrArg (fun z => LV.v (.bool z)) (decide_eq_false hV).symm
 refine aA (bZ J J) J <| Um J J <| aH J (bD J J J J J) J <| aH J (aL J J J J J) J <| aH J (cC J J) J <| bF (fun h21 => ?_) (fun h21 => ?_)
 ·refine aA (bZ J J) J <| Nk [1,22] J <| aS J <| aC ?_
  have hV : ¬ VN a := by unfold VN; omega
  refine Rg 1 J <| Ua J J <| Wn <| bE <| post (n := 0) (.inr J) J ?_ (by simp)
  exact congrArg (fun z => LV.v (.bool z)) (decide_eq_false hV).symm
 refine aA (bZ J J) J <| Nk [1,22] J <| aU J <| aG ?_
 have hg1 : a.1.gcd a.2 ≤ a.2.natAbs := Nat.le_of_dvd om (Nat.gcd_dvd_right _ _)
 refine cH (z := 13) J kR <| aO (bD J J J J J) J <| aO (aL J J J J J) J <| aO (aN J (lU _ om) (by simp)) J <| aO (bD J J J J J) J <| aO (aL J J J J J) J <| aO (aN J (lU _ om) (by simp)) J <| aO (aN J (gcd_run a.1 a.2 om om) (by simp)) J <| aO (aN J (int_run (a.1.gcd a.2 : Nat) 1152921504606846976 om) (by simp)) J <| Dm J J <| aO (cS J J) J <| aO (cS J J) J <| aO (fZ J) J <| aO (fZ J) J <| bY (bH kR) J <| Ck [3] J <| Rg 3 J <| Um J J <| aA (fF J J) J <| Ua J J <| Wn <| aK <| post (n := 0) (.inr J) J ?_ (by simp)
 have hV : (decide ((if -1152921504606846976 ≤ ((a.1.gcd a.2 : Nat) : Int) ∧ ((a.1.gcd a.2 : Nat) : Int) ≤ 1152921504606846976 then ((a.1.gcd a.2 : Nat) : Int) else 0) = 1)) = decide (VN a) := by
  rw [if_pos om]; apply decide_eq_decide.2; unfold VN; omega
 exact congrArg (fun z => LV.v (.bool z)) hV
end Go.Proofs.Ytcblgjaomljikaa
set_option maxHeartbeats 8000000
namespace Go.Proofs.Ytcblgjaomljikaa
open Go.Ab Go.RowKit
theorem rsub_run (x y : X) (hx : Bd 34359738368 x.1) (hy : Bd 34359738368 y.1) : Run Try.prog T E0 (.call 121 [lvX x, lvX y] (lvX (xadd x (xneg y)))) := by
 refine aZ Try.func121 J J (cW J) <| Rg 3 J <| bB (dY J J) J <| bB (dY J J) J <| bB (fN J) J <| Wn <| cH (z := 5) J kR <| aO (aL (l := lvX x) J J (by repeat (first | exact g0 | refine g1 (by decide) ?_)) J J) J ?_
 refine aO (aL (l := lvX y) J J (by repeat (first | exact g0 | refine g1 (by decide) ?_)) J J) J ?_
 refine aO (aN J (rneg_run y) dD) J <| aO (aN J (radd_run x (xneg y) (hx.mono (by decide)) (hy.neg.mono (by decide))) dD) J <| dQ (dA (cs' := xc (xadd x (xneg y))) J J J (by repeat (first | exact g0 | refine g1 (by decide) ?_)) J J J J) ?_
 refine bY (bH kR) J <| aK <| post (n := 0) (.inr J) J ?_ dD
 rfl
theorem rcmp_run (x y : X) (hx : Bd 34359738368 x.1) (hy : Bd 34359738368 y.1) : Run Try.prog T E0 (.call 119 [lvX x, lvX y] (.v (.int .i64 (x.1 - y.1).num.sign))) := by
 refine aZ Try.func119 J J (cW J) <| Rg 3 J <| bB (dY J J) J <| bB (dY J J) J <| Ua J J <| Wn <| Rg 5 J <| aA (aL (l := lvX x) J J (by repeat (first | exact g0 | refine g1 (by decide) ?_)) J J) J ?_
 refine aA (aL (l := lvX y) J J (by repeat (first | exact g0 | refine g1 (by decide) ?_)) J J) J ?_
 refine aA (aN J (rsub_run x y hx hy) dD) J <| aA (bP (b := .v (.int .i64 (x.1 - y.1).num.sign)) (aN J (rsign_run (xadd x (xneg y))) dD) (by rw [show (xadd x (xneg y)).1 = x.1 - y.1 from (Rat.sub_eq_add_neg _ _).symm])) J <| Ua J J <| Wn <| aK <| post (n := 0) (.inr J) J ?_ dD
 rfl
theorem mchoice_run (m : Nat) (c : CH) (hI : IC c) (hm : m < 1000000) : Run Try.prog T E0 (.call 157 [.v (.int .i64 (m : Int)), lvC c] (.v (.bool (VC m c)))) := by
 refine aZ Try.func157 J J (cW J) <| Rg 2 J <| bB (dY J J) J <| Ua J J <| Wn <| aC <| Rg 16 J <| aA (bD J J J J J) J <| aA (aL (l := lvM c.1) J J (by repeat (first | exact g0 | refine g1 (by decide) ?_)) J J) J ?_
 refine aA (aN J (oM c.1 hI.1 hI.2.1) dD) J <| dH (fun h11 => ?_) (fun h11 => ?_)
 rotate_left
 ·refine aA (dV J) J <| Um J J <| K1 J J <| K1 J J <| K1 J J <| K1 J J <| aA (bS J J) J <| Um J J <| K1 J J <| K1 J J <| K1 J J <| K1 J J <| aA (bS J J) J <| Nk [0,3,24] J <| aS J <| aC <| Rg 1 J <| Ua J J <| Wn <| bE <| post (n := 0) (.inr J) J ?_ dD
  exact congrArg (fun z => LV.v (.bool z)) (show false = VC m c from (VC_no1 h11).symm)
 refine aA (dV J) J <| Um J J <| aH J (bD J J J J J) J <| aH J (aL J J (by repeat (first | exact g0 | refine g1 (by decide) ?_)) J J) J ?_
 refine aH J (bC J J) J <| aH J (cC J J) J <| bF (fun h17 => ?_) (fun h17 => ?_)
 ·refine aA (bZ J J) J <| Um J J <| K1 J J <| K1 J J <| K1 J J <| K1 J J <| aA (bS J J) J <| Nk [0,3,24] J <| aS J <| aC <| Rg 1 J <| Ua J J <| Wn <| bE <| post (n := 0) (.inr J) J ?_ dD
  exact congrArg (fun z => LV.v (.bool z)) (show false = VC m c from (VC_no2 om).symm)
 refine aA (bZ J J) J <| Um J J <| aH J (bD J J J J J) J <| aH J (aL J J (by repeat (first | exact g0 | refine g1 (by decide) ?_)) J J) J ?_
 refine aH J (bC J J) J <| aH J (gE J J) J <| bF (fun h23 => ?_) (fun h23 => ?_)
 ·refine aA (bZ J J) J <| Nk [0,3,24] J <| aS J <| aC <| Rg 1 J <| Ua J J <| Wn <| bE <| post (n := 0) (.inr J) J ?_ dD
  exact congrArg (fun z => LV.v (.bool z)) (show false = VC m c from (VC_no2 om).symm)
 refine aA (bZ J J) J <| Nk [0,3,24] J <| aU J <| aG <| Rg 1 J <| bB (fN J) J <| Wn <| Rg 1 J <| Ua J J <| Wn <| aC <| Rg 4 J <| aA (bD J J J J J) J <| aA (aL J J (by repeat (first | exact g0 | refine g1 (by decide) ?_)) J J) J ?_
 refine aA (bC J J) J <| Um J J <| Wn <| aJ <| aY (α := Nat × X) (fun ⟨i, s⟩ => [(0, .v (.int .i64 (m : Int))), (5, .ptr 18 0), (6, .v (.int .i64 (lastB c.2.2 i))), (26, .sl c.2.1 (c.2.2.map brc)), (27, .v (.int .i64 (c.2.2.length : Int))), (28, .v (.int .i64 (i : Int)))]) (fun ⟨i, s⟩ => [(18, { cells := xc (s), sz := 4, elem := 114, st := 0 })]) (fun ⟨i, s⟩ n => i ≤ c.2.2.length ∧ s.1 = psum c.2.2 i ∧ (∀ j, j < i → okB m c.2.2 j = true) ∧ 18 < n) (fun ⟨i, s⟩ => c.2.2.length - i) (0, x0) ⟨J, J, J, J, J, J, trivial⟩ ⟨(by repeat (first | exact g0 | refine g1 (by decide) ?_)), trivial⟩ ⟨Nat.zero_le _, rfl, fun j hj => absurd hj om, om⟩ ?_
 rintro ⟨i, s⟩ n hF
 change WC _ _ _ _ _ (_ :: _) (_ :: _) n _
 obtain ⟨hi, hs, hok, hn⟩ := hF
 refine Rg 1 J <| aA (cC J J) J <| bF (fun h29 => ?_) (fun h29 => ?_)
 rotate_left
 ·refine Wn <| aU J <| bA <| aP <| aQ J ?_
  have hok' : ∀ j, j < c.2.2.length → okB m c.2.2 j = true := fun j hj => hok j om
  have hsb := rN (bs := c.2.2) i om (fun j hj => (okB_vn (hok j hj)).1)
  have hil : i = c.2.2.length := by omega
  refine cH (z := 5) J kR <| aO (aL (l := lvX s) J J gG J J) J ?_
  refine aO (aN J (whole_run 1 (by unfold I64; omega)) dD) J <| aO (aN J (rcmp_run s (xint 1) (by rw [hs]; exact hsb.mono om) (Bd1.mono (by decide))) dD) J <| aO (bP (b := .v (.bool (decide (psum c.2.2 c.2.2.length = 1)))) (fF J J) (congrArg (fun z => LV.v (.bool z)) (decide_eq_decide.2 (by rw [show (s.1 - (xint 1).1) = psum c.2.2 c.2.2.length - 1 by rw [hs, hil]; rfl]; exact sign_one)))) J <| aO (fZ J) J <| bY (bH kR) J <| aK <| post (n := 0) (.inr J) J ?_ dD
  exact congrArg (fun z => LV.v (.bool z)) (show decide (psum c.2.2 c.2.2.length = 1) = VC m c from (VC_yes h11 om om hok').symm)
 refine Wn <| aS J <| aG <| aJ ?_
 have hIb := hI.2.2 _ (bO (us := c.2.2) (i := i) om)
 refine Rg 4 J <| aA (cK J J J J J om J) J <| aA (dX (l := .agg [_, _, _]) J J J) J <| bB (fN J) J <| aW (dA (cs' := [_, _, _]) J J J gG J J J J) ?_
 refine Wn <| aC <| Rg 22 J <| aA (bD J J J J J) J <| aA (aL J J gG J J) J ?_
 refine Um J J <| aA (oLeq J J) J <| bF (fun h35 => ?_) (fun h35 => ?_)
 ·refine Um J J <| K1 J J <| K1 J J <| K1 J J <| K1 J J <| aA (bS J J) J <| Um J J <| K1 J J <| K1 J J <| K1 J J <| K1 J J <| aA (bS J J) J <| Um J J <| K1 J J <| K1 J J <| K1 J J <| K1 J J <| aA (bS J J) J <| Nk [0,5,8,26,27,28,37,38,39,40,43,44,45,46,49,50,51,52,53] J <| aS J <| aC <| Rg 1 J <| Ua J J ?_
  refine Nk [4] J <| bE <| aM <| bJ <| aM <| post (n := 0) (.inr J) J ?_ dD
  exact congrArg (fun z => LV.v (.bool z)) (show false = VC m c from (qO (i := i) om (rL (.inl om))).symm)
 refine Um J J <| aH J (bD J J J J J) J <| aH J (aL J J gG J J) J ?_
 refine aH J (dF J) J <| aH J (iT J J) J <| bF (fun h40 => ?_) (fun h40 => ?_)
 ·refine aA (bZ J J) J <| Um J J <| K1 J J <| K1 J J <| K1 J J <| K1 J J <| aA (bS J J) J <| Um J J <| K1 J J <| K1 J J <| K1 J J <| K1 J J <| aA (bS J J) J <| Nk [0,5,8,26,27,28,37,38,39,40,43,44,45,46,49,50,51,52,53] J <| aS J <| aC <| Rg 1 J <| Ua J J <| Nk [4] J <| bE <| aM <| bJ ?_
  refine aM <| post (n := 0) (.inr J) J ?_ dD
  exact congrArg (fun z => LV.v (.bool z)) (show false = VC m c from (qO (i := i) om (rL (.inr (.inl om)))).symm)
 refine aA (bZ J J) J <| Um J J <| aH J (bD J J J J J) J <| aH J (aL (l := lvM (c.2.2.getD i default).2) J J gG J J) J ?_
 refine aH J (aN J (oM (c.2.2.getD i default).2 hIb.2.1 hIb.2.2) dD) J <| dH (fun h45 => ?_) (fun h45 => ?_)
 rotate_left
 ·refine aH J (dV J) J <| aA (bZ J J) J <| Um J J <| K1 J J <| K1 J J <| K1 J J <| K1 J J <| aA (bS J J) J <| Nk [0,5,8,26,27,28,37,38,39,40,43,44,45,46,49,50,51,52,53] J <| aS J <| aC <| Rg 1 J <| Ua J J <| Nk [4] J <| bE <| aM <| bJ <| aM <| post (n := 0) (.inr J) J ?_ dD
  exact congrArg (fun z => LV.v (.bool z)) (show false = VC m c from (qO (i := i) om (rL (.inr (.inr (.inl h45))))).symm)
 refine aH J (dV J) J <| aA (bZ J J) J <| Um J J <| aH J (bD J J J J J) J <| aH J (bD J J J J J) J <| aH J (aL J J gG J J) J ?_
 refine aH J (oLeq J J) J <| bF (fun h52 => ?_) (fun h52 => ?_)
 ·refine aA (bZ J J) J <| Nk [0,5,8,26,27,28,37,38,39,40,43,44,45,46,49,50,51,52,53] J <| aS J <| aC <| Rg 1 J <| Ua J J <| Nk [4] J <| bE <| aM <| bJ <| aM <| post (n := 0) (.inr J) J ?_ dD
  exact congrArg (fun z => LV.v (.bool z)) (show false = VC m c from (qO (i := i) om (rL (.inr (.inr (.inr om))))).symm)
 refine aA (bZ J J) J <| Nk [0,5,8,26,27,28,37,38,39,40,43,44,45,46,49,50,51,52,53] J <| aU J <| aG ?_
 have hvb : VN (c.2.2.getD i default).2 := of_decide_eq_true h45
 have hokI : okB m c.2.2 i = true := okB_yes om om h45 om
 have hsb := rN (bs := c.2.2) i om (fun j hj => (okB_vn (hok j hj)).1)
 refine Rg 3 J <| aA (bD J J J J J) J <| aA (aL J J gG J J) J ?_
 refine Ua J J <| Nk [0,5,6,8,26,27,28,37,38,39,40,43,44,45,46,49,50,51,52] J <| fC (z := 6) J kR <| aO (aL (l := lvX s) J J gG J J) J ?_
 refine aO (bD J J J J J) J <| aO (aL (l := lvM (c.2.2.getD i default).2) J J gG J J) J ?_
 refine aO (bP (b := lvX (nx (c.2.2.getD i default).2)) (aN J (nrat_run (c.2.2.getD i default).2 hIb.2.1 hIb.2.2 (by have := hvb.1; omega)) dD) J) J <| aO (aN J (radd_run s (nx (c.2.2.getD i default).2) (by rw [hs]; exact hsb.mono om) (hvb.bd.mono (by decide))) dD) J <| dQ (dA (cs' := xc (xadd s (nx (c.2.2.getD i default).2))) J J J gG J J J J) ?_
 refine bY (bH kR) J <| aF <| Ck [0,5,6,26,27,28,37,38,39,40,43,44,45,46,49,50,51,52] J <| aI (z := 2) J <| aA (cI (((i + 1 : Nat) : Int)) (aR J J om) om) J <| Um J J <| Wn <| aE <| ⟨⟨i + 1, xadd s (nx (c.2.2.getD i default).2)⟩, ⟨J, J, J, J, J, J, trivial⟩, ⟨gG, trivial⟩, ⟨om, by rw [psum, ← hs]; rfl, fun j hj => ?_, om⟩, by show c.2.2.length - (i + 1) < c.2.2.length - i; omega⟩
 by_cases e : j = i
 ·rw [e]; exact hokI
 ·exact hok j om
end Go.Proofs.Ytcblgjaomljikaa
namespace Go.Proofs.Ytcblgjaomljikaa
open Go.Ab Go.RowKit
theorem mJ (k : Nat) (ss : List ST) (hI : ∀ s, s ∈ ss → IS s) : Run Try.prog T E0 (.call 76 [lvMo k ss] (.v (.bool (VMo ss)))) := by
 refine aZ Try.func76 J J (cW J) <| Rg 2 J <| bB (dY J J) J <| Ua J J <| Wn <| Rg 4 J <| aA (bD J J J J J) J <| aA (aL J J (by repeat (first | exact g0 | refine g1 (by decide) ?_)) J J) J ?_
 refine aA (bC J J) J <| Ua J J <| Wn <| aC <| Rg 6 J <| Um J J <| aA (cC J J) J <| bF (fun h12 => ?_) (fun h12 => ?_)
 ·refine Um J J <| K1 J J <| K1 J J <| aA (bS J J) J <| Wn <| aS J <| aC <| Rg 1 J <| Ua J J <| Wn <| bE <| post (n := 0) (.inr J) J ?_ dD
  exact congrArg (fun z => LV.v (.bool z)) (show false = VMo ss from (VMo_no om).symm)
 refine Um J J <| aH J (dF J) J <| aH J (gE J J) J <| bF (fun h15 => ?_) (fun h15 => ?_)
 ·refine aA (bZ J J) J <| Wn <| aS J <| aC <| Rg 1 J <| Ua J J <| Wn <| bE <| post (n := 0) (.inr J) J ?_ dD
  exact congrArg (fun z => LV.v (.bool z)) (show false = VMo ss from (VMo_no om).symm)
 refine aA (bZ J J) J <| Wn <| aU J <| aG <| aC <| Rg 4 J <| aA (bD J J J J J) J <| aA (aL J J (by repeat (first | exact g0 | refine g1 (by decide) ?_)) J J) J ?_
 refine aA (bC J J) J <| Um J J <| Nk [3,18,19,20] J <| aJ <| aY (α := Nat) (fun i => [(3, .v (.int .i64 (ss.length : Int))), (18, .sl k (ss.map stc)), (19, .v (.int .i64 (ss.length : Int))), (20, .v (.int .i64 (i : Int)))]) (fun i => []) (fun i n => i ≤ ss.length ∧ (ss.take i).all (VS ss.length) = true ∧ 0 < n) (fun i => ss.length - i) (0) ⟨J, J, J, J, trivial⟩ trivial ⟨Nat.zero_le _, by simp, om⟩ ?_
 rintro i n hF
 change WC _ _ _ _ _ (_ :: _) ([]) n _
 obtain ⟨hi, ha, hn0⟩ := hF
 refine Rg 1 J <| aA (cC J J) J <| bF (fun h21 => ?_) (fun h21 => ?_)
 rotate_left
 ·refine Wn <| aU J <| bA <| aP <| aQ J <| Rg 1 J <| Ua J J <| Wn <| aK <| post (n := 0) (.inr J) J ?_ dD
  exact congrArg (fun z => LV.v (.bool z)) (show true = VMo ss from (VMo_yes om om (iF ha om)).symm)
 refine Wn <| aS J <| aG <| aJ ?_
 have hIs := hI _ (bO (us := ss) (i := i) om)
 refine Rg 4 J <| aA (cK J J J J J om J) J <| aA (dX (l := .agg [_, _, _]) J J J) J <| bB (fN J) J <| aW (dA (cs' := [_, _, _]) J J J gG J J J J) ?_
 refine Wn <| aC <| Rg 30 J <| aA (bD J J J J J) J <| aA (aL J J gG J J) J ?_
 refine aA (cC J J) J <| bF (fun h26 => ?_) (fun h26 => ?_)
 ·refine Um J J <| K1 J J <| K1 J J <| K1 J J <| aA (bS J J) J <| Um J J <| K1 J J <| K1 J J <| K1 J J <| aA (bS J J) J <| Um J J <| K1 J J <| K1 J J <| K1 J J <| aA (bS J J) J <| Um J J <| K1 J J <| K1 J J <| K1 J J <| K1 J J <| aA (bS J J) J <| Um J J <| K1 J J <| K1 J J ?_
  refine K1 J J <| K1 J J <| aA (bS J J) J <| Nk [3,5,18,19,20,28,29,30,33,34,35,38,39,40,43,44,45,46,49,50,51,52,53] J <| aS J <| aC <| Rg 1 J <| Ua J J <| Nk [2] J <| bE <| aM <| bJ <| aM <| post (n := 0) (.inr J) J ?_ dD
  exact congrArg (fun z => LV.v (.bool z)) (show false = VMo ss from (iB (i := i) om (pK (.inl om))).symm)
 refine Um J J <| aH J (bD J J J J J) J <| aH J (aL J J gG J J) J ?_
 refine aH J (gE J J) J <| bF (fun h30 => ?_) (fun h30 => ?_)
 ·refine aA (bZ J J) J <| Um J J <| K1 J J <| K1 J J <| K1 J J <| aA (bS J J) J <| Um J J <| K1 J J <| K1 J J <| K1 J J <| aA (bS J J) J <| Um J J <| K1 J J <| K1 J J <| K1 J J <| K1 J J <| aA (bS J J) J <| Um J J <| K1 J J <| K1 J J <| K1 J J <| K1 J J <| aA (bS J J) J <| dZ ?_
  refine Ck [3,5,18,19,20,28,29,30,33,34,35,38,39,40,43,44,45,46,49,50,51,52,53] J <| aS J <| aC <| Rg 1 J <| Ua J J <| Nk [2] J <| bE <| aM <| bJ <| aM <| post (n := 0) (.inr J) J ?_ dD
  exact congrArg (fun z => LV.v (.bool z)) (show false = VMo ss from (iB (i := i) om (pK (.inr (.inl om)))).symm)
 refine aA (bZ J J) J <| Um J J <| aH J (bD J J J J J) J <| aH J (aL J J gG J J) J ?_
 refine aH J (cC J J) J <| bF (fun h35 => ?_) (fun h35 => ?_)
 ·refine aA (bZ J J) J <| Um J J <| K1 J J <| K1 J J <| K1 J J <| aA (bS J J) J <| Um J J <| K1 J J <| K1 J J <| K1 J J <| K1 J J <| aA (bS J J) J <| Um J J <| K1 J J <| K1 J J <| K1 J J <| K1 J J <| aA (bS J J) J <| Nk [3,5,18,19,20,28,29,30,33,34,35,38,39,40,43,44,45,46,49,50,51,52,53] J <| aS J <| aC <| Rg 1 J <| Ua J J ?_
  refine Nk [2] J <| bE <| aM <| bJ <| aM <| post (n := 0) (.inr J) J ?_ dD
  exact congrArg (fun z => LV.v (.bool z)) (show false = VMo ss from (iB (i := i) om (pK (.inr (.inr (.inl om))))).symm)
 refine aA (bZ J J) J <| Um J J <| aH J (bD J J J J J) J <| aH J (aL J J gG J J) J ?_
 refine aH J (gE J J) J <| bF (fun h40 => ?_) (fun h40 => ?_)
 ·refine aA (bZ J J) J <| Um J J <| K1 J J <| K1 J J <| K1 J J <| K1 J J <| aA (bS J J) J <| Um J J <| K1 J J <| K1 J J <| K1 J J <| K1 J J <| aA (bS J J) J <| Nk [3,5,18,19,20,28,29,30,33,34,35,38,39,40,43,44,45,46,49,50,51,52,53] J <| aS J <| aC <| Rg 1 J <| Ua J J <| Nk [2] J <| bE <| aM <| bJ ?_
  refine aM <| post (n := 0) (.inr J) J ?_ dD
  exact congrArg (fun z => LV.v (.bool z)) (show false = VMo ss from (iB (i := i) om (pK (.inr (.inr (.inr (.inl om)))))).symm)
 refine aA (bZ J J) J <| Um J J <| aH J (bD J J J J J) J <| aH J (aL J J gG J J) J ?_
 refine aH J (bC J J) J <| aH J (cC J J) J <| bF (fun h46 => ?_) (fun h46 => ?_)
 ·refine aA (bZ J J) J <| Um J J <| K1 J J <| K1 J J <| K1 J J <| K1 J J <| aA (bS J J) J <| Nk [3,5,18,19,20,28,29,30,33,34,35,38,39,40,43,44,45,46,49,50,51,52,53] J <| aS J <| aC <| Rg 1 J <| Ua J J <| Nk [2] J <| bE <| aM <| bJ <| aM <| post (n := 0) (.inr J) J ?_ dD
  exact congrArg (fun z => LV.v (.bool z)) (show false = VMo ss from (iB (i := i) om (pK (.inr (.inr (.inr (.inr (.inl om))))))).symm)
 refine aA (bZ J J) J <| Um J J <| aH J (bD J J J J J) J <| aH J (aL J J gG J J) J ?_
 refine aH J (bC J J) J <| aH J (gE J J) J <| bF (fun h52 => ?_) (fun h52 => ?_)
 ·refine aA (bZ J J) J <| Nk [3,5,18,19,20,28,29,30,33,34,35,38,39,40,43,44,45,46,49,50,51,52,53] J <| aS J <| aC <| Rg 1 J <| Ua J J <| Nk [2] J <| bE <| aM <| bJ <| aM <| post (n := 0) (.inr J) J ?_ dD
  exact congrArg (fun z => LV.v (.bool z)) (show false = VMo ss from (iB (i := i) om (pK (.inr (.inr (.inr (.inr (.inr om))))))).symm)
 refine aA (bZ J J) J <| Nk [3,5,18,19,20,28,29,30,33,34,35,38,39,40,43,44,45,46,49,50,51,52,53] J <| aU J <| aG <| Rg 4 J <| aA (bD J J J J J) J <| aA (aL J J gG J J) J ?_
 refine aA (bC J J) J <| Um J J <| Nk [3,18,19,20,28,29,30,33,34,35,38,39,40,43,44,45,46,49,50,51,52,55,56,57] J <| cM <| aY (α := Nat) (fun j => [(3, .v (.int .i64 (ss.length : Int))), (18, .sl k (ss.map stc)), (19, .v (.int .i64 (ss.length : Int))), (20, .v (.int .i64 (i : Int))), (55, .sl (ss.getD i default).2.1 ((ss.getD i default).2.2.map chc)), (56, .v (.int .i64 ((ss.getD i default).2.2.length : Int))), (57, .v (.int .i64 (j : Int)))]) (fun j => []) (fun j n => j ≤ (ss.getD i default).2.2.length ∧ ((ss.getD i default).2.2.take j).all (VC ss.length) = true ∧ 0 < n) (fun j => (ss.getD i default).2.2.length - j) (0) ⟨J, J, J, J, J, J, J, trivial⟩ trivial ⟨Nat.zero_le _, by simp, om⟩ ?_
 rintro j n hF
 change WC _ _ _ _ _ (_ :: _) ([]) n _
 obtain ⟨hj, hb, hn2⟩ := hF
 refine Rg 1 J <| aA (cC J J) J <| bF (fun h58 => ?_) (fun h58 => ?_)
 rotate_left
 ·refine Wn <| aU J <| bA <| aP <| eV J <| aF <| aI (z := 2) J <| aA (cI (((i + 1 : Nat) : Int)) (aR J J om) om) J <| Um J J <| Wn <| aE <| ⟨i + 1, ⟨J, J, J, J, trivial⟩, trivial, ⟨om, gH ha om (VS_yes om om om om om om (iF hb om)), om⟩, by show ss.length - (i + 1) < ss.length - i; omega⟩
 refine Wn <| aS J <| aG <| aJ ?_
 have hIc := hIs.2.2 _ (bO (us := (ss.getD i default).2.2) (i := j) om)
 refine Rg 4 J <| aA (cK J J J J J om J) J <| aA (dX (l := .agg [_, _, _]) J J J) J <| bB (fN J) J <| aW (dA (cs' := [_, _, _]) J J J gG J J J J) ?_
 refine Wn <| Rg 4 J <| Um J J <| aA (aL (l := lvC ((ss.getD i default).2.2.getD j default)) J J gG J J) J ?_
 refine aA (aN J (mchoice_run ss.length ((ss.getD i default).2.2.getD j default) hIc om) dD) J <| dH (fun h63 => ?_) (fun h63 => ?_)
 ·refine aA (dV J) J <| Nk [3,18,19,20,55,56,57,64] J <| bT J <| bR <| aF <| aI (z := 2) J <| aA (cI (((j + 1 : Nat) : Int)) (aR J J om) om) J <| Um J J <| Wn <| aE <| ⟨j + 1, ⟨J, J, J, J, J, J, J, trivial⟩, trivial, ⟨om, gH hb om h63, om⟩, by show (ss.getD i default).2.2.length - (j + 1) < (ss.getD i default).2.2.length - j; omega⟩
 refine aA (dV J) J <| Nk [3,18,19,20,55,56,57,64] J <| cA J <| Rg 1 J <| Ua J J <| Wn <| aK <| aM <| bJ <| dM <| aM <| bJ <| aM <| post (n := 0) (.inr J) J ?_ dD
 exact congrArg (fun z => LV.v (.bool z)) (show false = VMo ss from (iB (i := i) om (VS_no2 (j := j) om h63)).symm)
end Go.Proofs.Ytcblgjaomljikaa
set_option maxHeartbeats 16000000
namespace Go.Proofs.Ytcblgjaomljikaa
open Go.Ab Go.RowKit
theorem oL (k kl : Nat) (ss : List ST) (l : List Int) (ll : l.length < 1099511627776) : Run Try.prog T E0 (.call 77 [lvMo k ss, lvL kl l] (.v (.bool (VSet ss.length l)))) := by
 refine aZ Try.func77 J J (cW J) <| Rg 2 J <| bB (dY J J) J <| Ua J J <| Wn <| Rg 1 J <| Ua J J <| Wn <| aC <| Rg 3 J <| Um J J <| aA (bC J J) J <| Um J J <| Wn <| aJ <| aY (α := Nat) (fun i => [(2, .ptr 0 0), (5, .v (.int .i64 (lastI l i : Int))), (8, lvL kl l), (9, .v (.int .i64 (l.length : Int))), (10, .v (.int .i64 (i : Int)))]) (fun i => [(0, { cells := [.sl k (ss.map stc)], sz := 1, elem := (26), st := 0 })]) (fun i n => i ≤ l.length ∧ (∀ j, j < i → okI ss.length l j = true) ∧ 0 < n) (fun i => l.length - i) (0) ⟨J, J, J, J, J, trivial⟩ ⟨(by repeat (first | exact g0 | refine g1 (by decide) ?_)), trivial⟩ ⟨Nat.zero_le _, fun j hj => absurd hj om, om⟩ ?_
 rintro i n hF
 change WC _ _ _ _ _ (_ :: _) (_ :: _) n _
 obtain ⟨hi, hok, hn⟩ := hF
 refine Rg 1 J <| aA (cC J J) J <| bF (fun h11 => ?_) (fun h11 => ?_)
 rotate_left
 ·refine Wn <| aU J <| bA <| aP <| aQ J <| Rg 1 J <| Ua J J <| Wn <| aK <| post (n := 0) (.inr J) J ?_ dD
  exact congrArg (fun z => LV.v (.bool z)) (show true = VSet ss.length l from (fG fun j hj => hok j om).symm)
 refine Wn <| aS J <| aG <| aJ <| Rg 3 J <| aA (cK J J J J J om J) J <| aA (dX J J J) J <| Ua J J <| Wn <| aC <| Rg 10 J <| Um J J <| Um J J <| aA (oLeq J J) J <| bF (fun h16 => ?_) (fun h16 => ?_)
 ·refine Um J J <| K1 J J <| K1 J J <| K1 J J <| K1 J J <| K1 J J <| aA (bS J J) J <| Nk [2,7,8,9,10,18,19,20,21,22,23] J <| aS J <| aC <| Rg 1 J <| Ua J J <| Wn <| bE <| aM <| bJ <| aM <| post (n := 0) (.inr J) J ?_ dD
  exact congrArg (fun z => LV.v (.bool z)) (show false = VSet ss.length l from (eM (i := i) om (okI_no (.inl om))).symm)
 refine Um J J <| aH J (dF J) J <| aH J (bD J J J J J) J <| aH J (aL J J gG J J) J ?_
 refine aH J (bC J J) J <| aH J (iT J J) J <| bF (fun h22 => ?_) (fun h22 => ?_)
 ·refine aA (bZ J J) J <| Nk [2,7,8,9,10,18,19,20,21,22,23] J <| aS J <| aC <| Rg 1 J <| Ua J J <| Wn <| bE <| aM <| bJ <| aM <| post (n := 0) (.inr J) J ?_ dD
  exact congrArg (fun z => LV.v (.bool z)) (show false = VSet ss.length l from (eM (i := i) om (okI_no (.inr om))).symm)
 refine aA (bZ J J) J <| Nk [2,7,8,9,10,18,19,20,21,22,23] J <| aU J <| aG <| aI (z := 2) J <| Um J J <| Ua J J <| Wn <| aF <| aI (z := 2) J <| aA (cI (((i + 1 : Nat) : Int)) (aR J J om) om) J <| Um J J <| Wn <| aE <| ⟨i + 1, ⟨J, J, J, J, J, trivial⟩, ⟨gG, trivial⟩, ⟨om, fun j hj => ?_, om⟩, by show l.length - (i + 1) < l.length - i; omega⟩
 by_cases e : j = i
 ·rw [e]; exact okI_yes om om
 ·exact hok j om
end Go.Proofs.Ytcblgjaomljikaa
namespace Go.Proofs.Ytcblgjaomljikaa
open Go.Ab Go.RowKit
theorem gQ (kl n0 : Nat) (l : List Int) (hn0 : n0 ≤ 40) (hV : VSet n0 l = true) (ll : l.length < 1099511627776) : Run Try.prog T E0 (.call 80 [lvL kl l] (lvS (inL l))) := by
 refine aZ Try.func80 J J (cW J) <| Rg 1 J <| bB (jB J J J) J <| Wn <| Rg 1 J <| bB (jB J J J) J <| Wn <| aC <| Rg 3 J <| Um J J <| aA (bC J J) J <| Um J J <| Wn <| aJ <| aY (α := Nat) (fun i => [(2, .ptr 0 0), (3, .ptr (0 + 1) 0), (6, lvL kl l), (7, .v (.int .i64 (l.length : Int))), (8, .v (.int .i64 (i : Int)))]) (fun i => [(0 + 1, { cells := sb (inl l i), sz := 40, elem := (130), st := 0 }), (0, { cells := sb (fun _ => false), sz := 40, elem := (130), st := 0 })]) (fun i n => i ≤ l.length) (fun i => l.length - i) (0) ⟨J, J, J, J, J, trivial⟩ ⟨g0.trans (by exact sb_F fun i => by simp [inl]), g1 (by decide) g0, trivial⟩ (Nat.zero_le _) ?_
 rintro i n hF
 change WC _ _ _ _ _ (_ :: _) (_ :: _) n _
 have hi := hF
 refine Rg 1 J <| aA (cC J J) J <| bF (fun h9 => ?_) (fun h9 => ?_)
 rotate_left
 ·refine Wn <| aU J <| bA <| aP <| aQ J <| Rg 2 J <| aA (kV J J g0 J J J) J <| aW (jS J J J (g1 (by decide) g0) (cO _) J) <| Wn <| aK ?_
  have hil : i = l.length := by omega
  subst hil
  rw [inl_all]
  refine post (n := 0) (.inr J) J ?_ dD
  rfl
 refine Wn <| aS J <| aG <| aJ ?_
 have hlt := mT hV (i := i) om
 refine Rg 3 J <| aA (cK J J J J J om J) J <| aA (dX J J J) J <| Ua J J <| Wn <| aI (z := 3) J <| Um J J <| aA (oIxA (j := (l.getD i default).toNat) J J J J om om) J <| aW (oStB om J J J g0 J) <| Wn <| aF <| aI (z := 2) J <| aA (cI (((i + 1 : Nat) : Int)) (aR J J om) om) J <| Um J J <| Wn <| aE <| ⟨i + 1, ⟨J, J, J, J, J, trivial⟩, ⟨g0.trans (congrArg (fun z => some (Ob.mk (sb z) 40 130 0)) (inl_succ om om)), g1 (by decide) (g1 (by decide) g0), trivial⟩, om, by show l.length - (i + 1) < l.length - i; omega⟩
theorem kS (f : Nat → Bool) (z : Int) (h0 : 0 ≤ z) (h1 : z < 40) : Run Try.prog T E0 (.call 83 [.ro (sb f), .v (.int .i64 z)] (.v (.bool (f z.toNat)))) := by
 refine aZ Try.func83 J J (cW J) <| Rg 1 J <| Ua J J <| Wn <| Rg 6 J <| Um J J <| Um J J <| aA (oNcR J) J <| aA (oIxAr (j := z.toNat) J J J J om om) J <| aA (oLdSb J J om J J) J <| Ua J J <| Wn <| aK <| post (n := 0) (.inr J) J ?_ dD
 rfl
theorem kG (z : Int) : Run Try.prog T E0 (.call 149 [.v (.int .i64 z)] (.v (.bool true))) := by
 refine aZ Try.func149 J J (cW J) <| Rg 1 J <| Ua J J <| Wn <| Rg 1 J <| Ua J J <| Wn <| aK <| post (n := 0) (.inr J) J ?_ dD
 rfl
theorem pX (f g : Nat → Bool) (z : Int) (h0 : 0 ≤ z) (h1 : z < 40) : Run Try.prog T E0 (.call 151 [.v (.int .i64 z), .ro (sb f), .ro (sb g)] (.v (.bool (f z.toNat || g z.toNat)))) := by
 refine aZ Try.func151 J J (cW J) <| Rg 1 J <| Ua J J <| Wn <| Rg 9 J <| Um J J <| aA (oIxAr (j := z.toNat) J J J J om om) J <| aA (oLdSb J J om J J) J <| dH (fun h7 => ?_) (fun h7 => ?_)
 ·refine Um J J <| K1 J J <| K1 J J <| K1 J J <| aA (bS J J) J <| Ua J J <| Wn <| aK <| post (n := 0) (.inr J) J ?_ dD
  exact congrArg (fun z => LV.v (.bool z)) (show true = _ by rw [h7, Bool.true_or])
 refine Um J J <| aH J (dF J) J <| aH J (oIxAr (j := z.toNat) J J J J om om) J <| aH J (oLdSb J J om J J) J <| aA (bZ J J) J <| Ua J J <| Wn <| aK <| post (n := 0) (.inr J) J ?_ dD
 exact congrArg (fun z => LV.v (.bool z)) (show g z.toNat = _ by rw [h7, Bool.false_or])
theorem qF (f : Nat → Bool) (z : Int) (h0 : 0 ≤ z) (h1 : z < 40) : Run Try.prog T E0 (.call 156 [.v (.int .i64 z), .ro (sb f)] (.v (.bool (!f z.toNat)))) := by
 refine aZ Try.func156 J J (cW J) <| Rg 1 J <| Ua J J <| Wn <| Rg 5 J <| Um J J <| aA (oIxAr (j := z.toNat) J J J J om om) J <| aA (oLdSb J J om J J) J <| aA (dV J) J <| Ua J J <| Wn <| aK <| post (n := 0) (.inr J) J ?_ dD
 rfl
theorem idx3_run (k : Nat) (ns : List BR) (g : FuncId) (cap : List LV) (p : BR → Bool) (hcap : ∀ c, c ∈ cap → Go.Ab.Data c) (ln : ns.length < 4611686018427387904) (hp : ∀ a, a ∈ ns → Run Try.prog T E0 (.call g ([.agg (brc a)] ++ cap) (.v (.bool (p a))))) : Run Try.prog T E0 (.call 217 [.sl k (ns.map brc), .fn (.func g) [] cap] (.v (.int .i64 (fidx p ns)))) := by
 refine aZ Try.func217 J J (cW J) <| Rg 1 J <| Ua J J <| Wn <| aC <| Rg 3 J <| Um J J <| aA (bC J J) J <| Um J J <| Wn <| aJ <| aY (α := Nat) (fun i => [(0, .sl k (ns.map brc)), (1, .fn (.func g) [] cap), (7, .v (.int .i64 (ns.length : Int))), (8, .v (.int .i64 (i : Int)))]) (fun i => []) (fun i n => i ≤ ns.length ∧ (ns.take i).any p = false) (fun i => ns.length - i) (0) ⟨J, J, J, J, trivial⟩ trivial ⟨Nat.zero_le _, by simp⟩ ?_
 rintro i n hF
 change WC _ _ _ _ _ (_ :: _) ([]) n _
 obtain ⟨hi, ha⟩ := hF
 refine Rg 1 J <| aA (cC J J) J <| bF (fun h9 => ?_) (fun h9 => ?_)
 rotate_left
 ·refine Wn <| aU J <| bA <| aP <| aQ J <| Rg 1 J <| Ua J J <| Wn <| aK <| post (n := 0) (.inr J) J ?_ dD
  exact congrArg (fun z => LV.v (.int .i64 z)) (lK ha om).symm
 refine Wn <| aS J <| aG <| aJ <| Rg 2 J <| Um J J <| Ua J J <| Wn <| Rg 6 J <| Um J J <| Um J J <| Um J J <| aA (cK J J J J J om J) J <| aA (dX (l := .agg (brc (ns.getD i default))) J J J) J <| aA (eP J J (hp _ (bO om)) (iS d0 (by intro c hc; rw [List.mem_singleton] at hc; subst hc; exact .agg _ (dbrc1 _)) hcap)) J <| dH (fun h16 => ?_) (fun h16 => ?_)
 rotate_left
 ·refine Wn <| bT J <| bR <| aF <| aI (z := 2) J <| aA (cI (((i + 1 : Nat) : Int)) (aR J J om) om) J <| Um J J <| Wn <| aE <| ⟨i + 1, ⟨J, J, J, J, trivial⟩, trivial, ⟨om, oV ha om h16⟩, by show ns.length - (i + 1) < ns.length - i; omega⟩
 refine Wn <| cA J <| Rg 2 J <| Um J J <| Ua J J <| Nk [4] J <| aK <| aM <| bJ <| aM <| post (n := 0) (.inr J) J ?_ dD
 exact congrArg (fun z => LV.v (.int .i64 z)) (oA ha om h16).symm
theorem con3_run (k : Nat) (ns : List BR) (g : FuncId) (cap : List LV) (p : BR → Bool) (hcap : ∀ c, c ∈ cap → Go.Ab.Data c) (ln : ns.length < 4611686018427387904) (hp : ∀ a, a ∈ ns → Run Try.prog T E0 (.call g ([.agg (brc a)] ++ cap) (.v (.bool (p a))))) : Run Try.prog T E0 (.call 197 [.sl k (ns.map brc), .fn (.func g) [] cap] (.v (.bool (ns.any p)))) := by
 refine aZ Try.func197 J J (cW J) <| Rg 1 J <| Ua J J <| Wn <| Rg 5 J <| Um J J <| Um J J <| aA (eR [] [.sl k (ns.map brc), .fn (.func g) [] cap] J (idx3_run k ns g cap p hcap ln hp) (SnapB.datas (by intro c hc; simp only [List.mem_cons, List.not_mem_nil, or_false] at hc; rcases hc with rfl | rfl; exact .sl _ _ (fun row hr => dbrc row hr); exact nY d0 hcap)) fL) J <| aA (iT J J) J <| Ua J J <| Wn <| aK <| post (n := 0) (.inr J) J ?_ dD
 exact congrArg (fun z => LV.v (.bool z)) (gJ p ns)
theorem kT (k : Nat) (ns : List CH) (g : FuncId) (cap : List LV) (p : CH → Bool) (hcap : ∀ c, c ∈ cap → Go.Ab.Data c) (ln : ns.length < 4611686018427387904) (hp : ∀ a, a ∈ ns → Run Try.prog T E0 (.call g ([lvC a] ++ cap) (.v (.bool (p a))))) : Run Try.prog T E0 (.call 152 [.sl k (ns.map chc), .fn (.func g) [] cap] (.v (.int .i64 (fidx p ns)))) := by
 refine aZ Try.func152 J J (cW J) <| Rg 1 J <| Ua J J <| Wn <| aC <| Rg 3 J <| Um J J <| aA (bC J J) J <| Um J J <| Wn <| aJ <| aY (α := Nat) (fun i => [(0, .sl k (ns.map chc)), (1, .fn (.func g) [] cap), (7, .v (.int .i64 (ns.length : Int))), (8, .v (.int .i64 (i : Int)))]) (fun i => []) (fun i n => i ≤ ns.length ∧ (ns.take i).any p = false) (fun i => ns.length - i) (0) ⟨J, J, J, J, trivial⟩ trivial ⟨Nat.zero_le _, by simp⟩ ?_
 rintro i n hF
 change WC _ _ _ _ _ (_ :: _) ([]) n _
 obtain ⟨hi, ha⟩ := hF
 refine Rg 1 J <| aA (cC J J) J <| bF (fun h9 => ?_) (fun h9 => ?_)
 rotate_left
 ·refine Wn <| aU J <| bA <| aP <| aQ J <| Rg 1 J <| Ua J J <| Wn <| aK <| post (n := 0) (.inr J) J ?_ dD
  exact congrArg (fun z => LV.v (.int .i64 z)) (lK ha om).symm
 refine Wn <| aS J <| aG <| aJ <| Rg 2 J <| Um J J <| Ua J J <| Wn <| Rg 6 J <| Um J J <| Um J J <| Um J J <| aA (cK J J J J J om J) J <| aA (dX (l := .agg (chc (ns.getD i default))) J J J) J <| aA (eP J J (hp _ (bO om)) (iS d0 (by intro c hc; rw [List.mem_singleton] at hc; subst hc; exact .agg _ (dchc1 _)) hcap)) J <| dH (fun h16 => ?_) (fun h16 => ?_)
 rotate_left
 ·refine Wn <| bT J <| bR <| aF <| aI (z := 2) J <| aA (cI (((i + 1 : Nat) : Int)) (aR J J om) om) J <| Um J J <| Wn <| aE <| ⟨i + 1, ⟨J, J, J, J, trivial⟩, trivial, ⟨om, oV ha om h16⟩, by show ns.length - (i + 1) < ns.length - i; omega⟩
 refine Wn <| cA J <| Rg 2 J <| Um J J <| Ua J J <| Nk [4] J <| aK <| aM <| bJ <| aM <| post (n := 0) (.inr J) J ?_ dD
 exact congrArg (fun z => LV.v (.int .i64 z)) (oA ha om h16).symm
theorem con4_run (k : Nat) (ns : List CH) (g : FuncId) (cap : List LV) (p : CH → Bool) (hcap : ∀ c, c ∈ cap → Go.Ab.Data c) (ln : ns.length < 4611686018427387904) (hp : ∀ a, a ∈ ns → Run Try.prog T E0 (.call g ([lvC a] ++ cap) (.v (.bool (p a))))) : Run Try.prog T E0 (.call 214 [.sl k (ns.map chc), .fn (.func g) [] cap] (.v (.bool (ns.any p)))) := by
 refine aZ Try.func214 J J (cW J) <| Rg 1 J <| Ua J J <| Wn <| Rg 5 J <| Um J J <| Um J J <| aA (eR [] [.sl k (ns.map chc), .fn (.func g) [] cap] J (kT k ns g cap p hcap ln hp) (SnapB.datas (by intro c hc; simp only [List.mem_cons, List.not_mem_nil, or_false] at hc; rcases hc with rfl | rfl; exact .sl _ _ (fun row hr => dchc row hr); exact nY d0 hcap)) fL) J <| aA (iT J J) J <| Ua J J <| Wn <| aK <| post (n := 0) (.inr J) J ?_ dD
 exact congrArg (fun z => LV.v (.bool z)) (gJ p ns)
theorem all1c_run (b : BR) (g : FuncId) (first cap : List LV) (v : Bool) (hf : ∀ c, c ∈ first → Go.Ab.Data c) (hcap : ∀ c, c ∈ cap → Go.Ab.Data c) (hp : Run Try.prog T E0 (.call g (first ++ [.v (.int .i64 b.1)] ++ cap) (.v (.bool v)))) : Run Try.prog T E0 (.call 216 [.agg (brc b), .ro [.fn (.func g) first cap]] (.v (.bool (!v)))) := by
 refine aZ Try.func216 J J (cW J) <| Rg 2 J <| bB (dY J J) J <| Ua J J <| Wn <| Rg 6 J <| aA (dX (cs := [.fn (.func g) first cap]) (l := .fn (.func g) first cap) J J J) J <| aA (bD J J J J J) J <| aA (aL J J (by repeat (first | exact g0 | refine g1 (by decide) ?_)) J J) J ?_
 refine aA (eP J J hp (iS hf (dII _) hcap)) J <| aA (dV J) J <| Ua J J <| Wn <| aK <| post (n := 0) (.inr J) J ?_ dD
 rfl
theorem some1c_run (b : BR) (g : FuncId) (first cap : List LV) (v : Bool) (hf : ∀ c, c ∈ first → Go.Ab.Data c) (hcap : ∀ c, c ∈ cap → Go.Ab.Data c) (hp : Run Try.prog T E0 (.call g (first ++ [.v (.int .i64 b.1)] ++ cap) (.v (.bool v)))) : Run Try.prog T E0 (.call 198 [.agg (brc b), .ro [.fn (.func g) first cap]] (.v (.bool (v)))) := by
 refine aZ Try.func198 J J (cW J) <| Rg 2 J <| bB (dY J J) J <| Ua J J <| Wn <| Rg 5 J <| aA (dX (cs := [.fn (.func g) first cap]) (l := .fn (.func g) first cap) J J J) J <| aA (bD J J J J J) J <| aA (aL J J (by repeat (first | exact g0 | refine g1 (by decide) ?_)) J J) J ?_
 refine aA (eP J J hp (iS hf (dII _) hcap)) J <| Ua J J <| Wn <| aK <| post (n := 0) (.inr J) J ?_ dD
 rfl
theorem allc_run (c : CH) (g : FuncId) (first cap : List LV) (p : Nat → Bool) (hf : ∀ c, c ∈ first → Go.Ab.Data c) (hcap : ∀ c, c ∈ cap → Go.Ab.Data c) (ln : c.2.2.length < 4611686018427387904) (hp : ∀ b, b ∈ c.2.2 → Run Try.prog T E0 (.call g (first ++ [.v (.int .i64 b.1)] ++ cap) (.v (.bool (p b.1.toNat))))) : Run Try.prog T E0 (.call 196 [lvC c, .fn (.func g) first cap] (.v (.bool (wi c p)))) := by
 refine aZ Try.func196 J J (cW J) <| Rg 3 J <| bB (dY J J) J <| bB (dY J J) J <| Ua J J <| Wn <| Rg 6 J <| aA (bD J J J J J) J <| aA (aL J J (g1 (by decide) g0) J J) J <| aA (oMf J) J <| aA (eR [0 + 1] [.sl c.2.1 (c.2.2.map brc), .fn (.func 216) [] [.ro [.fn (.func g) first cap]]] J (con3_run c.2.1 c.2.2 216 [.ro [.fn (.func g) first cap]] (fun b : BR => !p b.1.toNat) (droF hf hcap) ln (fun b hb => all1c_run b g first cap (p b.1.toNat) hf hcap (hp b hb))) (.data (.sl _ _ fun row hr => dbrc row hr) (.fn .nil (.box g0 (List.mem_singleton.2 J) (by show (0 : Nat) ≠ 2; decide) (fun c hc => by have hc' := List.mem_singleton.1 hc; subst hc'; exact nY hf hcap) .nil) .nil)) (.cons g0 (by show (0 : Nat) ≠ 2; decide) fL)) J <| aA (dV J) J <| Ua J J <| Wn <| aK <| post (n := 0) (.inr J) J ?_ dD
 exact congrArg (fun z => LV.v (.bool z)) (any_not (fun b : BR => p b.1.toNat) c.2.2)
theorem qG (c : CH) (g : FuncId) (first cap : List LV) (p : Nat → Bool) (hf : ∀ c, c ∈ first → Go.Ab.Data c) (hcap : ∀ c, c ∈ cap → Go.Ab.Data c) (ln : c.2.2.length < 4611686018427387904) (hp : ∀ b, b ∈ c.2.2 → Run Try.prog T E0 (.call g (first ++ [.v (.int .i64 b.1)] ++ cap) (.v (.bool (p b.1.toNat))))) : Run Try.prog T E0 (.call 154 [lvC c, .fn (.func g) first cap] (.v (.bool (me c p)))) := by
 refine aZ Try.func154 J J (cW J) <| Rg 3 J <| bB (dY J J) J <| bB (dY J J) J <| Ua J J <| Wn <| Rg 5 J <| aA (bD J J J J J) J <| aA (aL J J (g1 (by decide) g0) J J) J <| aA (oMf J) J <| aA (eR [0 + 1] [.sl c.2.1 (c.2.2.map brc), .fn (.func 198) [] [.ro [.fn (.func g) first cap]]] J (con3_run c.2.1 c.2.2 198 [.ro [.fn (.func g) first cap]] (fun b : BR => p b.1.toNat) (droF hf hcap) ln (fun b hb => some1c_run b g first cap (p b.1.toNat) hf hcap (hp b hb))) (.data (.sl _ _ fun row hr => dbrc row hr) (.fn .nil (.box g0 (List.mem_singleton.2 J) (by show (0 : Nat) ≠ 2; decide) (fun c hc => by have hc' := List.mem_singleton.1 hc; subst hc'; exact nY hf hcap) .nil) .nil)) (.cons g0 (by show (0 : Nat) ≠ 2; decide) fL)) J <| Ua J J <| Wn <| aK <| post (n := 0) (.inr J) J ?_ dD
 rfl
theorem grown1_run (c : CH) (g : FuncId) (first cap : List LV) (p f : Nat → Bool) (hf : ∀ c, c ∈ first → Go.Ab.Data c) (hcap : ∀ c, c ∈ cap → Go.Ab.Data c) (hB : ∀ b, b ∈ c.2.2 → 0 ≤ b.1 ∧ b.1 < 40) (ln : c.2.2.length < 4611686018427387904) (hp : ∀ b, b ∈ c.2.2 → Run Try.prog T E0 (.call g (first ++ [.v (.int .i64 b.1)] ++ cap) (.v (.bool (p b.1.toNat))))) : Run Try.prog T E0 (.call 195 [lvC c, .ro [.fn (.func g) first cap], .ro (sb f)] (.v (.bool (okc p f c)))) := by
 refine aZ Try.func195 J J (cW J) <| Rg 2 J <| bB (dY J J) J <| Ua J J <| Wn <| Rg 9 J <| aA (aL (l := lvC c) J J g0 J J) J <| aA (dX (cs := [.fn (.func g) first cap]) (l := .fn (.func g) first cap) J J J) J <| aA (eR [] [lvC c, .fn (.func g) first cap] J (allc_run c g first cap p hf hcap ln hp) (SnapB.data dW (.data (nY hf hcap) .nil)) fL) J <| dH (fun h7 => ?_) (fun h7 => ?_)
 ·refine Um J J <| aH J (aL (l := lvC c) J J g0 J J) J <| aH J (oMf1 J J) J <| aH J (eR [] [lvC c, .fn (.func 83) [.ro (sb f)] []] J (qG c 83 [.ro (sb f)] [] f (dro f) d0 ln (fun b hb => kS f b.1 (hB b hb).1 (hB b hb).2)) (SnapB.data dW (.data (nY (dro f) d0) .nil)) fL) J <| aA (bS J J) J <| Ua J J <| Wn <| aK <| post (n := 0) (.inr J) J ?_ dD
  exact congrArg (fun z => LV.v (.bool z)) (show me c f = okc p f c by unfold okc; rw [h7, Bool.true_and])
 refine Um J J <| K1 J J <| K1 J J <| K1 J J <| aA (bZ J J) J <| Ua J J <| Wn <| aK <| post (n := 0) (.inr J) J ?_ dD
 exact congrArg (fun z => LV.v (.bool z)) (show false = okc p f c by unfold okc; rw [h7, Bool.false_and])
theorem qE (c : CH) (f : Nat → Bool) (hB : ∀ b, b ∈ c.2.2 → 0 ≤ b.1 ∧ b.1 < 40) (ln : c.2.2.length < 4611686018427387904) : Run Try.prog T E0 (.call 153 [lvC c, .ro (sb f)] (.v (.bool (!me c f)))) := by
 refine aZ Try.func153 J J (cW J) <| Rg 2 J <| bB (dY J J) J <| Ua J J <| Wn <| Rg 5 J <| aA (aL (l := lvC c) J J g0 J J) J <| aA (oMf1 J J) J <| aA (eR [] [lvC c, .fn (.func 83) [.ro (sb f)] []] J (qG c 83 [.ro (sb f)] [] f (dro f) d0 ln (fun b hb => kS f b.1 (hB b hb).1 (hB b hb).2)) (SnapB.data dW (.data (nY (dro f) d0) .nil)) fL) J <| aA (dV J) J <| Ua J J <| Wn <| aK <| post (n := 0) (.inr J) J ?_ dD
 rfl
theorem pick1_run (c : CH) (g : FuncId) (cap : List LV) (v : Bool) (hcap : ∀ c, c ∈ cap → Go.Ab.Data c) (hp : Run Try.prog T E0 (.call g ([lvC c] ++ cap) (.v (.bool v)))) : Run Try.prog T E0 (.call 215 [lvC c, .ro [.fn (.func g) [] cap]] (.v (.bool (!v)))) := by
 refine aZ Try.func215 J J (cW J) <| Rg 2 J <| bB (dY J J) J <| Ua J J <| Wn <| Rg 5 J <| aA (dX (cs := [.fn (.func g) [] cap]) (l := .fn (.func g) [] cap) J J J) J <| aA (aL (l := lvC c) J J g0 J J) J <| aA (eP J J hp (iS d0 (by intro x hx; rw [List.mem_singleton] at hx; subst hx; exact dW) hcap)) J <| aA (dV J) J <| Ua J J <| Wn <| aK <| post (n := 0) (.inr J) J ?_ dD
 rfl
theorem pick_run (x : Go.Ab.ST) (pl : Int) (g : FuncId) (cap : List LV) (q : CH → Bool) (hcap : ∀ c, c ∈ cap → Go.Ab.Data c) (ln : x.2.2.length < 4611686018427387904) (hq : ∀ c, c ∈ x.2.2 → Run Try.prog T E0 (.call g ([lvC c] ++ cap) (.v (.bool (q c))))) : Run Try.prog T E0 (.call 194 [.agg (stc x), .v (.int .i64 pl), .fn (.func g) [] cap] (.v (.int .i64 (pk x pl q)))) := by
 refine aZ Try.func194 J J (cW J) <| Rg 3 J <| bB (dY J J) J <| bB (dY J J) J <| Ua J J <| Wn <| Rg 5 J <| aA (bD J J J J J) J <| aA (aL J J (g1 (by decide) g0) J J) J <| aA (aL (l := .fn (.func g) [] cap) J J g0 J J) J <| aA (eR [] [.sl x.2.1 (x.2.2.map chc), .fn (.func g) [] cap] J (kT x.2.1 x.2.2 g cap q hcap ln hq) (SnapB.data (.sl _ _ fun row hr => dchc row hr) (.data (nY d0 hcap) .nil)) fL) J <| Ua J J <| Wn <| aC <| Rg 4 J <| aA (bD J J J J J) J <| aA (aL J J (g1 (by decide) g0) J J) J <| Um J J <| aA (fF J J) J <| bF (fun h15 => ?_) (fun h15 => ?_)
 ·refine Nk [3,5,7,15] J <| aS J <| aC <| Rg 2 J <| Um J J <| Ua J J <| Wn <| bE <| post (n := 0) (.inr J) J ?_ dD
  exact congrArg (fun z => LV.v (.int .i64 z)) (show fidx q x.2.2 = pk x pl q by unfold pk; rw [if_pos om])
 refine Nk [3,5,7,15] J <| aU J <| aG <| aC <| Rg 4 J <| aA (bD J J J J J) J <| aA (aL J J (g1 (by decide) g0) J J) J <| aA (oMf J) J <| aA (eR [0 + 1] [.sl x.2.1 (x.2.2.map chc), .fn (.func 215) [] [.ro [.fn (.func g) [] cap]]] J (con4_run x.2.1 x.2.2 215 [.ro [.fn (.func g) [] cap]] (fun c => !q c) (droF d0 hcap) ln (fun c hc => pick1_run c g cap (q c) hcap (hq c hc))) (.data (.sl _ _ fun row hr => dchc row hr) (.fn .nil (.box g0 (List.mem_singleton.2 J) (by show (0 : Nat) ≠ 2; decide) (fun c hc => by have hc' := List.mem_singleton.1 hc; subst hc'; exact nY d0 hcap) .nil) .nil)) (.cons g0 (by show (0 : Nat) ≠ 2; decide) fL)) J <| dH (fun h20 => ?_) (fun h20 => ?_)
 ·refine Wn <| aS J <| aC <| Rg 1 J <| Ua J J <| Wn <| bE <| post (n := 0) (.inr J) J ?_ dD
  exact congrArg (fun z => LV.v (.int .i64 z)) (show -1 = pk x pl q by unfold pk; rw [if_neg om, if_pos h20])
 refine Wn <| aU J <| aG <| Rg 1 J <| Ua J J <| Wn <| aK <| post (n := 0) (.inr J) J ?_ dD
 exact congrArg (fun z => LV.v (.int .i64 z)) (show 0 = pk x pl q by unfold pk; rw [if_neg om, if_neg (by rw [h20]; decide)])
theorem oJ (n0 : Nat) (g : FuncId) (first cap : List LV) (f : Nat → Bool) (hn0 : n0 ≤ 40) (hf : ∀ c, c ∈ first → Go.Ab.Data c) (hcap : ∀ c, c ∈ cap → Go.Ab.Data c) (hp : ∀ s : Nat, s < n0 → Run Try.prog T E0 (.call g (first ++ [.v (.int .i64 (s : Int))] ++ cap) (.v (.bool (f s))))) : Run Try.prog T E0 (.call 155 [.v (.int .i64 (n0 : Int)), .fn (.func g) first cap] (lvL (kd (fl n0 f).length) (fl n0 f))) := by
 refine aZ Try.func155 J J (cW J) <| Rg 1 J <| Ua J J <| Wn <| Rg 1 J <| Ua J J <| Wn <| aC <| Rg 2 J <| Um J J <| Um J J <| Wn <| aJ <| aY (α := Nat × Nat) (fun ⟨i, q⟩ => [(1, .fn (.func g) first cap), (5, outV q 1 ((fl i f).map ic)), (7, .v (.int .i64 (n0 : Int))), (8, .v (.int .i64 (i : Int)))]) (fun ⟨i, q⟩ => outH q 1 (3) ((fl i f).map ic) []) (fun ⟨i, q⟩ n => i ≤ n0 ∧ q < n) (fun ⟨i, q⟩ => n0 - i) (0, 0) ⟨J, J, J, J, trivial⟩ trivial ⟨Nat.zero_le _, om⟩ ?_
 rintro ⟨i, q⟩ n hF
 change WC _ _ _ _ _ (_ :: _) (outH _ _ _ _ _) n _
 obtain ⟨hi, hq⟩ := hF
 have hfl := iJ i f
 refine Rg 1 J <| aA (cC J J) J <| bF (fun h9 => ?_) (fun h9 => ?_)
 rotate_left
 ·refine Wn <| aU J <| bA <| aP <| aQ J <| Rg 2 J <| Um J J <| Ua J J <| Wn <| aK ?_
  have hil : i = n0 := by omega
  subst hil
  rw [show lvL (kd (fl i f).length) (fl i f) = outR ((fl i f).map ic) from (nM _ _).symm]
  exact postOut (n := 0) (.inr J) J (by decide) (cP (f := ic) (n := 1) fun _ => rfl) (cD iZ)
 refine Wn <| aS J <| aG <| aJ <| Rg 2 J <| Um J J <| Ua J J <| Wn <| Rg 3 J <| Um J J <| Um J J <| aA (eP J J (hp i om) (iS hf (dII _) hcap)) J <| dH (fun h13 => ?_) (fun h13 => ?_)
 rotate_left
 ·refine Wn <| bT J <| bR <| aF <| aI (z := 2) J <| aA (cI (((i + 1 : Nat) : Int)) (aR J J om) om) J <| Um J J <| Wn <| aE ?_
  have e : fl (i + 1) f = fl i f := by rw [iK, if_neg (by rw [h13]; decide)]
  refine ⟨⟨i + 1, q⟩, ⟨rfl, congrArg some (by rw [e]), rfl, rfl, trivial⟩, by dsimp only; rw [e]; exact jR, ⟨om, om⟩, by show n0 - (i + 1) < n0 - i; omega⟩
 refine Wn <| cA J <| aI (z := 5) J <| Um J J <| Um J J <| aA (dK (cs := [_]) (rows := [[_]]) J J (by decide) J J J) J <| qQ (te := ti3) (f := ic) (q := q) (us := fl i f) (u := (i : Int)) J J J J J (fun _ => rfl) (by decide) (by show (2 * ((fl i f).length + 1) + 256) * 8 ≤ _; omega) om J J J <| Ua J J <| Wn <| aF <| aI (z := 2) J <| aA (cI (((i + 1 : Nat) : Int)) (aR J J om) om) J <| Um J J <| Wn <| aE ?_
 have e : fl (i + 1) f = fl i f ++ [(i : Int)] := by rw [iK, if_pos h13]
 refine ⟨⟨i + 1, _⟩, ⟨rfl, congrArg some (by rw [e]; rfl), rfl, rfl, trivial⟩, by dsimp only; rw [e]; exact jR, ⟨om, om⟩, by show n0 - (i + 1) < n0 - i; omega⟩
theorem list_run (n0 : Nat) (f : Nat → Bool) (hn0 : n0 ≤ 40) : Run Try.prog T E0 (.call 150 [.ro (sb f), .v (.int .i64 (n0 : Int))] (lvL (kd (fl n0 f).length) (fl n0 f))) := by
 refine aZ Try.func150 J J (cW J) <| Rg 1 J <| Ua J J <| Wn <| Rg 5 J <| Um J J <| Um J J <| aA (oMf1 J J) J <| aA (aN J (oJ n0 83 [.ro (sb f)] [] f hn0 (dro f) d0 (fun s hs => kS f (s : Int) om om)) (bG (by intro c hc; simp only [List.mem_cons, List.not_mem_nil, or_false] at hc; rcases hc with rfl | rfl; exact .v _; exact nY (dro f) d0))) J <| Ua J J <| Wn <| aK <| post (n := 0) (.inr J) J ?_ dD
 rfl
end Go.Proofs.Ytcblgjaomljikaa
namespace Go.Proofs.Ytcblgjaomljikaa
open Go.Ab Go.RowKit
theorem fE {h : Hp} {q : Nat} {a b : Ob} (h1 : getH h q = some a) (h2 : a = b) : getH h q = some b := by rw [h1, h2]
theorem gK (n0 : Nat) (H : Hp) (k : Nat) (ss : List Go.Ab.ST) (goal : Nat → Bool) (pl : Int) (g : FuncId) (cap cap' : List LV) (S : List Nat) (ins : Nat → Bool) (hnd : subsM H H) (hlt : ∀ q o, getH H q = some o → q < n0) (hS : ∀ q, q ∈ S → q < n0) (hcap : (∀ (H' : Hp) (S' : List Nat), (∀ q o, getH H q = some o → getH H' q = some o) → (∀ q, q ∈ S → q ∈ S') → SnapB H' S' cap cap' ∧ Lent H' S)) (hwt : WT ss) (hl : ∀ x, x ∈ ss → x.2.2.length < 1000000 ∧ ∀ c, c ∈ x.2.2 → c.2.2.length < 1000000) (hrun : ∀ z : Int, 0 ≤ z → z < 40 → Run Try.prog T E0 (.call g ([.v (.int .i64 z)] ++ cap') (.v (.bool (ins z.toNat))))) : WC Try.prog T E0 Try.f148.ntmps (codeOf Try.f148) (argsEnv 0 [lvMo k ss, lvS goal, .v (.int .i64 pl), .fn (.func g) [] cap]) H n0 (fun x e' h' n' => (x = .normal ∨ x = .ret) ∧ ∃ q0, resE e' T h' Try.f148.results.toList = some [lvS (gX ss pl ins goal), .ref q0 1 0 ss.length] ∧ getH h' q0 = some { cells := ((tab ss.length (gC ss pl ins goal)).map ic).flatten, sz := 1, elem := (3), st := 0 } ∧ n0 ≤ q0 ∧ q0 < n' ∧ n0 ≤ n' ∧ ∀ q o, getH H q = some o → getH h' q = some o) := by
 have hn40 := hwt.len
 have hcd : ∀ c, c ∈ cap' → Go.Ab.Data c := (hcap H S (fun _ _ h => h) (fun _ h => h)).1.dat
 change WC _ _ _ _ _ [(0, lvMo k ss), (1, lvS goal), (2, .v (.int .i64 pl)), (3, .fn (.func g) [] cap)] _ _ _
 refine Rg 5 J <| bB (dY J J) J <| bB (oBxS J) J <| bB (dY J J) J <| bB (jB J J J) J <| Ua J J <| Wn <| Rg 3 J <| aA (kV J J gG J J J) J ?_
 refine bB (jB J J J) J <| aW (jS J J J g0 (cO _) J) <| Wn <| Rg 5 J <| aA (bD J J J J J) J <| aA (aL J J gG J J) J ?_
 refine aA (bC J J) J <| bB (oMk (a := ss.length) (b := ss.length) J J J J (by simp) (by simp) (by decide) om (by show 8 * ss.length ≤ _; omega) om) J <| Ua J J <| Nk [2,4,7,8,10,11] J <| cM <| aY (α := Nat) (fun kk => [(2, .v (.int .i64 pl)), (4, .ptr n0 0), (7, .ptr (n0 + 2) 0), (8, .ptr (n0 + 3) 0), (10, .ptr (n0 + 5 + 1) 0), (11, .ref (n0 + 5 + 3 + 3) 1 0 ss.length)]) (fun kk => ((n0 + 5 + 1), { cells := sb ((gx ss pl ins goal kk)), sz := 40, elem := (130), st := 0 }) :: ((n0 + 5 + 3 + 3), { cells := ((tab ss.length ((gc ss pl ins goal kk))).map ic).flatten, sz := 1, elem := (3), st := 0 }) :: (n0, { cells := [.sl k (ss.map stc)], sz := 1, elem := (26), st := 0 }) :: ((n0 + 2), { cells := [.fn (.func g) [] cap], sz := 1, elem := (133), st := 0 }) :: ((n0 + 3), { cells := sb (fun _ => false), sz := 40, elem := (130), st := 0 }) :: H) (fun kk n => kk ≤ (fl ss.length (gx ss pl ins goal kk)).length ∧ n0 + 13 ≤ n) (fun kk => ss.length + 1 - kk) (0) ⟨J, J, J, J, J, J, trivial⟩ ⟨gG, fE gG (by exact lZ fun _ => rfl), gG, gG, gG, eH hnd (by intro q o hq; have := hlt q o hq; repeat (first | exact hq | refine g1 om ?_))⟩ ⟨Nat.zero_le _, om⟩ ?_
 rintro kk n hF
 change WC _ _ _ _ _ [(2, .v (.int .i64 pl)), (4, .ptr n0 0), (7, .ptr (n0 + 2) 0), (8, .ptr (n0 + 3) 0), (10, .ptr (n0 + 5 + 1) 0), (11, .ref (n0 + 5 + 3 + 3) 1 0 ss.length)] (((n0 + 5 + 1), { cells := sb ((gx ss pl ins goal kk)), sz := 40, elem := (130), st := 0 }) :: ((n0 + 5 + 3 + 3), { cells := ((tab ss.length ((gc ss pl ins goal kk))).map ic).flatten, sz := 1, elem := (3), st := 0 }) :: (n0, { cells := [.sl k (ss.map stc)], sz := 1, elem := (26), st := 0 }) :: ((n0 + 2), { cells := [.fn (.func g) [] cap], sz := 1, elem := (133), st := 0 }) :: ((n0 + 3), { cells := sb (fun _ => false), sz := 40, elem := (130), st := 0 }) :: H) n _
 obtain ⟨hk, hn⟩ := hF
 have hkl := iJ ss.length (gx ss pl ins goal kk)
 obtain ⟨nK, hnK⟩ : ∃ z, z = n := ⟨n, rfl⟩
 subst hnK
 refine cM <| Rg 3 J <| aA (kV J J gG J J J) J ?_
 refine bB (jB J J J) J <| aW (jS J J J g0 (cO _) J) <| Wn <| aC <| Rg 4 J <| aA (bD J J J J J) J <| aA (aL J J gG J J) J ?_
 refine aA (bC J J) J <| Um J J <| Wn <| aJ <| aY (α := Nat) (fun j => [(2, .v (.int .i64 pl)), (4, .ptr n0 0), (7, .ptr (n0 + 2) 0), (8, .ptr (n0 + 3) 0), (10, .ptr (n0 + 5 + 1) 0), (11, .ref (n0 + 5 + 3 + 3) 1 0 ss.length), (12, .ptr (nK + 1) 0), (23, .sl k (ss.map stc)), (24, .v (.int .i64 (ss.length : Int))), (25, .v (.int .i64 (j : Int)))]) (fun j => (nK + 1, { cells := sb ((gx ss pl ins goal kk)), sz := 40, elem := (130), st := 0 }) :: ((n0 + 5 + 1), { cells := sb ((mixf (gx ss pl ins goal kk) (gx ss pl ins goal (kk + 1)) j)), sz := 40, elem := (130), st := 0 }) :: ((n0 + 5 + 3 + 3), { cells := ((tab ss.length ((mixf (gc ss pl ins goal kk) (gc ss pl ins goal (kk + 1)) j))).map ic).flatten, sz := 1, elem := (3), st := 0 }) :: (n0, { cells := [.sl k (ss.map stc)], sz := 1, elem := (26), st := 0 }) :: ((n0 + 2), { cells := [.fn (.func g) [] cap], sz := 1, elem := (133), st := 0 }) :: ((n0 + 3), { cells := sb (fun _ => false), sz := 40, elem := (130), st := 0 }) :: H) (fun j n => j ≤ ss.length ∧ nK + 7 ≤ n) (fun j => ss.length - j) (0) ⟨J, J, J, J, J, J, J, J, J, J, trivial⟩ ⟨gG, fE gG (by rw [pV]), fE gG (by rw [pV]), gG, gG, gG, eH hnd (by intro q o hq; have := hlt q o hq; repeat (first | exact hq | refine g1 om ?_))⟩ ⟨Nat.zero_le _, om⟩ ?_
 rintro j n hF
 change WC _ _ _ _ _ [(2, .v (.int .i64 pl)), (4, .ptr n0 0), (7, .ptr (n0 + 2) 0), (8, .ptr (n0 + 3) 0), (10, .ptr (n0 + 5 + 1) 0), (11, .ref (n0 + 5 + 3 + 3) 1 0 ss.length), (12, .ptr (nK + 1) 0), (23, .sl k (ss.map stc)), (24, .v (.int .i64 (ss.length : Int))), (25, .v (.int .i64 (j : Int)))] ((nK + 1, { cells := sb ((gx ss pl ins goal kk)), sz := 40, elem := (130), st := 0 }) :: ((n0 + 5 + 1), { cells := sb ((mixf (gx ss pl ins goal kk) (gx ss pl ins goal (kk + 1)) j)), sz := 40, elem := (130), st := 0 }) :: ((n0 + 5 + 3 + 3), { cells := ((tab ss.length ((mixf (gc ss pl ins goal kk) (gc ss pl ins goal (kk + 1)) j))).map ic).flatten, sz := 1, elem := (3), st := 0 }) :: (n0, { cells := [.sl k (ss.map stc)], sz := 1, elem := (26), st := 0 }) :: ((n0 + 2), { cells := [.fn (.func g) [] cap], sz := 1, elem := (133), st := 0 }) :: ((n0 + 3), { cells := sb (fun _ => false), sz := 40, elem := (130), st := 0 }) :: H) n _
 obtain ⟨hj, hn2⟩ := hF
 refine Rg 1 J <| aA (cC J J) J <| bF (fun h26 => ?_) (fun h26 => ?_)
 rotate_left
 ·refine Wn <| aU J <| bA <| aP <| aQ J ?_
  have hjn : j = ss.length := by omega
  have e1 : (mixf (gx ss pl ins goal kk) (gx ss pl ins goal (kk + 1)) j) = (gx ss pl ins goal (kk + 1)) := by rw [hjn]; exact mixf_end fun s hs => lN hs
  have e2 : (mixf (gc ss pl ins goal kk) (gc ss pl ins goal (kk + 1)) j) = (gc ss pl ins goal (kk + 1)) := by rw [hjn]; exact mixf_end fun s hs => newc_out hs
  rw [e1, e2]
  refine Rg 3 J <| aA (kV J J gG J J J) J ?_
  refine aA (kV J J gG J J J) J ?_
  refine aA (rJ J J J J J J) J <| dH (fun h57 => ?_) (fun h57 => ?_)
  rotate_left
  ·refine Wn <| bT J <| bR <| dE <| aE <| ⟨kk + 1, ⟨J, J, J, J, J, J, trivial⟩, ⟨gG, gG, gG, gG, gG, eH hnd (by intro q o hq; have := hlt q o hq; repeat (first | exact hq | refine g1 om ?_))⟩, ⟨gx_grow hn40 hk h57, om⟩, by show ss.length + 1 - (kk + 1) < ss.length + 1 - kk; omega⟩
  refine Wn <| cA J <| Rg 4 J <| aA (kV J J gG J J J) J ?_
  refine Um J J <| aW (jS J J J gG (cO _) J) ?_
  refine Ua J J <| Nk [8,9] J <| aK <| dM <| bJ <| dM ?_
  obtain ⟨e3, e4⟩ := gX_of hn40 hk h57
  rw [e3, e4]
  exact ⟨.inr J, (n0 + 5 + 3 + 3), resE_cellS J J J J g0 J J, gG, om, om, om, (by intro q o hq; have := hlt q o hq; repeat (first | exact hq | refine g1 om ?_))⟩
 refine Wn <| aS J <| aG <| aJ ?_
 have hm := bO (us := ss) (i := j) om
 obtain ⟨hl1, hl2⟩ := hl _ hm
 refine Rg 6 J <| Um J J <| aA (cK J J J J J om J) J <| aA (dX (l := .agg (stc (ss.getD j default))) J J J) J <| bB (fN J) J <| Ua J J <| aW (dA (cs' := stc (ss.getD j default)) J J J g0 J J J J) <| Nk [2,4,7,8,10,11,12,13,14,23,24,25] J <| aC <| Rg 3 J <| Um J J <| aA (oIxA (j := j) J J J J om om) J <| aA (oLdB om J J J gG J (fun _ _ => rfl)) J ?_
 refine dH (fun h32 => ?_) (fun h32 => ?_)
 ·refine Nk [2,4,7,8,10,11,12,13,14,23,24,25,32] J <| aS J <| bA <| aQ J <| aI (z := 2) J <| aA (cI (((j + 1 : Nat) : Int)) (aR J J om) om) J <| Um J J <| Wn <| aE ?_
  have ex : (mixf (gx ss pl ins goal kk) (gx ss pl ins goal (kk + 1)) j) = (mixf (gx ss pl ins goal kk) (gx ss pl ins goal (kk + 1)) (j + 1)) := (dJ (f := (gx ss pl ins goal kk)) (gs_a h32)).symm
  have ec : (mixf (gc ss pl ins goal kk) (gc ss pl ins goal (kk + 1)) j) = (mixf (gc ss pl ins goal kk) (gc ss pl ins goal (kk + 1)) (j + 1)) := (dJ (f := (gc ss pl ins goal kk)) (kU (gs_a h32))).symm
  refine ⟨j + 1, ⟨J, J, J, J, J, J, J, J, J, J, trivial⟩, ⟨gG, fE gG (congrArg (fun z => Ob.mk (sb z) 40 130 0) ex), fE gG (congrArg (fun z => Ob.mk ((tab ss.length z).map ic).flatten 1 3 0) ec), gG, gG, gG, eH hnd (by intro q o hq; have := hlt q o hq; repeat (first | exact hq | refine g1 om ?_))⟩, ⟨om, om⟩, by show ss.length - (j + 1) < ss.length - j; omega⟩
 refine Nk [2,4,7,8,10,11,12,13,14,23,24,25,32] J <| aU J <| aG <| Rg 5 J <| aA (aL (l := .agg (stc (ss.getD j default))) J J gG J J) J ?_
 refine Um J J <| aA (oMf J) J <| aA (eR ((n0 + 2) :: (nK + 1) :: S) [.agg (stc (ss.getD j default)), .v (.int .i64 pl), .fn (.func 195) [] [.ro [.fn (.func g) [] cap'], .ro (sb (gx ss pl ins goal kk))]] J (pick_run (ss.getD j default) pl 195 [.ro [.fn (.func g) [] cap'], .ro (sb (gx ss pl ins goal kk))] (okc ins (gx ss pl ins goal kk)) (d2ro hcd) om (fun c hc => grown1_run c g [] cap' ins (gx ss pl ins goal kk) d0 hcd (fun b hb => to40 hwt hm hc hb) (by have := hl2 c hc; omega) (fun b hb => hrun b.1 (to40 hwt hm hc hb).1 (to40 hwt hm hc hb).2))) (.data (.agg _ (dstc1 _)) (.data (.v _) (.fn .nil (.boxF (q := n0 + 2) (ob := { cells := [.fn (.func g) [] cap], sz := 1, elem := (133), st := 0 }) gG (by simp) (by show (0 : Nat) ≠ 2; decide) J (.fn .nil (by exact (hcap _ ((n0 + 2) :: (nK + 1) :: S) (by intro q o hq; have := hlt q o hq; repeat (first | exact hq | refine g1 om ?_)) (fun q hq => .tail _ (.tail _ hq))).1) .nil) (.box (q := nK + 1) (ob := { cells := sb ((gx ss pl ins goal kk)), sz := 40, elem := (130), st := 0 }) gG (by simp) (by show (0 : Nat) ≠ 2; decide) (dG _) .nil)) .nil))) (.cons gG (by show (0 : Nat) ≠ 2; decide) (.cons gG (by show (0 : Nat) ≠ 2; decide) (hcap _ S (by intro q o hq; have := hlt q o hq; repeat (first | exact hq | refine g1 om ?_)) (fun _ h => h)).2))) J ?_
 refine Ua J J <| Nk [2,4,7,8,10,11,12,13,14,15,23,24,25] J <| Rg 7 J <| Um J J <| aA (iT J J) J <| bF (fun h38 => ?_) (fun h38 => ?_)
 rotate_left
 ·refine Um J J <| K1 J J <| K1 J J <| K1 J J <| aA (bZ J J) J <| Nk [2,4,7,8,10,11,12,13,14,15,23,24,25,40,41,42,43] J <| bT J <| bR <| aF <| Ck [2,4,7,8,10,11,12,23,24,25,40,41,42] J <| aI (z := 2) J <| aA (cI (((j + 1 : Nat) : Int)) (aR J J om) om) J <| Um J J <| Wn <| aE ?_
  have ex : (mixf (gx ss pl ins goal kk) (gx ss pl ins goal (kk + 1)) j) = (mixf (gx ss pl ins goal kk) (gx ss pl ins goal (kk + 1)) (j + 1)) := (dJ (f := (gx ss pl ins goal kk)) (gs_b h32 (pk_no h38))).symm
  have ec : (mixf (gc ss pl ins goal kk) (gc ss pl ins goal (kk + 1)) j) = (mixf (gc ss pl ins goal kk) (gc ss pl ins goal (kk + 1)) (j + 1)) := (dJ (f := (gc ss pl ins goal kk)) (kU (gs_b h32 (pk_no h38)))).symm
  refine ⟨j + 1, ⟨J, J, J, J, J, J, J, J, J, J, trivial⟩, ⟨gG, fE gG (congrArg (fun z => Ob.mk (sb z) 40 130 0) ex), fE gG (congrArg (fun z => Ob.mk ((tab ss.length z).map ic).flatten 1 3 0) ec), gG, gG, gG, eH hnd (by intro q o hq; have := hlt q o hq; repeat (first | exact hq | refine g1 om ?_))⟩, ⟨om, om⟩, by show ss.length - (j + 1) < ss.length - j; omega⟩
 refine Um J J <| aH J (aL (l := .fn (.func g) [] cap) J J gG J J) J ?_
 refine aH J (dF J) J <| aH J (oCallVB S ([.v (.int .i64 (j : Int))] ++ cap') J J (hrun (j : Int) om om) (SnapB.data (.v _) (hcap _ S (by intro q o hq; have := hlt q o hq; repeat (first | exact hq | refine g1 om ?_)) (fun _ h => h)).1) (hcap _ S (by intro q o hq; have := hlt q o hq; repeat (first | exact hq | refine g1 om ?_)) (fun _ h => h)).2) J ?_
 refine dH (fun h42 => ?_) (fun h42 => ?_)
 rotate_left
 ·refine aA (bS J J) J <| Nk [2,4,7,8,10,11,12,13,14,15,23,24,25,40,41,42,43] J <| bT J <| bR <| aF <| Ck [2,4,7,8,10,11,12,23,24,25,40,41,42] J <| aI (z := 2) J <| aA (cI (((j + 1 : Nat) : Int)) (aR J J om) om) J <| Um J J <| Wn <| aE ?_
  have ex : (mixf (gx ss pl ins goal kk) (gx ss pl ins goal (kk + 1)) j) = (mixf (gx ss pl ins goal kk) (gx ss pl ins goal (kk + 1)) (j + 1)) := (dJ (f := (gx ss pl ins goal kk)) (gs_c h32 h42)).symm
  have ec : (mixf (gc ss pl ins goal kk) (gc ss pl ins goal (kk + 1)) j) = (mixf (gc ss pl ins goal kk) (gc ss pl ins goal (kk + 1)) (j + 1)) := (dJ (f := (gc ss pl ins goal kk)) (kU (gs_c h32 h42))).symm
  refine ⟨j + 1, ⟨J, J, J, J, J, J, J, J, J, J, trivial⟩, ⟨gG, fE gG (congrArg (fun z => Ob.mk (sb z) 40 130 0) ex), fE gG (congrArg (fun z => Ob.mk ((tab ss.length z).map ic).flatten 1 3 0) ec), gG, gG, gG, eH hnd (by intro q o hq; have := hlt q o hq; repeat (first | exact hq | refine g1 om ?_))⟩, ⟨om, om⟩, by show ss.length - (j + 1) < ss.length - j; omega⟩
 refine aA (bS J J) J <| Nk [2,4,7,8,10,11,12,13,14,15,23,24,25,40,41,42,43] J <| cA J <| Rg 3 J <| Um J J <| aA (oIxA (j := j) J J J J om om) J <| aW (oStB om J J J gG J) ?_
 refine Nk [2,4,7,8,10,11,12,13,14,15,23,24,25,40,41,42] J <| Rg 4 J <| aA (bD J J J J J) J <| aA (aL J J gG J J) J ?_
 refine Um J J <| aA (fF J J) J <| bF (fun h49 => ?_) (fun h49 => ?_)
 rotate_left
 ·refine Nk [2,4,7,8,10,11,12,13,15,23,24,25,40,41,42,49] J <| bT J <| bR <| aF <| Ck [2,4,7,8,10,11,12,23,24,25,40,41,42] J <| aI (z := 2) J <| aA (cI (((j + 1 : Nat) : Int)) (aR J J om) om) J <| Um J J <| Wn <| aE ?_
  have ex : (fun i => if i = j then true else (mixf (gx ss pl ins goal kk) (gx ss pl ins goal (kk + 1)) j) i) = (mixf (gx ss pl ins goal kk) (gx ss pl ins goal (kk + 1)) (j + 1)) := by rw [gV, show (gx ss pl ins goal (kk + 1)) j = true from gs_d om h42 (pk_yes h38)]; rfl
  have ec : (mixf (gc ss pl ins goal kk) (gc ss pl ins goal (kk + 1)) j) = (mixf (gc ss pl ins goal kk) (gc ss pl ins goal (kk + 1)) (j + 1)) := (dJ (f := (gc ss pl ins goal kk)) (nc_d om)).symm
  refine ⟨j + 1, ⟨J, J, J, J, J, J, J, J, J, J, trivial⟩, ⟨gG, fE gG (congrArg (fun z => Ob.mk (sb z) 40 130 0) ex), fE gG (congrArg (fun z => Ob.mk ((tab ss.length z).map ic).flatten 1 3 0) ec), gG, gG, gG, eH hnd (by intro q o hq; have := hlt q o hq; repeat (first | exact hq | refine g1 om ?_))⟩, ⟨om, om⟩, by show ss.length - (j + 1) < ss.length - j; omega⟩
 refine Nk [2,4,7,8,10,11,12,13,15,23,24,25,40,41,42,49] J <| cA J <| aI (z := 5) J <| Um J J <| Um J J <| Um J J <| aA (cZ (j := j) J J J J om om J) J <| aW (oStTi J J J gG om J) ?_
 refine Wn <| aF <| Ck [2,4,7,8,10,11,12,23,24,25,40,41,42] J <| aI (z := 2) J <| aA (cI (((j + 1 : Nat) : Int)) (aR J J om) om) J <| Um J J <| Wn <| aE ?_
 have ex : (fun i => if i = j then true else (mixf (gx ss pl ins goal kk) (gx ss pl ins goal (kk + 1)) j) i) = (mixf (gx ss pl ins goal kk) (gx ss pl ins goal (kk + 1)) (j + 1)) := by rw [gV, show (gx ss pl ins goal (kk + 1)) j = true from gs_d om h42 (pk_yes h38)]; rfl
 have ec : (fset (mixf (gc ss pl ins goal kk) (gc ss pl ins goal (kk + 1)) j) j (pk (ss.getD j default) pl (okc ins (gx ss pl ins goal kk)))) = (mixf (gc ss pl ins goal kk) (gc ss pl ins goal (kk + 1)) (j + 1)) := by rw [gV, show (gc ss pl ins goal (kk + 1)) j = pk (ss.getD j default) pl (okc ins (gx ss pl ins goal kk)) from nc_e h32 om h42 (pk_yes h38) om]
 refine ⟨j + 1, ⟨J, J, J, J, J, J, J, J, J, J, trivial⟩, ⟨gG, fE gG (congrArg (fun z => Ob.mk (sb z) 40 130 0) ex), fE gG (congrArg (fun z => Ob.mk ((tab ss.length z).map ic).flatten 1 3 0) ec), gG, gG, gG, eH hnd (by intro q o hq; have := hlt q o hq; repeat (first | exact hq | refine g1 om ?_))⟩, ⟨om, om⟩, by show ss.length - (j + 1) < ss.length - j; omega⟩
end Go.Proofs.Ytcblgjaomljikaa
namespace Go.Proofs.Ytcblgjaomljikaa
open Go.Ab Go.RowKit
theorem lM (k : Nat) (ss : List Go.Ab.ST) (goal : Nat → Bool) (pl : Int) (g : FuncId) (ins : Nat → Bool) (hwt : WT ss) (hl : ∀ x, x ∈ ss → x.2.2.length < 1000000 ∧ ∀ c, c ∈ x.2.2 → c.2.2.length < 1000000) (hrun : ∀ z : Int, 0 ≤ z → z < 40 → Run Try.prog T E0 (.call g [.v (.int .i64 z)] (.v (.bool (ins z.toNat))))) :
  Run Try.prog T E0 (.call 148 [lvMo k ss, lvS goal, .v (.int .i64 pl), .fn (.func g) [] []] (.tup [lvS (gX ss pl ins goal), lvG 1 ss.length (gC ss pl ins goal)])) := by
 refine aZ Try.func148 J J (cW J) <| (gK 0 [] k ss goal pl g [] [] [] ins trivial (by intro q o hq; simp [getH] at hq) (by intro q hq; simp at hq) (fun H' S' _ _ => ⟨.nil, fL⟩) hwt hl (fun z h0 h1 => hrun z h0 h1)).mono ?_
 rintro x e h n ⟨hx, q0, hr, hq, _, _, _⟩
 exact postA [(q0, { cells := ((tab ss.length (gC ss pl ins goal)).map ic).flatten, sz := 1, elem := (3), st := 1 })] hx hr (.data dW (.own ((tab ss.length (gC ss pl ins goal)).map ic) (by rw [List.length_map, bX]) hq (by show (0 : Nat) ≠ 2; decide) J (by decide) (by simp [keys]) J rS (cD iZ) .nil)) (by intro p hp; rw [List.mem_singleton] at hp; subst hp; exact ⟨_, hq, by show (0 : Nat) ≠ 2; decide, rfl⟩)
theorem can_run (k kl : Nat) (ss : List Go.Ab.ST) (l : List Int) (pl : Int) (hV : VM1 ss) (hS : VSet ss.length l = true) (ll : l.length < 1099511627776) : Run Try.prog T E0 (.call 73 [lvMo k ss, lvL kl l, .v (.int .i64 pl)] (.tup [lvL (kd (fl ss.length (gX ss pl (fun _ => true) (inL l))).length) (fl ss.length (gX ss pl (fun _ => true) (inL l))), lvG 1 ss.length (gC ss pl (fun _ => true) (inL l))])) := by
 have hn40 := hV.wt.len
 have hgl : ∀ s, inL l s = true → s < ss.length := fun s hs => lP hS hs
 have hl : ∀ x, x ∈ ss → x.2.2.length < 1000000 ∧ ∀ c, c ∈ x.2.2 → c.2.2.length < 1000000 := fun x hx => ⟨by have := hV.cs x hx; omega, fun c hc => by have := hV.bs x hx c hc; omega⟩
 refine aZ Try.func73 J J (cW J) <| Rg 3 J <| bB (dY J J) J <| Ua J J <| Ua J J <| Wn <| cH (z := 11) J kR <| aO (aL (l := lvMo k ss) J J (by repeat (first | exact g0 | refine g1 (by decide) ?_)) J J) J ?_
 refine Dm J J <| aO (aN J (gQ kl ss.length l hn40 hS ll) dD) J <| Dm J J <| aO (aN J (lM k ss (inL l) (pl) 149 (fun _ => true) hV.wt hl (fun z _ _ => kG z)) (bG (by intro c hc; simp only [List.mem_cons, List.not_mem_nil, or_false] at hc; rcases hc with rfl | rfl | rfl | rfl; exact dW; exact dW; exact .v _; exact nY d0 d0))) J <| Dm J J <| aO (cS J J) J <| aO (cS J J) J <| WD.S (jB J J J) J <| dQ (jS J J J g0 (cO _) J) <| aO (fZ J) J <| bY (bH kR) J <| Ck [3,8,9] J <| Rg 7 J <| aA (bD J J J J J) J <| aA (aL J J (by repeat (first | exact g0 | refine g1 (by decide) ?_)) J J) J ?_
 refine aA (bC J J) J <| bB (lT [.ro (sb (gX ss pl (fun _ => true) (inL l))), .v (.int .i64 (ss.length : Int))] [(0 + 3 + 8, { cells := sb (gX ss pl (fun _ => true) (inL l)), sz := 40, elem := (130), st := 1 })] J (list_run ss.length (gX ss pl (fun _ => true) (inL l)) hn40) (SnapB.toA (.box (ob := { cells := sb (gX ss pl (fun _ => true) (inL l)), sz := 40, elem := (130), st := 0 }) (by repeat (first | exact g0 | refine g1 (by decide) ?_)) (by simp [keys]) (by show (0 : Nat) ≠ 2; decide) (dG _) (.data (.v _) .nil))) (by intro p hp; rw [List.mem_singleton] at hp; subst hp; exact ⟨_, (by repeat (first | exact g0 | refine g1 (by decide) ?_)), by show (0 : Nat) ≠ 2; decide, rfl⟩)) J ?_
 refine Um J J <| Ua J J <| Ua J J <| Wn <| aK <| post (n := 0) (.inr J) J ?_ dD
 rfl
theorem must_lt {n a b : Nat} {o1 o2 o3 : Ob} (hn : a < n ∧ b < n ∧ 0 < n) : ∀ q o, getH [(a, o1), (b, o2), (0, o3)] q = some o → q < n + 11 := by
 intro q o hq
 by_cases h1 : a = q
 ·omega
 ·rw [g1 h1 rfl] at hq
  by_cases h2 : b = q
  ·omega
  ·rw [g1 h2 rfl] at hq
   by_cases h3 : 0 = q
   ·omega
   ·rw [g1 h3 rfl] at hq; simp [getH] at hq
theorem must_cap {H' : Hp} {S' : List Nat} {a b : Nat} {f g : Nat → Bool} (h1 : getH H' a = some { cells := sb (f), sz := 40, elem := (130), st := 0 }) (h2 : getH H' b = some { cells := sb (g), sz := 40, elem := (130), st := 0 }) (hS : ∀ q, q ∈ [a, b] → q ∈ S') : SnapB H' S' [.ptr a 0, .ptr b 0] [.ro (sb f), .ro (sb g)] ∧ Lent H' [a, b] :=
 ⟨.box (ob := { cells := sb (f), sz := 40, elem := (130), st := 0 }) h1 (hS _ (by simp)) (by show (0 : Nat) ≠ 2; decide) (dG _) (.box (ob := { cells := sb (g), sz := 40, elem := (130), st := 0 }) h2 (hS _ (by simp)) (by show (0 : Nat) ≠ 2; decide) (dG _) .nil), .cons h1 (by show (0 : Nat) ≠ 2; decide) (.cons h2 (by show (0 : Nat) ≠ 2; decide) fL)⟩
theorem must_run (k kl : Nat) (ss : List Go.Ab.ST) (l : List Int) (pl : Int) (hV : VM1 ss) (hS : VSet ss.length l = true) (ll : l.length < 1099511627776) : Run Try.prog T E0 (.call 74 [lvMo k ss, lvL kl l, .v (.int .i64 pl)] (.tup [lvL (kd (fl ss.length (mX ss pl (inL l))).length) (fl ss.length (mX ss pl (inL l))), lvG 1 ss.length (mC ss pl (inL l))])) := by
 have hn40 := hV.wt.len
 have hgl : ∀ s, inL l s = true → s < ss.length := fun s hs => lP hS hs
 have hl : ∀ x, x ∈ ss → x.2.2.length < 1000000 ∧ ∀ c, c ∈ x.2.2 → c.2.2.length < 1000000 := fun x hx => ⟨by have := hV.cs x hx; omega, fun c hc => by have := hV.bs x hx c hc; omega⟩
 refine aZ Try.func74 J J (cW J) <| Rg 3 J <| bB (dY J J) J <| Ua J J <| Ua J J <| Wn <| Rg 1 J <| bB (jB J J J) J <| Wn <| aC <| Rg 4 J <| aA (bD J J J J J) J <| aA (aL J J (by repeat (first | exact g0 | refine g1 (by decide) ?_)) J J) J ?_
 refine aA (bC J J) J <| Um J J <| Wn <| aJ <| aY (α := Nat) (fun i => [(1, lvL kl l), (2, .v (.int .i64 pl)), (3, .ptr 0 0), (8, .ptr (0 + 3) 0), (15, .v (.int .i64 (ss.length : Int))), (16, .v (.int .i64 (i : Int)))]) (fun i => [((0 + 3), { cells := sb (fun s => decide (s < i)), sz := 40, elem := (130), st := 0 }), (0, { cells := [.sl k (ss.map stc)], sz := 1, elem := (26), st := 0 })]) (fun i n => i ≤ ss.length ∧ 4 ≤ n) (fun i => ss.length - i) (0) ⟨J, J, J, J, J, J, trivial⟩ ⟨g0.trans (by exact sb_F fun i => decide_eq_false om), g1 (by decide) g0, trivial⟩ ⟨Nat.zero_le _, om⟩ ?_
 rintro i n hF
 change WC _ _ _ _ _ (_ :: _) (_ :: _) n _
 obtain ⟨hi, hn⟩ := hF
 obtain ⟨nK, hnK⟩ : ∃ z, z = n := ⟨n, rfl⟩
 subst hnK
 refine Rg 1 J <| aA (cC J J) J <| bF (fun h17 => ?_) (fun h17 => ?_)
 ·refine Wn <| aS J <| aG <| aJ <| Rg 2 J <| Um J J <| Ua J J <| Wn <| aI (z := 3) J <| Um J J <| aA (oIxA (j := i) J J J J om om) J <| aW (oStB om J J J gG J) ?_
  refine Wn <| aF <| aI (z := 2) J <| aA (cI (((i + 1 : Nat) : Int)) (aR J J om) om) J <| Um J J <| Wn <| aE <| ⟨i + 1, ⟨J, J, J, J, J, J, trivial⟩, ⟨fE g0 (congrArg (fun z => Ob.mk (sb z) 40 130 0) (nV i)), gG, trivial⟩, ⟨om, om⟩, by show ss.length - (i + 1) < ss.length - i; omega⟩
 refine Wn <| aU J <| bA <| aP <| aQ J ?_
 have hin : i = ss.length := by omega
 subst hin
 refine Rg 4 J <| Um J J <| aA (aN J (gQ kl ss.length l hn40 hS ll) dD) J <| bB (jB J J J) J <| aW (jS J J J g0 (cO _) J) <| Wn <| cM <| aY (α := Nat) (fun kk => [(2, .v (.int .i64 pl)), (3, .ptr 0 0), (8, .ptr (0 + 3) 0), (10, .ptr (nK + 1 + 2) 0)]) (fun kk => [((0 + 3), { cells := sb ((mi ss pl (inL l) kk)), sz := 40, elem := (130), st := 0 }), ((nK + 1 + 2), { cells := sb (inL l), sz := 40, elem := (130), st := 0 }), (0, { cells := [.sl k (ss.map stc)], sz := 1, elem := (26), st := 0 })]) (fun kk n => kk + (fl ss.length (mi ss pl (inL l) kk)).length ≤ ss.length ∧ nK + 4 ≤ n) (fun kk => (fl ss.length (mi ss pl (inL l) kk)).length) (0) ⟨J, J, J, J, trivial⟩ ⟨gG, gG, gG, trivial⟩ ⟨by show 0 + (fl ss.length fun s => decide (s < ss.length)).length ≤ _; rw [fl_all]; omega, om⟩ ?_
 rintro kk n hF
 change WC _ _ _ _ _ (_ :: _) (_ :: _) n _
 obtain ⟨hk, hn2⟩ := hF
 have hn : 0 + 3 < n ∧ nK + 1 + 2 < n ∧ 0 < n := by omega
 refine cM <| eI (z := 11) J <| bN (aL (l := lvMo k ss) J J gG J J) J ?_
 refine bN (kV J J gG J J J) J ?_
 refine bN (dF J) J <| bN (oMf J) J <| WN.G (ls := [lvMo k ss, lvS (inL l), .v (.int .i64 pl), .fn (.func 151) [] [.ptr (0 + 3) 0, .ptr (nK + 1 + 2) 0]]) (Φ := fun r h' n' => ∃ q0, r = .tup [lvS (gX ss pl (fun s => mi ss pl (inL l) kk s || inL l s) (inL l)), .ref q0 1 0 ss.length] ∧ getH h' q0 = some { cells := ((tab ss.length (gC ss pl (fun s => mi ss pl (inL l) kk s || inL l s) (inL l))).map ic).flatten, sz := 1, elem := (3), st := 0 } ∧ n + 11 ≤ q0 ∧ n + 11 ≤ n' ∧ ∀ q o, getH [((0 + 3), { cells := sb ((mi ss pl (inL l) kk)), sz := 40, elem := (130), st := 0 }), ((nK + 1 + 2), { cells := sb (inL l), sz := 40, elem := (130), st := 0 }), (0, { cells := [.sl k (ss.map stc)], sz := 1, elem := (26), st := 0 })] q = some o → getH h' q = some o) J Try.func148 J J (cW J) J ((gK (n + 11) [((0 + 3), { cells := sb ((mi ss pl (inL l) kk)), sz := 40, elem := (130), st := 0 }), ((nK + 1 + 2), { cells := sb (inL l), sz := 40, elem := (130), st := 0 }), (0, { cells := [.sl k (ss.map stc)], sz := 1, elem := (26), st := 0 })] k ss (inL l) pl 151 [.ptr (0 + 3) 0, .ptr (nK + 1 + 2) 0] [.ro (sb (mi ss pl (inL l) kk)), .ro (sb (inL l))] [(0 + 3), (nK + 1 + 2)] (fun s => mi ss pl (inL l) kk s || inL l s) ⟨gG, gG, gG, trivial⟩ (must_lt hn) (by intro q hq; simp only [List.mem_cons, List.not_mem_nil, or_false] at hq; omega) (fun H' S' hH hSS => must_cap (hH _ _ gG) (hH _ _ gG) hSS) hV.wt hl (fun z h0 h1 => pX _ _ z h0 h1)).mono (by rintro x e h n' ⟨hx, q0, hr, hq, h1, _, h2, h3⟩; exact ⟨hx, _, hr, q0, rfl, hq, h1, h2, h3⟩)) ?_
 rintro r' h' n' ⟨q0, rfl, hq0, hb, hn', hH⟩
 refine WN.weakM [(q0, { cells := ((tab ss.length (gC ss pl (fun s => mi ss pl (inL l) kk s || inL l s) (inL l))).map ic).flatten, sz := 1, elem := (3), st := 0 }), ((0 + 3), { cells := sb ((mi ss pl (inL l) kk)), sz := 40, elem := (130), st := 0 }), ((nK + 1 + 2), { cells := sb (inL l), sz := 40, elem := (130), st := 0 }), (0, { cells := [.sl k (ss.map stc)], sz := 1, elem := (26), st := 0 })] ⟨hq0, hH _ _ gG, hH _ _ gG, hH _ _ gG, trivial⟩ ?_
 refine bN (dF J) J <| bN (cS J J) J <| bN (cS J J) J <| WN.S (jB J J J) J <| WN.S0 (jS J J J g0 (cO _) J) <| bN (fZ J) J <| fD <| aC <| Rg 3 J <| aA (kV J J gG J J J) J ?_
 refine aA (kV J J gG J J J) J ?_
 refine aA (rJ J J J J J J) J <| dH (fun h34 => ?_) (fun h34 => ?_)
 rotate_left
 ·refine Nk [2,3,8,10,11,12,34] J <| aU J <| aG <| aI (z := 2) J <| aA (kV J J gG J J J) J ?_
  refine aW (jS J J J gG (cO _) J) ?_
  refine Wn <| dE <| aE ?_
  have hd := mi_dec (p := pl) hgl hn40 h34
  refine ⟨kk + 1, ⟨J, J, J, J, trivial⟩, ⟨gG, gG, gG, trivial⟩, ⟨om, om⟩, by show (fl ss.length (mi ss pl (inL l) (kk + 1))).length < (fl ss.length (mi ss pl (inL l) kk)).length; exact hd⟩
 refine Nk [2,3,8,10,11,12,34] J <| aS J <| aC <| Rg 7 J <| aA (bD J J J J J) J <| aA (aL J J gG J J) J ?_
 refine aA (bC J J) J <| bB (lT [.ro (sb (gX ss pl (fun s => mi ss pl (inL l) kk s || inL l s) (inL l))), .v (.int .i64 (ss.length : Int))] [(n + 8, { cells := sb (gX ss pl (fun s => mi ss pl (inL l) kk s || inL l s) (inL l)), sz := 40, elem := (130), st := 1 })] J (list_run ss.length (gX ss pl (fun s => mi ss pl (inL l) kk s || inL l s) (inL l)) hn40) (SnapB.toA (.box (ob := { cells := sb (gX ss pl (fun s => mi ss pl (inL l) kk s || inL l s) (inL l)), sz := 40, elem := (130), st := 0 }) gG (by simp [keys]) (by show (0 : Nat) ≠ 2; decide) (dG _) (.data (.v _) .nil))) (by intro p hp; rw [List.mem_singleton] at hp; subst hp; exact ⟨_, gG, by show (0 : Nat) ≠ 2; decide, rfl⟩)) J ?_
 refine Um J J <| Ua J J <| Ua J J <| Wn <| bE <| dM <| bJ <| dM ?_
 obtain ⟨e1, e2⟩ := mX_of (p := pl) hgl hn40 hk h34
 rw [e1, e2]
 exact postA (n := 0) [(q0, { cells := ((tab ss.length (mC ss pl (inL l))).map ic).flatten, sz := 1, elem := (3), st := 1 })] (.inr J) J (.data dW (.own ((tab ss.length (mC ss pl (inL l))).map ic) (by rw [List.length_map, bX]) gG (by show (0 : Nat) ≠ 2; decide) J (by decide) (by simp [keys]) J rS (cD iZ) .nil)) (by intro p hp; rw [List.mem_singleton] at hp; subst hp; exact ⟨_, gG, by show (0 : Nat) ≠ 2; decide, rfl⟩)
end Go.Proofs.Ytcblgjaomljikaa
namespace Go.Proofs.Ytcblgjaomljikaa
open Go.Ab Go.RowKit
theorem shun_run (k kl : Nat) (ss : List Go.Ab.ST) (l : List Int) (pl : Int) (hp : pl = 0 ∨ pl = 1) (hV : VM1 ss) (hS : VSet ss.length l = true) (ll : l.length < 1099511627776) : Run Try.prog T E0 (.call 75 [lvMo k ss, lvL kl l, .v (.int .i64 pl)] (.tup [lvL (kd (fl ss.length (fun s => !sX ss pl (inL l) s)).length) (fl ss.length (fun s => !sX ss pl (inL l) s)), lvG 1 ss.length (sC ss pl (inL l))])) := by
 have hn40 := hV.wt.len
 have hgl : ∀ s, inL l s = true → s < ss.length := fun s hs => lP hS hs
 have hl : ∀ x, x ∈ ss → x.2.2.length < 1000000 ∧ ∀ c, c ∈ x.2.2 → c.2.2.length < 1000000 := fun x hx => ⟨by have := hV.cs x hx; omega, fun c hc => by have := hV.bs x hx c hc; omega⟩
 refine aZ Try.func75 J J (cW J) <| Rg 3 J <| bB (dY J J) J <| Ua J J <| Ua J J <| Wn <| cH (z := 12) J kR <| aO (aL (l := lvMo k ss) J J (by repeat (first | exact g0 | refine g1 (by decide) ?_)) J J) J ?_
 refine Dm J J <| aO (aN J (gQ kl ss.length l hn40 hS ll) dD) J <| Dm J J <| aO (cI ((1 - pl)) (cV J J om) J) J <| aO (aN J (lM k ss (inL l) (1 - pl) 149 (fun _ => true) hV.wt hl (fun z _ _ => kG z)) (bG (by intro c hc; simp only [List.mem_cons, List.not_mem_nil, or_false] at hc; rcases hc with rfl | rfl | rfl | rfl; exact dW; exact dW; exact .v _; exact nY d0 d0))) J <| Dm J J <| aO (cS J J) J <| aO (cS J J) J <| WD.S (jB J J J) J <| dQ (jS J J J g0 (cO _) J) <| aO (fZ J) J <| bY (bH kR) J <| Ck [2,3,8] J <| Rg 5 J <| aA (bD J J J J J) J <| aA (aL J J (by repeat (first | exact g0 | refine g1 (by decide) ?_)) J J) J ?_
 refine aA (bC J J) J <| bB (oMk (a := ss.length) (b := ss.length) J J J J (by simp) (by simp) (by decide) om (by show 8 * ss.length ≤ _; omega) om) J <| Ua J J <| Wn <| aC <| Rg 4 J <| aA (bD J J J J J) J <| aA (aL J J gG J J) J ?_
 refine aA (bC J J) J <| Um J J <| Wn <| aJ <| aY (α := Nat) (fun i => [(2, .v (.int .i64 pl)), (3, .ptr 0 0), (8, .ptr (0 + 3 + 9) 0), (10, .ref (0 + 3 + 12 + 3) 1 0 ss.length), (27, .sl k (ss.map stc)), (28, .v (.int .i64 (ss.length : Int))), (29, .v (.int .i64 (i : Int)))]) (fun i => [((0 + 3 + 12 + 3), { cells := ((tab ss.length ((mixf (fun _ => (0 : Int)) (sC ss pl (inL l)) i))).map ic).flatten, sz := 1, elem := (3), st := 0 }), ((0 + 3 + 9), { cells := sb ((sX ss pl (inL l))), sz := 40, elem := (130), st := 0 }), (0, { cells := [.sl k (ss.map stc)], sz := 1, elem := (26), st := 0 })]) (fun i n => i ≤ ss.length ∧ 19 ≤ n) (fun i => ss.length - i) (0) ⟨J, J, J, J, J, J, J, trivial⟩ ⟨fE gG (by exact lZ fun i => rfl), gG, gG, trivial⟩ ⟨Nat.zero_le _, om⟩ ?_
 rintro i n hF
 change WC _ _ _ _ _ (_ :: _) (_ :: _) n _
 obtain ⟨hi, hn⟩ := hF
 refine Rg 1 J <| aA (cC J J) J <| bF (fun h30 => ?_) (fun h30 => ?_)
 rotate_left
 ·refine Wn <| aU J <| bA <| aP <| aQ J <| Rg 8 J <| aA (bD J J J J J) J <| aA (aL J J gG J J) J ?_
  refine aA (bC J J) J <| aA (oMf J) J <| bB (lT [.v (.int .i64 (ss.length : Int)), .fn (.func 156) [] [.ro (sb (sX ss pl (inL l)))]] [((0 + 3 + 9), { cells := sb ((sX ss pl (inL l))), sz := 40, elem := (130), st := 1 })] J (oJ ss.length 156 [] [.ro (sb (sX ss pl (inL l)))] (fun s => !(sX ss pl (inL l)) s) hn40 d0 (dro _) (fun s hs => qF (sX ss pl (inL l)) (s : Int) om om)) (SnapB.toA (.data (.v _) (.fn .nil (.box (ob := { cells := sb ((sX ss pl (inL l))), sz := 40, elem := (130), st := 0 }) gG (by simp [keys]) (by show (0 : Nat) ≠ 2; decide) (dG _) .nil) .nil))) (by intro p hp; rw [List.mem_singleton] at hp; subst hp; exact ⟨_, gG, by show (0 : Nat) ≠ 2; decide, rfl⟩)) J ?_
  refine Um J J <| Ua J J <| Ua J J <| Nk [6,7] J <| aK ?_
  have hin : i = ss.length := by omega
  have ec : tab ss.length (mixf (fun _ => (0 : Int)) (sC ss pl (inL l)) i) = tab ss.length (sC ss pl (inL l)) := by rw [hin]; exact tab_eq fun s hs => by unfold mixf; rw [if_pos hs]
  exact postA (n := 0) [((0 + 3 + 12 + 3), { cells := ((tab ss.length (sC ss pl (inL l))).map ic).flatten, sz := 1, elem := (3), st := 1 })] (.inr J) J (.data dW (.own ((tab ss.length (sC ss pl (inL l))).map ic) (by rw [List.length_map, bX]) (fE gG (by rw [ec])) (by show (0 : Nat) ≠ 2; decide) J (by decide) (by simp [keys]) J rS (cD iZ) .nil)) (by intro p hp; rw [List.mem_singleton] at hp; subst hp; exact ⟨_, (fE gG (by rw [ec])), by show (0 : Nat) ≠ 2; decide, rfl⟩)
 refine Wn <| aS J <| aG <| aJ ?_
 have hm := bO (us := ss) (i := i) om
 refine Rg 6 J <| Um J J <| aA (cK J J J J J om J) J <| aA (dX (l := .agg (stc (ss.getD i default))) J J J) J <| bB (fN J) J <| Ua J J <| aW (dA (cs' := stc (ss.getD i default)) J J J g0 J J J J) <| Wn <| Rg 10 J <| Um J J <| aA (oIxA (j := i) J J J J om om) J <| aA (oLdB (f := (sX ss pl (inL l))) om J J J gG J (fun _ _ => rfl)) J ?_
 refine dH (fun h36 => ?_) (fun h36 => ?_)
 ·refine aA (dV J) J <| Um J J <| K1 J J <| K1 J J <| K1 J J <| K1 J J <| aA (bZ J J) J <| Nk [2,3,8,10,11,12,27,28,29,39,40,41,42,43] J <| bT J <| bR <| aF <| aI (z := 2) J <| aA (cI (((i + 1 : Nat) : Int)) (aR J J om) om) J <| Um J J <| Wn <| aE ?_
  have ec : (mixf (fun _ => (0 : Int)) (sC ss pl (inL l)) i) = (mixf (fun _ => (0 : Int)) (sC ss pl (inL l)) (i + 1)) := (dJ (f := fun _ => (0 : Int)) (f' := (sC ss pl (inL l))) (show (sC ss pl (inL l)) i = 0 from if_neg (fun h => by rw [h36] at h; cases h.1))).symm
  refine ⟨i + 1, ⟨J, J, J, J, J, J, J, trivial⟩, ⟨fE gG (congrArg (fun z => Ob.mk ((tab ss.length z).map ic).flatten 1 3 0) ec), gG, gG, trivial⟩, ⟨om, om⟩, by show ss.length - (i + 1) < ss.length - i; omega⟩
 refine aA (dV J) J <| Um J J <| aH J (bD J J J J J) J <| aH J (aL J J gG J J) J ?_
 refine aH J (dF J) J <| aH J (fF J J) J <| bF (fun h42 => ?_) (fun h42 => ?_)
 rotate_left
 ·refine aA (bS J J) J <| Nk [2,3,8,10,11,12,27,28,29,39,40,41,42,43] J <| bT J <| bR <| aF <| aI (z := 2) J <| aA (cI (((i + 1 : Nat) : Int)) (aR J J om) om) J <| Um J J <| Wn <| aE ?_
  have ec : (mixf (fun _ => (0 : Int)) (sC ss pl (inL l)) i) = (mixf (fun _ => (0 : Int)) (sC ss pl (inL l)) (i + 1)) := (dJ (f := fun _ => (0 : Int)) (f' := (sC ss pl (inL l))) (show (sC ss pl (inL l)) i = 0 from if_neg (fun h => absurd h.2 om))).symm
  refine ⟨i + 1, ⟨J, J, J, J, J, J, J, trivial⟩, ⟨fE gG (congrArg (fun z => Ob.mk ((tab ss.length z).map ic).flatten 1 3 0) ec), gG, gG, trivial⟩, ⟨om, om⟩, by show ss.length - (i + 1) < ss.length - i; omega⟩
 refine aA (bS J J) J <| Nk [2,3,8,10,11,12,27,28,29,39,40,41,42,43] J <| cA J <| aI (z := 8) J <| Um J J <| Um J J <| aA (bD J J J J J) J <| aA (aL J J gG J J) J ?_
 refine aA (oMf J) J <| aA (eR [(0 + 3 + 9)] [.sl (ss.getD i default).2.1 ((ss.getD i default).2.2.map chc), .fn (.func 153) [] [.ro (sb (sX ss pl (inL l)))]] J (kT (ss.getD i default).2.1 (ss.getD i default).2.2 153 [.ro (sb (sX ss pl (inL l)))] (fun c => !me c (sX ss pl (inL l))) (dro _) (by have := (hl _ hm).1; omega) (fun c hc => qE c (sX ss pl (inL l)) (fun b hb => to40 hV.wt hm hc hb) (by have := (hl _ hm).2 c hc; omega))) (.data (.sl _ _ fun row hr => dchc row hr) (.fn .nil (.box (ob := { cells := sb ((sX ss pl (inL l))), sz := 40, elem := (130), st := 0 }) gG (by simp) (by show (0 : Nat) ≠ 2; decide) (dG _) .nil) .nil)) (.cons gG (by show (0 : Nat) ≠ 2; decide) fL)) J ?_
 refine aA (cZ (j := i) J J J J om om J) J <| aW (oStTi J J J gG om J) ?_
 refine Wn <| aF <| Ck [2,3,8,10,27,28,29,39,40,41,42] J <| aI (z := 2) J <| aA (cI (((i + 1 : Nat) : Int)) (aR J J om) om) J <| Um J J <| Wn <| aE ?_
 have ec : (fset (mixf (fun _ => (0 : Int)) (sC ss pl (inL l)) i) i (fidx (fun c => !me c (sX ss pl (inL l))) (ss.getD i default).2.2)) = (mixf (fun _ => (0 : Int)) (sC ss pl (inL l)) (i + 1)) := by rw [gV, show (sC ss pl (inL l)) i = fidx (fun c => !me c (sX ss pl (inL l))) (ss.getD i default).2.2 from if_pos ⟨h36, om⟩]
 refine ⟨i + 1, ⟨J, J, J, J, J, J, J, trivial⟩, ⟨fE gG (congrArg (fun z => Ob.mk ((tab ss.length z).map ic).flatten 1 3 0) ec), gG, gG, trivial⟩, ⟨om, om⟩, by show ss.length - (i + 1) < ss.length - i; omega⟩
theorem pL (k kl : Nat) (ss : List Go.Ab.ST) (l : List Int) (pl : Int) (hI : ∀ s, s ∈ ss → IS s) (ll : l.length < 1099511627776) : Run Try.prog T E0 (.call 147 [lvMo k ss, lvL kl l, .v (.int .i64 pl)] (.v (.int .i64 (eA ss l pl)))) := by
 refine aZ Try.func147 J J (cW J) <| Rg 2 J <| bB (dY J J) J <| Ua J J <| Wn <| aJ <| Rg 10 J <| aA (aL (l := lvMo k ss) J J (by repeat (first | exact g0 | refine g1 (by decide) ?_)) J J) J ?_
 refine aA (aN J (mJ k ss hI) dD) J <| dH (fun h9 => ?_) (fun h9 => ?_)
 rotate_left
 ·refine aA (dV J) J <| Um J J <| K1 J J <| K1 J J <| K1 J J <| K1 J J <| aA (bS J J) J <| Ua J J <| Nk [2,7] J <| cA J <| Rg 1 J <| Ua J J <| Wn <| aK <| aM <| post (n := 0) (.inr J) J ?_ dD
  exact congrArg (fun z => LV.v (.int .i64 z)) (show 1 = eA ss l pl by unfold eA; rw [if_neg (fun h => by rw [h9] at h; cases h.1)])
 refine aA (dV J) J <| Um J J <| aH J (aL (l := lvMo k ss) J J (by repeat (first | exact g0 | refine g1 (by decide) ?_)) J J) J ?_
 refine aH J (dF J) J <| aH J (aN J (oL k kl ss l ll) dD) J <| dH (fun h14 => ?_) (fun h14 => ?_)
 rotate_left
 ·refine aH J (dV J) J <| aA (bZ J J) J <| Ua J J <| Nk [2,7] J <| cA J <| Rg 1 J <| Ua J J <| Wn <| aK <| aM <| post (n := 0) (.inr J) J ?_ dD
  exact congrArg (fun z => LV.v (.int .i64 z)) (show 1 = eA ss l pl by unfold eA; rw [if_neg (fun h => by rw [h14] at h; cases h.2)])
 refine aH J (dV J) J <| aA (bZ J J) J <| Ua J J <| Nk [2,7] J <| bT J <| Rg 7 J <| Um J J <| aA (cC J J) J <| bF (fun h19 => ?_) (fun h19 => ?_)
 ·refine Um J J <| K1 J J <| K1 J J <| aA (bS J J) J <| Ua J J <| Wn <| cA J <| Rg 1 J <| Ua J J <| Wn <| aK <| aM <| post (n := 0) (.inr J) J ?_ dD
  exact congrArg (fun z => LV.v (.int .i64 z)) (show 6 = eA ss l pl by unfold eA; rw [if_pos ⟨h9, h14⟩, if_neg om])
 refine Um J J <| aH J (dF J) J <| aH J (gE J J) J <| bF (fun h22 => ?_) (fun h22 => ?_)
 ·refine aA (bZ J J) J <| Ua J J <| Wn <| cA J <| Rg 1 J <| Ua J J <| Wn <| aK <| aM <| post (n := 0) (.inr J) J ?_ dD
  exact congrArg (fun z => LV.v (.int .i64 z)) (show 6 = eA ss l pl by unfold eA; rw [if_pos ⟨h9, h14⟩, if_neg om])
 refine aA (bZ J J) J <| Ua J J <| Wn <| bT J <| bR <| aF <| Rg 1 J <| Ua J J <| Wn <| aK <| post (n := 0) (.inr J) J ?_ dD
 exact congrArg (fun z => LV.v (.int .i64 z)) (show 0 = eA ss l pl by unfold eA; rw [if_pos ⟨h9, h14⟩, if_pos om])
theorem oY (k kl : Nat) (ss : List Go.Ab.ST) (l : List Int) (pl : Int) (f : FuncId) (a b : LV) (da : Go.Ab.Data a) (db : Go.Ab.Data b) (hI : ∀ s, s ∈ ss → IS s) (ll : l.length < 1099511627776) (hby : eA ss l pl = 0 → Run Try.prog T E0 (.call f [lvMo k ss, lvL kl l, .v (.int .i64 pl)] (.tup [a, b]))) : Run Try.prog T E0 (.call 72 [lvMo k ss, lvL kl l, .v (.int .i64 pl), .fn (.func f) [] []] (.tup (if eA ss l pl = 0 then [a, b, .v (.int .i64 0)] else [.sl 0 [], .sl 0 [], .v (.int .i64 (eA ss l pl))]))) := by
 refine aZ Try.func72 J J (cW J) <| Rg 4 J <| bB (dY J J) J <| Ua J J <| Ua J J <| Ua J J <| Wn <| aC <| Rg 5 J <| aA (aL (l := lvMo k ss) J J (by repeat (first | exact g0 | refine g1 (by decide) ?_)) J J) J ?_
 refine Um J J <| Um J J <| aA (aN J (pL k kl ss l pl hI ll) dD) J <| Ua J J <| Wn <| aC <| Rg 2 J <| Um J J <| aA (iO J J) J <| bF (fun h19 => ?_) (fun h19 => ?_)
 ·refine Nk [1,2,3,4,11,19] J <| aS J <| aC <| Rg 4 J <| Um J J <| Ua J J <| Ua J J <| Ua J J <| Wn <| bE ?_
  rw [if_neg (show ¬ eA ss l pl = 0 by omega)]
  refine post (n := 0) (.inr J) J ?_ dD
  rfl
 refine Nk [1,2,3,4,11,19] J <| aU J <| aG <| Rg 10 J <| Um J J <| aA (aL (l := lvMo k ss) J J (by repeat (first | exact g0 | refine g1 (by decide) ?_)) J J) J ?_
 refine Um J J <| Um J J <| aA (eP J J (hby om) (iS d0 (by intro c hc; simp only [List.mem_cons, List.not_mem_nil, or_false] at hc; rcases hc with rfl | rfl | rfl; exact dW; exact dW; exact .v _) d0)) J <| Um J J <| aA (cS J J) J <| aA (cS J J) J <| Ua J J <| Ua J J <| Nk [12,13] J <| Rg 5 J <| Um J J <| Um J J <| Ua J J <| Ua J J <| Ua J J <| Wn <| aK ?_
 rw [if_pos (show eA ss l pl = 0 by omega)]
 refine post (n := 0) (.inr J) J J (.tup _ ?_)
 intro c hc
 simp only [List.mem_cons, List.not_mem_nil, or_false] at hc
 rcases hc with rfl | rfl | rfl
 ·exact da
 ·exact db
 ·exact .v _
theorem dnil : Go.Ab.Data (.sl 0 []) := .sl _ _ (by intro row hr; simp at hr)
theorem pJ (k kl : Nat) (ss : List Go.Ab.ST) (l : List Int) (pl : Int) (hI : ∀ s, s ∈ ss → IS s) (ll : l.length < 1099511627776) : Run Try.prog T E0 (.call 72 [lvMo k ss, lvL kl l, .v (.int .i64 pl), .fn (.func 73) [] []] (.tup (if eA ss l pl = 0 then [lvL (kd (fl ss.length (gX ss pl (fun _ => true) (inL l))).length) (fl ss.length (gX ss pl (fun _ => true) (inL l))), lvG 1 ss.length (gC ss pl (fun _ => true) (inL l)), .v (.int .i64 0)] else [.sl 0 [], .sl 0 [], .v (.int .i64 (eA ss l pl))]))) :=
 oY k kl ss l pl 73 _ _ dW dW hI ll fun h => by
  unfold eA at h
  by_cases h1 : VMo ss = true ∧ VSet ss.length l = true
  ·rw [if_pos h1] at h
   by_cases h2 : pl = 0 ∨ pl = 1
   ·exact can_run k kl ss l pl (kA h1.1) h1.2 ll
   ·rw [if_neg h2] at h; cases h
  ·rw [if_neg h1] at h; cases h
theorem jU (k kl : Nat) (ss : List Go.Ab.ST) (l : List Int) (pl : Int) (hI : ∀ s, s ∈ ss → IS s) (ll : l.length < 1099511627776) : Run Try.prog T E0 (.call 17 [lvMo k ss, lvL kl l, .v (.int .i64 pl)] (.tup (if eA ss l pl = 0 then [lvL (kd (fl ss.length (gX ss pl (fun _ => true) (inL l))).length) (fl ss.length (gX ss pl (fun _ => true) (inL l))), lvG 1 ss.length (gC ss pl (fun _ => true) (inL l)), .v (.int .i64 0)] else [.sl 0 [], .sl 0 [], .v (.int .i64 (eA ss l pl))]))) := by
 refine aZ Try.func17 J J (cW J) <| Rg 4 J <| bB (dY J J) J <| Ua J J <| Ua J J <| Ua J J <| Wn <| Rg 10 J <| aA (aL (l := lvMo k ss) J J (by repeat (first | exact g0 | refine g1 (by decide) ?_)) J J) J ?_
 refine Um J J <| Um J J <| aA (bP (b := .tup [(if eA ss l pl = 0 then lvL (kd (fl ss.length (gX ss pl (fun _ => true) (inL l))).length) (fl ss.length (gX ss pl (fun _ => true) (inL l))) else .sl 0 []), (if eA ss l pl = 0 then lvG 1 ss.length (gC ss pl (fun _ => true) (inL l)) else .sl 0 []), .v (.int .i64 (eA ss l pl))]) (aN J (pJ k kl ss l pl hI ll) (bG (by intro c hc; simp only [List.mem_cons, List.not_mem_nil, or_false] at hc; rcases hc with rfl | rfl | rfl | rfl; exact dW; exact dW; exact .v _; exact nY d0 d0))) (by by_cases h : eA ss l pl = 0 <;> simp [h])) J <| aA (cS J J) J <| aA (cS J J) J <| aA (cS J J) J <| Ua J J <| Ua J J <| Ua J J <| Wn <| aK ?_
 rw [show (if eA ss l pl = 0 then [lvL (kd (fl ss.length (gX ss pl (fun _ => true) (inL l))).length) (fl ss.length (gX ss pl (fun _ => true) (inL l))), lvG 1 ss.length (gC ss pl (fun _ => true) (inL l)), .v (.int .i64 0)] else [.sl 0 [], .sl 0 [], .v (.int .i64 (eA ss l pl))]) = [(if eA ss l pl = 0 then lvL (kd (fl ss.length (gX ss pl (fun _ => true) (inL l))).length) (fl ss.length (gX ss pl (fun _ => true) (inL l))) else .sl 0 []), (if eA ss l pl = 0 then lvG 1 ss.length (gC ss pl (fun _ => true) (inL l)) else .sl 0 []), .v (.int .i64 (eA ss l pl))] by by_cases h : eA ss l pl = 0 <;> simp [h]]
 refine post (n := 0) (.inr J) J J (.tup _ ?_)
 intro c hc
 simp only [List.mem_cons, List.not_mem_nil, or_false] at hc
 rcases hc with rfl | rfl | rfl
 ·by_cases h : eA ss l pl = 0
  ·rw [if_pos h]; exact dW
  ·rw [if_neg h]; exact dnil
 ·by_cases h : eA ss l pl = 0
  ·rw [if_pos h]; exact dW
  ·rw [if_neg h]; exact dnil
 ·exact .v _
theorem sure_told (k kl : Nat) (ss : List Go.Ab.ST) (l : List Int) (pl : Int) (hI : ∀ s, s ∈ ss → IS s) (ll : l.length < 1099511627776) : Run Try.prog T E0 (.call 72 [lvMo k ss, lvL kl l, .v (.int .i64 pl), .fn (.func 74) [] []] (.tup (if eA ss l pl = 0 then [lvL (kd (fl ss.length (mX ss pl (inL l))).length) (fl ss.length (mX ss pl (inL l))), lvG 1 ss.length (mC ss pl (inL l)), .v (.int .i64 0)] else [.sl 0 [], .sl 0 [], .v (.int .i64 (eA ss l pl))]))) :=
 oY k kl ss l pl 74 _ _ dW dW hI ll fun h => by
  unfold eA at h
  by_cases h1 : VMo ss = true ∧ VSet ss.length l = true
  ·rw [if_pos h1] at h
   by_cases h2 : pl = 0 ∨ pl = 1
   ·exact must_run k kl ss l pl (kA h1.1) h1.2 ll
   ·rw [if_neg h2] at h; cases h
  ·rw [if_neg h1] at h; cases h
theorem pW (k kl : Nat) (ss : List Go.Ab.ST) (l : List Int) (pl : Int) (hI : ∀ s, s ∈ ss → IS s) (ll : l.length < 1099511627776) : Run Try.prog T E0 (.call 18 [lvMo k ss, lvL kl l, .v (.int .i64 pl)] (.tup (if eA ss l pl = 0 then [lvL (kd (fl ss.length (mX ss pl (inL l))).length) (fl ss.length (mX ss pl (inL l))), lvG 1 ss.length (mC ss pl (inL l)), .v (.int .i64 0)] else [.sl 0 [], .sl 0 [], .v (.int .i64 (eA ss l pl))]))) := by
 refine aZ Try.func18 J J (cW J) <| Rg 4 J <| bB (dY J J) J <| Ua J J <| Ua J J <| Ua J J <| Wn <| Rg 10 J <| aA (aL (l := lvMo k ss) J J (by repeat (first | exact g0 | refine g1 (by decide) ?_)) J J) J ?_
 refine Um J J <| Um J J <| aA (bP (b := .tup [(if eA ss l pl = 0 then lvL (kd (fl ss.length (mX ss pl (inL l))).length) (fl ss.length (mX ss pl (inL l))) else .sl 0 []), (if eA ss l pl = 0 then lvG 1 ss.length (mC ss pl (inL l)) else .sl 0 []), .v (.int .i64 (eA ss l pl))]) (aN J (sure_told k kl ss l pl hI ll) (bG (by intro c hc; simp only [List.mem_cons, List.not_mem_nil, or_false] at hc; rcases hc with rfl | rfl | rfl | rfl; exact dW; exact dW; exact .v _; exact nY d0 d0))) (by by_cases h : eA ss l pl = 0 <;> simp [h])) J <| aA (cS J J) J <| aA (cS J J) J <| aA (cS J J) J <| Ua J J <| Ua J J <| Ua J J <| Wn <| aK ?_
 rw [show (if eA ss l pl = 0 then [lvL (kd (fl ss.length (mX ss pl (inL l))).length) (fl ss.length (mX ss pl (inL l))), lvG 1 ss.length (mC ss pl (inL l)), .v (.int .i64 0)] else [.sl 0 [], .sl 0 [], .v (.int .i64 (eA ss l pl))]) = [(if eA ss l pl = 0 then lvL (kd (fl ss.length (mX ss pl (inL l))).length) (fl ss.length (mX ss pl (inL l))) else .sl 0 []), (if eA ss l pl = 0 then lvG 1 ss.length (mC ss pl (inL l)) else .sl 0 []), .v (.int .i64 (eA ss l pl))] by by_cases h : eA ss l pl = 0 <;> simp [h]]
 refine post (n := 0) (.inr J) J J (.tup _ ?_)
 intro c hc
 simp only [List.mem_cons, List.not_mem_nil, or_false] at hc
 rcases hc with rfl | rfl | rfl
 ·by_cases h : eA ss l pl = 0
  ·rw [if_pos h]; exact dW
  ·rw [if_neg h]; exact dnil
 ·by_cases h : eA ss l pl = 0
  ·rw [if_pos h]; exact dW
  ·rw [if_neg h]; exact dnil
 ·exact .v _
theorem avoid_told (k kl : Nat) (ss : List Go.Ab.ST) (l : List Int) (pl : Int) (hI : ∀ s, s ∈ ss → IS s) (ll : l.length < 1099511627776) : Run Try.prog T E0 (.call 72 [lvMo k ss, lvL kl l, .v (.int .i64 pl), .fn (.func 75) [] []] (.tup (if eA ss l pl = 0 then [lvL (kd (fl ss.length (fun s => !sX ss pl (inL l) s)).length) (fl ss.length (fun s => !sX ss pl (inL l) s)), lvG 1 ss.length (sC ss pl (inL l)), .v (.int .i64 0)] else [.sl 0 [], .sl 0 [], .v (.int .i64 (eA ss l pl))]))) :=
 oY k kl ss l pl 75 _ _ dW dW hI ll fun h => by
  unfold eA at h
  by_cases h1 : VMo ss = true ∧ VSet ss.length l = true
  ·rw [if_pos h1] at h
   by_cases h2 : pl = 0 ∨ pl = 1
   ·exact shun_run k kl ss l pl h2 (kA h1.1) h1.2 ll
   ·rw [if_neg h2] at h; cases h
  ·rw [if_neg h1] at h; cases h
theorem mavoid_run (k kl : Nat) (ss : List Go.Ab.ST) (l : List Int) (pl : Int) (hI : ∀ s, s ∈ ss → IS s) (ll : l.length < 1099511627776) : Run Try.prog T E0 (.call 19 [lvMo k ss, lvL kl l, .v (.int .i64 pl)] (.tup (if eA ss l pl = 0 then [lvL (kd (fl ss.length (fun s => !sX ss pl (inL l) s)).length) (fl ss.length (fun s => !sX ss pl (inL l) s)), lvG 1 ss.length (sC ss pl (inL l)), .v (.int .i64 0)] else [.sl 0 [], .sl 0 [], .v (.int .i64 (eA ss l pl))]))) := by
 refine aZ Try.func19 J J (cW J) <| Rg 4 J <| bB (dY J J) J <| Ua J J <| Ua J J <| Ua J J <| Wn <| Rg 10 J <| aA (aL (l := lvMo k ss) J J (by repeat (first | exact g0 | refine g1 (by decide) ?_)) J J) J ?_
 refine Um J J <| Um J J <| aA (bP (b := .tup [(if eA ss l pl = 0 then lvL (kd (fl ss.length (fun s => !sX ss pl (inL l) s)).length) (fl ss.length (fun s => !sX ss pl (inL l) s)) else .sl 0 []), (if eA ss l pl = 0 then lvG 1 ss.length (sC ss pl (inL l)) else .sl 0 []), .v (.int .i64 (eA ss l pl))]) (aN J (avoid_told k kl ss l pl hI ll) (bG (by intro c hc; simp only [List.mem_cons, List.not_mem_nil, or_false] at hc; rcases hc with rfl | rfl | rfl | rfl; exact dW; exact dW; exact .v _; exact nY d0 d0))) (by by_cases h : eA ss l pl = 0 <;> simp [h])) J <| aA (cS J J) J <| aA (cS J J) J <| aA (cS J J) J <| Ua J J <| Ua J J <| Ua J J <| Wn <| aK ?_
 rw [show (if eA ss l pl = 0 then [lvL (kd (fl ss.length (fun s => !sX ss pl (inL l) s)).length) (fl ss.length (fun s => !sX ss pl (inL l) s)), lvG 1 ss.length (sC ss pl (inL l)), .v (.int .i64 0)] else [.sl 0 [], .sl 0 [], .v (.int .i64 (eA ss l pl))]) = [(if eA ss l pl = 0 then lvL (kd (fl ss.length (fun s => !sX ss pl (inL l) s)).length) (fl ss.length (fun s => !sX ss pl (inL l) s)) else .sl 0 []), (if eA ss l pl = 0 then lvG 1 ss.length (sC ss pl (inL l)) else .sl 0 []), .v (.int .i64 (eA ss l pl))] by by_cases h : eA ss l pl = 0 <;> simp [h]]
 refine post (n := 0) (.inr J) J J (.tup _ ?_)
 intro c hc
 simp only [List.mem_cons, List.not_mem_nil, or_false] at hc
 rcases hc with rfl | rfl | rfl
 ·by_cases h : eA ss l pl = 0
  ·rw [if_pos h]; exact dW
  ·rw [if_neg h]; exact dnil
 ·by_cases h : eA ss l pl = 0
  ·rw [if_pos h]; exact dW
  ·rw [if_neg h]; exact dnil
 ·exact .v _
end Go.Proofs.Ytcblgjaomljikaa
namespace Go.Proofs.Ytcblgjaomljikaa
open Go.Ab Go.RowKit
theorem jJ (k k' : Nat) (l l' : List Int) (ll : l.length < 1099511627776) : Run Try.prog T E0 (.call 22 [lvL k l, lvL k' l'] (.v (.bool (decide (l = l'))))) := by
 refine aZ Try.func22 J J (cW J) <| Rg 1 J <| Ua J J <| Wn <| aC <| Rg 5 J <| Um J J <| aA (bC J J) J <| Um J J <| aA (bC J J) J <| aA (iO J J) J <| bF (fun h10 => ?_) (fun h10 => ?_)
 ·refine Wn <| aS J <| aC <| Rg 1 J <| Ua J J <| Wn <| bE <| post (n := 0) (.inr J) J ?_ dD
  exact congrArg (fun z => LV.v (.bool z)) (show false = decide (l = l') from (decide_eq_false fun h => h10 (by rw [h])).symm)
 refine Wn <| aU J <| aG <| aC <| Rg 3 J <| Um J J <| aA (bC J J) J <| Um J J <| Wn <| aJ <| aY (α := Nat) (fun i => [(0, lvL k l), (1, lvL k' l'), (12, .v (.int .i64 (l.length : Int))), (13, .v (.int .i64 (i : Int)))]) (fun i => []) (fun i n => i ≤ l.length ∧ l.take i = l'.take i) (fun i => l.length - i) (0) ⟨J, J, J, J, trivial⟩ trivial ⟨Nat.zero_le _, by simp⟩ ?_
 rintro i n hF
 change WC _ _ _ _ _ (_ :: _) ([]) n _
 obtain ⟨hi, ha⟩ := hF
 refine Rg 1 J <| aA (cC J J) J <| bF (fun h14 => ?_) (fun h14 => ?_)
 rotate_left
 ·refine Wn <| aU J <| bA <| aP <| aQ J <| Rg 1 J <| Ua J J <| Wn <| aK <| post (n := 0) (.inr J) J ?_ dD
  exact congrArg (fun z => LV.v (.bool z)) (show true = decide (l = l') from (decide_eq_true (by rw [List.take_of_length_le om, List.take_of_length_le om] at ha; exact ha)).symm)
 refine Wn <| aS J <| aG <| aJ <| Rg 2 J <| Um J J <| Ua J J <| Wn <| cH (z := 9) J kR <| Dm J J <| Dm J J <| aO (cK (j := i) J J J J om om J) J <| aO (dX J J J) J <| Dm J J <| Dm J J <| aO (cK (j := i) J J J J om om J) J <| aO (dX J J J) J <| aO (iO J J) J <| WD.D (fun h24 => ?_) (fun h24 => ?_)
 rotate_left
 ·refine bY (bH kR) J <| Ck [0,1,12,13,24] J <| bT J <| bR <| aF <| aI (z := 2) J <| aA (cI (((i + 1 : Nat) : Int)) (aR J J om) om) J <| Um J J <| Wn <| aE <| ⟨i + 1, ⟨J, J, J, J, trivial⟩, trivial, ⟨om, eqL_take ha om om om⟩, by show l.length - (i + 1) < l.length - i; omega⟩
 refine bY (bH kR) J <| Ck [0,1,12,13,24] J <| cA J <| Rg 1 J <| Ua J J <| Wn <| aK <| aM <| bJ <| aM <| post (n := 0) (.inr J) J ?_ dD
 exact congrArg (fun z => LV.v (.bool z)) (show false = decide (l = l') from (decide_eq_false (eqL_no (i := i) om om om)).symm)
end Go.Proofs.Ytcblgjaomljikaa
namespace Go.Proofs.Ytcblgjaomljikaa
open Go.Ab Go.RowKit
theorem qfew_run (k : Nat) (ss : List Go.Ab.ST) : Run Try.prog T E0 (.call 70 [.v (.int .i64 40), lvMo k ss] (.v (.bool (fewM ss)))) := by
 refine aZ Try.func70 J J (cW J) <| Rg 2 J <| bB (dY J J) J <| Ua J J <| Wn <| aC <| Rg 17 J <| aA (bD J J J J J) J <| aA (aL J J (by repeat (first | exact g0 | refine g1 (by decide) ?_)) J J) J ?_
 refine aA (bC J J) J <| Um J J <| aA (gE J J) J <| bF (fun h13 => ?_) (fun h13 => ?_)
 rotate_left
 ·refine Um J J <| K1 J J <| K1 J J <| K1 J J <| K1 J J <| aA (bZ J J) J <| Um J J <| aH J (bD J J J J J) J <| aH J (aL J J (by repeat (first | exact g0 | refine g1 (by decide) ?_)) J J) J ?_
  refine aH J (bC J J) J <| aH J (gE J J) J <| bF (fun h24 => ?_) (fun h24 => ?_)
  ·refine aA (bZ J J) J <| Nk [3,25] J <| aS J <| aC <| Rg 1 J <| Ua J J <| Wn <| bE <| post (n := 0) (.inr J) J ?_ dD
   exact congrArg (fun z => LV.v (.bool z)) (show false = fewM ss by unfold fewM; rw [decide_eq_false om]; rfl)
  refine aA (bZ J J) J <| Nk [3,25] J <| aU J <| aG <| aC <| Rg 4 J <| aA (bD J J J J J) J <| aA (aL J J (by repeat (first | exact g0 | refine g1 (by decide) ?_)) J J) J ?_
  refine aA (bC J J) J <| Um J J <| Wn <| aJ <| aY (α := Nat) (fun i => [(27, .sl k (ss.map stc)), (28, .v (.int .i64 (ss.length : Int))), (29, .v (.int .i64 (i : Int)))]) (fun i => []) (fun i n => i ≤ ss.length ∧ (ss.take i).all fewS = true) (fun i => ss.length - i) (0) ⟨J, J, J, trivial⟩ trivial ⟨Nat.zero_le _, by simp⟩ ?_
  rintro i n hF
  change WC _ _ _ _ _ (_ :: _) ([]) n _
  obtain ⟨hi, ha⟩ := hF
  refine Rg 1 J <| aA (cC J J) J <| bF (fun h30 => ?_) (fun h30 => ?_)
  rotate_left
  ·refine Wn <| aU J <| bA <| aP <| aQ J <| Rg 1 J <| Ua J J <| Wn <| aK <| post (n := 0) (.inr J) J ?_ dD
   exact congrArg (fun z => LV.v (.bool z)) (show true = fewM ss by unfold fewM; rw [decide_eq_true om, iF ha om]; rfl)
  refine Wn <| aS J <| aG <| aJ <| Rg 4 J <| aA (cK J J J J J om J) J <| aA (dX (l := .agg (stc (ss.getD i default))) J J J) J <| bB (fN J) J <| aW (dA (cs' := stc (ss.getD i default)) J J J g0 J J J J) <| Wn <| aC <| Rg 4 J <| aA (bD J J J J J) J <| aA (aL J J gG J J) J ?_
  refine aA (bC J J) J <| aA (gE J J) J <| bF (fun h36 => ?_) (fun h36 => ?_)
  ·refine Wn <| aS J <| aC <| Rg 1 J <| Ua J J <| Wn <| bE <| aM <| bJ <| aM <| post (n := 0) (.inr J) J ?_ dD
   exact congrArg (fun z => LV.v (.bool z)) (show false = fewM ss from (nB (i := i) om (fewS_no1 om)).symm)
  refine Wn <| aU J <| aG <| Rg 4 J <| aA (bD J J J J J) J <| aA (aL J J gG J J) J ?_
  refine aA (bC J J) J <| Um J J <| Nk [27,28,29,38,39,40] J <| cM <| aY (α := Nat) (fun j => [(27, .sl k (ss.map stc)), (28, .v (.int .i64 (ss.length : Int))), (29, .v (.int .i64 (i : Int))), (38, .sl (ss.getD i default).2.1 ((ss.getD i default).2.2.map chc)), (39, .v (.int .i64 ((ss.getD i default).2.2.length : Int))), (40, .v (.int .i64 (j : Int)))]) (fun j => []) (fun j n => j ≤ (ss.getD i default).2.2.length ∧ ((ss.getD i default).2.2.take j).all fewC = true) (fun j => (ss.getD i default).2.2.length - j) (0) ⟨J, J, J, J, J, J, trivial⟩ trivial ⟨Nat.zero_le _, by simp⟩ ?_
  rintro j n hF
  change WC _ _ _ _ _ (_ :: _) ([]) n _
  obtain ⟨hj, hb⟩ := hF
  refine Rg 1 J <| aA (cC J J) J <| bF (fun h41 => ?_) (fun h41 => ?_)
  rotate_left
  ·refine Wn <| aU J <| bA <| aP <| eV J <| aF <| aI (z := 2) J <| aA (cI (((i + 1 : Nat) : Int)) (aR J J om) om) J <| Um J J <| Wn <| aE <| ⟨i + 1, ⟨J, J, J, trivial⟩, trivial, ⟨om, gH ha om (by unfold fewS; rw [decide_eq_true om, iF hb om]; rfl)⟩, by show ss.length - (i + 1) < ss.length - i; omega⟩
  refine Wn <| aS J <| aG <| aJ <| Rg 4 J <| aA (cK J J J J J om J) J <| aA (dX (l := lvC ((ss.getD i default).2.2.getD j default)) J J J) J <| bB (fN J) J <| aW (dA (cs' := chc ((ss.getD i default).2.2.getD j default)) J J J g0 J J J J) <| Wn <| Rg 4 J <| aA (bD J J J J J) J <| aA (aL J J gG J J) J ?_
  refine aA (bC J J) J <| aA (gE J J) J <| bF (fun h47 => ?_) (fun h47 => ?_)
  rotate_left
  ·refine Wn <| bT J <| bR <| aF <| aI (z := 2) J <| aA (cI (((j + 1 : Nat) : Int)) (aR J J om) om) J <| Um J J <| Wn <| aE <| ⟨j + 1, ⟨J, J, J, J, J, J, trivial⟩, trivial, ⟨om, gH hb om (decide_eq_true om)⟩, by show (ss.getD i default).2.2.length - (j + 1) < (ss.getD i default).2.2.length - j; omega⟩
  refine Wn <| cA J <| Rg 1 J <| Ua J J <| Nk [4] J <| aK <| aM <| bJ <| dM <| aM <| bJ <| aM <| post (n := 0) (.inr J) J ?_ dD
  exact congrArg (fun z => LV.v (.bool z)) (show false = fewM ss from (nB (i := i) om (fewS_no2 (j := j) om om)).symm)
 refine Um J J <| aH J (bD J J J J J) J <| aH J (aL J J (by repeat (first | exact g0 | refine g1 (by decide) ?_)) J J) J ?_
 refine aH J (bC J J) J <| aH J (oLeq J J) J <| bF (fun h18 => ?_) (fun h18 => ?_)
 ·exact absurd h18 om
 refine aA (bS J J) J <| Um J J <| aH J (bD J J J J J) J <| aH J (aL J J (by repeat (first | exact g0 | refine g1 (by decide) ?_)) J J) J ?_
 refine aH J (bC J J) J <| aH J (gE J J) J <| bF (fun h24 => ?_) (fun h24 => ?_)
 ·refine aA (bZ J J) J <| Nk [3,25] J <| aS J <| aC <| Rg 1 J <| Ua J J <| Wn <| bE <| post (n := 0) (.inr J) J ?_ dD
  exact congrArg (fun z => LV.v (.bool z)) (show false = fewM ss by unfold fewM; rw [decide_eq_false om]; rfl)
 refine aA (bZ J J) J <| Nk [3,25] J <| aU J <| aG <| aC <| Rg 4 J <| aA (bD J J J J J) J <| aA (aL J J (by repeat (first | exact g0 | refine g1 (by decide) ?_)) J J) J ?_
 refine aA (bC J J) J <| Um J J <| Wn <| aJ <| aY (α := Nat) (fun i => [(27, .sl k (ss.map stc)), (28, .v (.int .i64 (ss.length : Int))), (29, .v (.int .i64 (i : Int)))]) (fun i => []) (fun i n => i ≤ ss.length ∧ (ss.take i).all fewS = true) (fun i => ss.length - i) (0) ⟨J, J, J, trivial⟩ trivial ⟨Nat.zero_le _, by simp⟩ ?_
 rintro i n hF
 change WC _ _ _ _ _ (_ :: _) ([]) n _
 obtain ⟨hi, ha⟩ := hF
 refine Rg 1 J <| aA (cC J J) J <| bF (fun h30 => ?_) (fun h30 => ?_)
 rotate_left
 ·refine Wn <| aU J <| bA <| aP <| aQ J <| Rg 1 J <| Ua J J <| Wn <| aK <| post (n := 0) (.inr J) J ?_ dD
  exact congrArg (fun z => LV.v (.bool z)) (show true = fewM ss by unfold fewM; rw [decide_eq_true om, iF ha om]; rfl)
 refine Wn <| aS J <| aG <| aJ <| Rg 4 J <| aA (cK J J J J J om J) J <| aA (dX (l := .agg (stc (ss.getD i default))) J J J) J <| bB (fN J) J <| aW (dA (cs' := stc (ss.getD i default)) J J J g0 J J J J) <| Wn <| aC <| Rg 4 J <| aA (bD J J J J J) J <| aA (aL J J gG J J) J ?_
 refine aA (bC J J) J <| aA (gE J J) J <| bF (fun h36 => ?_) (fun h36 => ?_)
 ·refine Wn <| aS J <| aC <| Rg 1 J <| Ua J J <| Wn <| bE <| aM <| bJ <| aM <| post (n := 0) (.inr J) J ?_ dD
  exact congrArg (fun z => LV.v (.bool z)) (show false = fewM ss from (nB (i := i) om (fewS_no1 om)).symm)
 refine Wn <| aU J <| aG <| Rg 4 J <| aA (bD J J J J J) J <| aA (aL J J gG J J) J ?_
 refine aA (bC J J) J <| Um J J <| Nk [27,28,29,38,39,40] J <| cM <| aY (α := Nat) (fun j => [(27, .sl k (ss.map stc)), (28, .v (.int .i64 (ss.length : Int))), (29, .v (.int .i64 (i : Int))), (38, .sl (ss.getD i default).2.1 ((ss.getD i default).2.2.map chc)), (39, .v (.int .i64 ((ss.getD i default).2.2.length : Int))), (40, .v (.int .i64 (j : Int)))]) (fun j => []) (fun j n => j ≤ (ss.getD i default).2.2.length ∧ ((ss.getD i default).2.2.take j).all fewC = true) (fun j => (ss.getD i default).2.2.length - j) (0) ⟨J, J, J, J, J, J, trivial⟩ trivial ⟨Nat.zero_le _, by simp⟩ ?_
 rintro j n hF
 change WC _ _ _ _ _ (_ :: _) ([]) n _
 obtain ⟨hj, hb⟩ := hF
 refine Rg 1 J <| aA (cC J J) J <| bF (fun h41 => ?_) (fun h41 => ?_)
 rotate_left
 ·refine Wn <| aU J <| bA <| aP <| eV J <| aF <| aI (z := 2) J <| aA (cI (((i + 1 : Nat) : Int)) (aR J J om) om) J <| Um J J <| Wn <| aE <| ⟨i + 1, ⟨J, J, J, trivial⟩, trivial, ⟨om, gH ha om (by unfold fewS; rw [decide_eq_true om, iF hb om]; rfl)⟩, by show ss.length - (i + 1) < ss.length - i; omega⟩
 refine Wn <| aS J <| aG <| aJ <| Rg 4 J <| aA (cK J J J J J om J) J <| aA (dX (l := lvC ((ss.getD i default).2.2.getD j default)) J J J) J <| bB (fN J) J <| aW (dA (cs' := chc ((ss.getD i default).2.2.getD j default)) J J J g0 J J J J) <| Wn <| Rg 4 J <| aA (bD J J J J J) J <| aA (aL J J gG J J) J ?_
 refine aA (bC J J) J <| aA (gE J J) J <| bF (fun h47 => ?_) (fun h47 => ?_)
 rotate_left
 ·refine Wn <| bT J <| bR <| aF <| aI (z := 2) J <| aA (cI (((j + 1 : Nat) : Int)) (aR J J om) om) J <| Um J J <| Wn <| aE <| ⟨j + 1, ⟨J, J, J, J, J, J, trivial⟩, trivial, ⟨om, gH hb om (decide_eq_true om)⟩, by show (ss.getD i default).2.2.length - (j + 1) < (ss.getD i default).2.2.length - j; omega⟩
 refine Wn <| cA J <| Rg 1 J <| Ua J J <| Nk [4] J <| aK <| aM <| bJ <| dM <| aM <| bJ <| aM <| post (n := 0) (.inr J) J ?_ dD
 exact congrArg (fun z => LV.v (.bool z)) (show false = fewM ss from (nB (i := i) om (fewS_no2 (j := j) om om)).symm)
theorem lfew_run (k kg : Nat) (ss : List Go.Ab.ST) (gs : List (Nat × List Int)) (hg : gs.length < 1000000) : Run Try.prog T E0 (.call 14 [lvMo k ss, .sl kg (gs.map gL)] (.v (.bool (fewG gs ss)))) := by
 refine aZ Try.func14 J J (cW J) <| Rg 2 J <| bB (dY J J) J <| Ua J J <| Wn <| aC <| Rg 3 J <| Um J J <| aA (bC J J) J <| Um J J <| Wn <| aJ <| aY (α := Nat) (fun i => [(2, .ptr 0 0), (7, .sl kg (gs.map gL)), (8, .v (.int .i64 (gs.length : Int))), (9, .v (.int .i64 (i : Int)))]) (fun i => [(0, { cells := [.sl k (ss.map stc)], sz := 1, elem := (26), st := 0 })]) (fun i n => i ≤ gs.length ∧ (gs.take i).all (fun r => decide (r.2.length ≤ 60)) = true ∧ 0 < n) (fun i => gs.length - i) (0) ⟨J, J, J, J, trivial⟩ ⟨(by repeat (first | exact g0 | refine g1 (by decide) ?_)), trivial⟩ ⟨Nat.zero_le _, by simp, om⟩ ?_
 rintro i n hF
 change WC _ _ _ _ _ (_ :: _) (_ :: _) n _
 obtain ⟨hi, ha, hn⟩ := hF
 refine Rg 1 J <| aA (cC J J) J <| bF (fun h10 => ?_) (fun h10 => ?_)
 rotate_left
 ·refine Wn <| aU J <| bA <| aP <| aQ J <| Rg 3 J <| aA (aL (l := lvMo k ss) J J gG J J) J ?_
  refine aA (aN J (qfew_run k ss) dD) J <| Ua J J <| Wn <| aK <| post (n := 0) (.inr J) J ?_ dD
  exact congrArg (fun z => LV.v (.bool z)) (show fewM ss = fewG gs ss by unfold fewG; rw [iF ha om, Bool.true_and])
 refine Wn <| aS J <| aG <| aJ <| Rg 3 J <| aA (cK J J J J J om J) J <| aA (dX J J J) J <| Ua J J <| Wn <| Rg 3 J <| Um J J <| aA (bC J J) J <| aA (gE J J) J <| bF (fun h15 => ?_) (fun h15 => ?_)
 rotate_left
 ·refine Wn <| bT J <| bR <| aF <| aI (z := 2) J <| aA (cI (((i + 1 : Nat) : Int)) (aR J J om) om) J <| Um J J <| Wn <| aE <| ⟨i + 1, ⟨J, J, J, J, trivial⟩, ⟨gG, trivial⟩, ⟨om, gH ha om (decide_eq_true om), om⟩, by show gs.length - (i + 1) < gs.length - i; omega⟩
 refine Wn <| cA J <| Rg 1 J <| Ua J J <| Wn <| aK <| aM <| bJ <| aM <| post (n := 0) (.inr J) J ?_ dD
 exact congrArg (fun z => LV.v (.bool z)) (show false = fewG gs ss by unfold fewG; rw [nS (us := gs) (p := fun r : Nat × List Int => decide (r.2.length ≤ 60)) (i := i) om (decide_eq_false om)]; rfl)
theorem eD (a b : Int) : Run Try.prog T E0 (.call 146 [.v (.int .i64 a), .v (.int .i64 b)] (lvM (a, b))) := by
 refine aZ Try.func146 J J (cW J) <| Rg 1 J <| bB (fN J) J <| Wn <| Rg 4 J <| Um J J <| Um J J <| aA (iA (cs := [_, _]) J J J J J) J <| aW (dA (cs' := [_, _]) J J J J J J J J) <| Wn <| aK <| post (n := 0) (.inr J) J ?_ dD
 rfl
theorem pS  : Run Try.prog T E0 (.call 71 [] (lvMo 2 dice)) := by
 refine aZ Try.func71 J J (cW J) <| Rg 1 J <| bB (fN J) J <| Wn <| Rg 35 J <| aA (aN J (eD 0 1) dD) J <| aA (aN J (eD 2 3) dD) J <| aA (iA (cs := [_, _, _]) J J J J J) J <| aA (aN J (eD 1 3) dD) J <| aA (iA (cs := [_, _, _]) J J J J J) J <| aA (dK (cs := [_, _, _, _, _, _]) (rows := [[_, _, _], [_, _, _]]) J J (by decide) J J J) J <| aA (iA (cs := [_, _, _]) J J J J J) J <| aA (aN J (eD 0 1) dD) J <| aA (aN J (eD 1 2) dD) J <| aA (iA (cs := [_, _, _]) J J J J J) J <| aA (aN J (eD 1 4) dD) J <| aA (iA (cs := [_, _, _]) J J J J J) J <| aA (aN J (eD 1 4) dD) J <| aA (iA (cs := [_, _, _]) J J J J J) J <| aA (dK (cs := [_, _, _, _, _, _, _, _, _]) (rows := [[_, _, _], [_, _, _], [_, _, _]]) J J (by decide) J J J) J <| aA (iA (cs := [_, _, _]) J J J J J) J <| aA (dK (cs := [_, _, _, _, _, _]) (rows := [[_, _, _], [_, _, _]]) J J (by decide) J J J) J <| aA (iA (cs := [_, _, _]) J J J J J) J <| aA (aN J (eD 0 1) dD) J ?_
 refine aA (aN J (eD 1 1) dD) J <| aA (iA (cs := [_, _, _]) J J J J J) J <| aA (dK (cs := [_, _, _]) (rows := [[_, _, _]]) J J (by decide) J J J) J <| aA (iA (cs := [_, _, _]) J J J J J) J <| aA (dK (cs := [_, _, _]) (rows := [[_, _, _]]) J J (by decide) J J J) J <| aA (iA (cs := [_, _, _]) J J J J J) J <| aA (aN J (eD 0 1) dD) J <| aA (aN J (eD 1 1) dD) J <| aA (iA (cs := [_, _, _]) J J J J J) J <| aA (dK (cs := [_, _, _]) (rows := [[_, _, _]]) J J (by decide) J J J) J <| aA (iA (cs := [_, _, _]) J J J J J) J <| aA (dK (cs := [_, _, _]) (rows := [[_, _, _]]) J J (by decide) J J J) J <| aA (iA (cs := [_, _, _]) J J J J J) J <| aA (dK (cs := [_, _, _, _, _, _, _, _, _]) (rows := [[_, _, _], [_, _, _], [_, _, _]]) J J (by decide) J J J) J <| aA (iA (cs := [_]) J J J J J) J <| aW (dA (cs' := [_]) J J J J J J J J) <| Nk [0] J <| aK <| post (n := 0) (.inr J) J ?_ dD
 rfl
theorem pM  : Run Try.prog T E0 (.call 15 [] (.v (.bool true))) := by
 refine aZ Try.func15 J J (cW J) <| Rg 1 J <| Ua J J <| Wn <| Rg 10 J <| aA (aN J (pS) dD) J <| aA (dK (cs := [_]) (rows := [[_]]) J J (by decide) J J J) J <| aA (bP (b := .tup [lvL (kd (fl 3 (gX dice 0 (fun _ => true) (inL [2]))).length) (fl 3 (gX dice 0 (fun _ => true) (inL [2]))), lvG 1 3 (gC dice 0 (fun _ => true) (inL [2])), .v (.int .i64 0)]) (aN J (jU 2 2 dice [2] 0 dice_is (by decide)) (bG (by intro c hc; simp only [List.mem_cons, List.not_mem_nil, or_false] at hc; rcases hc with rfl | rfl | rfl; exact dW; exact mR 2 [2]; exact .v _))) (by rw [if_pos dice_e]; rfl)) J <| Um J J <| aA (cS J J) J <| aA (cS J J) J <| aA (cS J J) J <| Ua J J <| Ua J J <| Ua J J <| Wn <| Rg 10 J <| aA (aN J (pS) dD) J <| aA (dK (cs := [_]) (rows := [[_]]) J J (by decide) J J J) J <| aA (bP (b := .tup [lvL (kd (fl 3 (mX dice 0 (inL [2]))).length) (fl 3 (mX dice 0 (inL [2]))), lvG 1 3 (mC dice 0 (inL [2])), .v (.int .i64 0)]) (aN J (pW 2 2 dice [2] 0 dice_is (by decide)) (bG (by intro c hc; simp only [List.mem_cons, List.not_mem_nil, or_false] at hc; rcases hc with rfl | rfl | rfl; exact dW; exact mR 2 [2]; exact .v _))) (by rw [if_pos dice_e]; rfl)) J <| Um J J <| aA (cS J J) J <| aA (cS J J) J <| aA (cS J J) J ?_
 refine Ua J J <| Ua J J <| Ua J J <| Nk [1,2,3,4,5,6] J <| Rg 27 J <| Um J J <| aA (fF J J) J <| bF (fun h22 => ?_) (fun h22 => ?_)
 rotate_left
 ·exact absurd J h22
 refine Um J J <| aH J (dF J) J <| aH J (dK (cs := [_, _]) (rows := [[_], [_]]) J J (by decide) J J J) J <| aH J (bP (b := .v (.bool true)) (aN J (jJ (kd (fl 3 (gX dice 0 (fun _ => true) (inL [2]))).length) 2 (fl 3 (gX dice 0 (fun _ => true) (inL [2]))) [0, 2] (by have := iJ 3 (gX dice 0 (fun _ => true) (inL [2])); omega)) (bG (by intro c hc; simp only [List.mem_cons, List.not_mem_nil, or_false] at hc; rcases hc with rfl | rfl; exact dW; exact mR 2 [0, 2]))) (by rw [dice_p]; rfl)) J <| dH (fun h26 => ?_) (fun h26 => ?_)
 rotate_left
 ·cases h26
 refine aA (bS J J) J <| Um J J <| aH J (dF J) J <| aH J (cI ((3 : Int)) (bC J J) J) J <| aH J (fF J J) J <| bF (fun h31 => ?_) (fun h31 => ?_)
 rotate_left
 ·exact absurd J h31
 refine aA (bS J J) J <| Um J J <| aH J (dF J) J <| aH J (fF J J) J <| bF (fun h35 => ?_) (fun h35 => ?_)
 rotate_left
 ·exact absurd J h35
 refine aA (bS J J) J <| Um J J <| aH J (dF J) J <| aH J (dK (cs := [_]) (rows := [[_]]) J J (by decide) J J J) J <| aH J (bP (b := .v (.bool true)) (aN J (jJ (kd (fl 3 (mX dice 0 (inL [2]))).length) 2 (fl 3 (mX dice 0 (inL [2]))) [2] (by have := iJ 3 (mX dice 0 (inL [2])); omega)) (bG (by intro c hc; simp only [List.mem_cons, List.not_mem_nil, or_false] at hc; rcases hc with rfl | rfl; exact dW; exact mR 2 [2]))) (by rw [dice_s]; rfl)) J <| dH (fun h40 => ?_) (fun h40 => ?_)
 rotate_left
 ·cases h40
 refine aA (bS J J) J <| Um J J <| aH J (dF J) J <| aH J (cI ((3 : Int)) (bC J J) J) J <| aH J (bP (b := .v (.bool true)) (fF J J) J) J <| aA (bS J J) J <| Ua J J <| Nk [0] J <| aK <| post (n := 0) (.inr J) J ?_ dD
 rfl
end Go.Proofs.Ytcblgjaomljikaa
namespace Go.Proofs.Ytcblgjaomljikaa
open Go.Ab Go.RowKit
theorem cloneb_run (k : Nat) (bs : List BR) (hk : k ≠ 0) (hne : 0 < bs.length) (ln : bs.length < 1000000) : Run Try.prog T E0 (.call 218 [.sl k (bs.map brc)] (.sl 1 (bs.map brc))) := by
 refine aZ Try.func218 J J (cW J) <| Rg 1 J <| Ua J J <| Wn <| aC <| Rg 2 J <| Um J J <| aA (bP (b := .v (.bool false)) (mK J J) (by rw [beq_eq_false_iff_ne.2 hk])) J <| Wn <| aU J <| aG <| Rg 4 J <| aA (dK (cs := []) (rows := []) J J (by decide) J J J) J <| Um J J <| bB (oApS (xs := []) (rows := bs.map brc) J J J J J (by decide) (by simp) (cP (f := brc) (n := 3) (fun _ => rfl)) (by simpa using hne) (by rw [List.length_map]; show (2 * (0 + bs.length) + 256) * 24 ≤ _; omega) (by rw [List.length_map]; show 0 + bs.length < _; omega)) J <| Ua J J <| Wn <| aK ?_
 exact nN (n := 0) (bs.map brc) (.inr J) J (by simp) g0 (by show (0 : Nat) ≠ 2; decide) J (by decide) J (cP (f := brc) (n := 3) fun _ => rfl) dbrc
theorem mown_run (c : CH) (hk : c.2.1 ≠ 0) (hne : 0 < c.2.2.length) (ln : c.2.2.length < 1000000) : Run Try.prog T E0 (.call 199 [lvC c] (lvC (kch c))) := by
 refine aZ Try.func199 J J (cW J) <| Rg 2 J <| bB (dY J J) J <| bB (fN J) J <| Wn <| cH (z := 7) J kR <| aO (bD J J J J J) J <| aO (aL (l := .agg [_, _]) J J gG J J) J ?_
 refine aO (bD J J J J J) J <| aO (aL J J gG J J) J ?_
 refine aO (aN J (cloneb_run c.2.1 c.2.2 hk hne ln) (bG (by intro x hx; rw [List.mem_singleton] at hx; subst hx; exact .sl _ _ fun row hr => dbrc row hr))) J <| aO (iA (cs := [_, _, _]) J J J J J) J <| dQ (dA (cs' := chc (kch c)) J J J gG J J J J) ?_
 refine bY (bH kR) J <| aK <| post (n := 0) (.inr J) J ?_ dD
 rfl
theorem kept_run (k : Nat) (ss : List Go.Ab.ST) (g : FuncId) (cap : List LV) (kq : Nat → Nat → Bool) (hcap : ∀ c, c ∈ cap → Go.Ab.Data c) (hV : VM1 ss) (hK : ∀ x, x ∈ ss → ∀ c, c ∈ x.2.2 → c.2.1 ≠ 0) (hk : ∀ i j : Nat, i < ss.length → j < (ss.getD i default).2.2.length → Run Try.prog T E0 (.call g ([] ++ [.v (.int .i64 (i : Int)), .v (.int .i64 (j : Int))] ++ cap) (.v (.bool (kq i j))))) : Run Try.prog T E0 (.call 158 [lvMo k ss, .fn (.func g) [] cap] (lvMo 1 (kpt kq ss))) := by
 have hn40 := hV.wt.len
 have hpos := hV.pos
 refine aZ Try.func158 J J (cW J) <| Rg 2 J <| bB (dY J J) J <| bB (fN J) J <| Wn <| Rg 1 J <| bB (fN J) J <| Wn <| aC <| Rg 4 J <| aA (bD J J J J J) J <| aA (aL J J gG J J) J ?_
 refine aA (bC J J) J <| Um J J <| Wn <| aJ <| aY (α := Nat × Nat) (fun ⟨i, q⟩ => [(1, .fn (.func g) [] cap), (4, .ptr (0 + 1) 0), (5, .ptr (0 + 2) 0), (12, .sl k (ss.map stc)), (13, .v (.int .i64 (ss.length : Int))), (14, .v (.int .i64 (i : Int)))]) (fun ⟨i, q⟩ => outH q 3 (40) ((tab i (fun i => kst (kq i) (ss.getD i default))).map stc) [((0 + 2), { cells := [outV q 3 ((tab i (fun i => kst (kq i) (ss.getD i default))).map stc)], sz := 1, elem := (26), st := 0 }), ((0 + 1), { cells := [.sl 0 []], sz := 1, elem := (26), st := 0 })]) (fun ⟨i, q⟩ n => i ≤ ss.length ∧ 2 < q ∧ q < n) (fun ⟨i, q⟩ => ss.length - i) (0, 3) ⟨J, J, J, J, J, J, trivial⟩ ⟨gG, gG, trivial⟩ ⟨Nat.zero_le _, om, om⟩ ?_
 rintro ⟨i, q⟩ n hF
 change WC _ _ _ _ _ (_ :: _) (outH _ _ _ _ _) n _
 obtain ⟨hi, hq0, hq⟩ := hF
 obtain ⟨nK, hnK⟩ : ∃ z, z = n := ⟨n, rfl⟩
 subst hnK
 refine Rg 1 J <| aA (cC J J) J <| bF (fun h15 => ?_) (fun h15 => ?_)
 rotate_left
 ·refine Wn <| aU J <| bA <| aP <| aQ J <| Rg 2 J <| aA (aL (l := .agg [_]) J J (by repeat (first | exact g0 | refine g1 om ?_ | refine aD om ?_)) J J) J ?_
  refine aW (dA (cs' := [_]) J J J (by repeat (first | exact g0 | refine g1 om ?_ | refine aD om ?_)) J J J J) ?_
  refine Wn <| aK ?_
  have hin : i = ss.length := by omega
  subst hin
  have hne : (tab ss.length (fun i => kst (kq i) (ss.getD i default))).map stc ≠ [] := fun h => by have := congrArg List.length h; rw [List.length_map, bX, List.length_nil] at this; omega
  exact postRefA (n := 0) ((tab ss.length (fun i => kst (kq i) (ss.getD i default))).map stc) (.inr J) (Eq.trans J (congrArg (fun z => some [LV.agg [z]]) (rM hne))) J (by rw [bI hne]; repeat (first | exact g0 | refine g1 om ?_)) (by show (0 : Nat) ≠ 2; decide) J (by decide) J (cP (f := stc) (n := 3) fun _ => rfl) (cD (f := stc) dstc1)
 refine Wn <| aS J <| aG <| aJ ?_
 have hm := bO (us := ss) (i := i) om
 have hcl := hV.cs _ hm
 refine Rg 6 J <| Um J J <| aA (cK J J J J J om J) J <| aA (dX (l := .agg (stc (ss.getD i default))) J J J) J <| bB (fN J) J <| Ua J J <| aW (dA (cs' := stc (ss.getD i default)) J J J g0 J J J J) <| Wn <| Rg 7 J <| aA (bD J J J J J) J <| aA (aL J J gG J J) J ?_
 refine aA (bD J J J J J) J <| aA (aL J J gG J J) J ?_
 refine aA (iA (cs := [_, _, _]) J J J J J) J <| bB (fN J) J <| aW (dA (cs' := [_, _, _]) J J J g0 J J J J) <| Nk [1,4,5,6,7,8,12,13,14] J <| aC <| Rg 4 J <| aA (bD J J J J J) J <| aA (aL J J gG J J) J ?_
 refine aA (bC J J) J <| Um J J <| Wn <| aJ <| aY (α := Nat × Nat) (fun ⟨j, q2⟩ => [(1, .fn (.func g) [] cap), (4, .ptr (0 + 1) 0), (5, .ptr (0 + 2) 0), (6, .v (.int .i64 (i : Int))), (8, .ptr (nK + 1 + 6 + 5) 0), (12, .sl k (ss.map stc)), (13, .v (.int .i64 (ss.length : Int))), (14, .v (.int .i64 (i : Int))), (25, .sl (ss.getD i default).2.1 ((ss.getD i default).2.2.map chc)), (26, .v (.int .i64 ((ss.getD i default).2.2.length : Int))), (27, .v (.int .i64 (j : Int)))]) (fun ⟨j, q2⟩ => outH q2 3 (37) ((kpl (kq i) (ss.getD i default).2.2 j).map chc) (((nK + 1 + 6 + 5), { cells := [.v (.int .i64 (ss.getD i default).1.1), .v (.int .i64 (ss.getD i default).1.2), outV q2 3 ((kpl (kq i) (ss.getD i default).2.2 j).map chc)], sz := 3, elem := (40), st := 0 }) :: outH q 3 (40) ((tab i (fun i => kst (kq i) (ss.getD i default))).map stc) [((0 + 2), { cells := [outV q 3 ((tab i (fun i => kst (kq i) (ss.getD i default))).map stc)], sz := 1, elem := (26), st := 0 }), ((0 + 1), { cells := [.sl 0 []], sz := 1, elem := (26), st := 0 })])) (fun ⟨j, q2⟩ n => j ≤ (ss.getD i default).2.2.length ∧ nK + 12 < q2 ∧ q2 < n ∧ nK + 18 ≤ n) (fun ⟨j, q2⟩ => (ss.getD i default).2.2.length - j) (0, nK + 13) ⟨J, J, J, J, J, J, J, J, J, J, J, trivial⟩ ⟨gG, aX (fun hne => by rw [bI hne]; repeat (first | exact g0 | refine g1 om ?_ | refine aD om ?_)) ⟨(by repeat (first | exact g0 | refine g1 om ?_ | refine aD om ?_)), (by repeat (first | exact g0 | refine g1 om ?_ | refine aD om ?_)), trivial⟩⟩ ⟨Nat.zero_le _, om, om, om⟩ ?_
 rintro ⟨j, q2⟩ n hF
 change WC _ _ _ _ _ (_ :: _) (outH _ _ _ _ _) n _
 obtain ⟨hj, hq1, hq2, hn2⟩ := hF
 have h8 : nK + (1 + (6 + 5)) < n := by omega
 refine iC (z := 1) J <| aA (cC J J) J <| bF (fun h28 => ?_) (fun h28 => ?_)
 rotate_left
 ·refine Wn <| Fz.cellR (A := [_, _]) [(1, _), (4, _), (5, _), (6, _), (8, _), (12, _), (13, _), (14, _), (25, _), (26, _), (27, _), (28, _)] ⟨J, J, J, J, J, J, J, J, J, J, J, J, trivial⟩ om (by decide) (cP (f := chc) (n := 3) fun _ => rfl) (cD dchc1) (cN om (gN om (gN om J))) ?_
  rw [nM]
  refine aU J <| bA <| aP <| aQ J ?_
  have hj2 : j = (ss.getD i default).2.2.length := by omega
  subst hj2
  refine aI (z := 7) J <| aA (bD J J J J J) J <| aA (aL J J (by repeat (first | exact g0 | refine g1 om ?_ | refine aD om ?_)) J J) J ?_
  refine aA (aL (l := .agg (stc (kst (kq i) (ss.getD i default)))) J J gG J J) J ?_
  refine aA (dK (cs := [_, _, _]) (rows := [[_, _, _]]) J J (by decide) J J J) J <| kE _ (subsM.get (aX (q := q) (sz := 3) (el := (40)) (us := ((tab i (fun i => kst (kq i) (ss.getD i default))).map stc)) (h := [((0 + 2), { cells := [outV q 3 ((tab i (fun i => kst (kq i) (ss.getD i default))).map stc)], sz := 1, elem := (26), st := 0 }), ((0 + 1), { cells := [.sl 0 []], sz := 1, elem := (26), st := 0 })]) (fun hne => by rw [bI hne]; repeat (first | exact g0 | refine g1 om ?_ | refine aD om ?_)) ⟨(by repeat (first | exact g0 | refine g1 om ?_ | refine aD om ?_)), (by repeat (first | exact g0 | refine g1 om ?_ | refine aD om ?_)), trivial⟩)) ?_
  refine qQ (te := ti40) (f := stc) (q := q) (us := (tab i (fun i => kst (kq i) (ss.getD i default)))) (u := (kst (kq i) (ss.getD i default))) J J J J J (fun _ => rfl) (by decide) (by show (2 * (((tab i (fun i => kst (kq i) (ss.getD i default)))).length + 1) + 256) * 40 ≤ _; rw [bX]; omega) (by rw [bX]; omega) (gN om (gN om J)) (gN om (gN om J)) J <| aA (bD J J J J J) J <| aW (oStV J J J J J (by repeat (first | exact g0 | refine g1 om ?_ | refine aD om ?_))) ?_
  refine Wn <| aF <| Ck [1,4,5,12,13,14] J <| aI (z := 2) J <| aA (cI (((i + 1 : Nat) : Int)) (aR J J om) om) J <| Um J J <| Wn <| aE ?_
  have eu : tab (i + 1) (fun i => kst (kq i) (ss.getD i default)) = (tab i (fun i => kst (kq i) (ss.getD i default))) ++ [(kst (kq i) (ss.getD i default))] := by rw [lF]
  refine ⟨⟨i + 1, n + 1 + 4⟩, ⟨J, J, J, J, J, J, trivial⟩, by dsimp only; rw [eu]; exact aX (fun hne => by rw [bI hne]; repeat (first | exact g0 | refine g1 om ?_ | refine aD om ?_)) ⟨(by repeat (first | exact g0 | refine g1 om ?_ | refine aD om ?_)), (by repeat (first | exact g0 | refine g1 om ?_ | refine aD om ?_)), trivial⟩, ⟨om, om, om⟩, by show ss.length - (i + 1) < ss.length - i; omega⟩
 refine Wn <| Fz.same [(1, _), (4, _), (5, _), (6, _), (8, _), (12, _), (13, _), (14, _), (25, _), (26, _), (27, _), (28, _)] _ ⟨J, J, J, J, J, J, J, J, J, J, J, J, trivial⟩ (fun _ _ h => h) <| aS J <| aG <| aJ ?_
 have hmc := bO (us := (ss.getD i default).2.2) (i := j) om
 have hbs := hV.bs _ hm _ hmc
 refine Rg 6 J <| Um J J <| aA (cK J J J J J om J) J <| aA (dX (l := lvC ((ss.getD i default).2.2.getD j default)) J J J) J <| bB (fN J) J <| Ua J J <| aW (dA (cs' := chc ((ss.getD i default).2.2.getD j default)) J J J g0 J J J J) <| Nk [1,4,5,6,8,9,10,12,13,14,25,26,27] J <| Rg 4 J <| Um J J <| Um J J <| Um J J <| aA (eP J J (hk i j om om) (iS d0 (by intro c hc; simp only [List.mem_cons, List.not_mem_nil, or_false] at hc; rcases hc with rfl | rfl; exact .v _; exact .v _) hcap)) J <| dH (fun h35 => ?_) (fun h35 => ?_)
 rotate_left
 ·refine Nk [1,4,5,6,8,10,12,13,14,25,26,27,35] J <| bT J <| bR <| aF <| aI (z := 2) J <| aA (cI (((j + 1 : Nat) : Int)) (aR J J om) om) J <| Um J J <| Wn <| aE ?_
  have eu : (kpl (kq i) (ss.getD i default).2.2 (j + 1)).map chc = ((kpl (kq i) (ss.getD i default).2.2 j).map chc) := by rw [rH h35]
  refine ⟨⟨j + 1, q2⟩, ⟨J, J, J, J, J, J, J, J, J, J, J, trivial⟩, by dsimp only; rw [eu]; exact aX (fun hne => by rw [bI hne]; repeat (first | exact g0 | refine g1 om ?_ | refine aD om ?_)) ⟨(by repeat (first | exact g0 | refine g1 om ?_ | refine aD om ?_)), aX (fun hne => by rw [bI hne]; repeat (first | exact g0 | refine g1 om ?_ | refine aD om ?_)) ⟨(by repeat (first | exact g0 | refine g1 om ?_ | refine aD om ?_)), (by repeat (first | exact g0 | refine g1 om ?_ | refine aD om ?_)), trivial⟩⟩, ⟨om, om, om, om⟩, by show (ss.getD i default).2.2.length - (j + 1) < (ss.getD i default).2.2.length - j; omega⟩
 refine Nk [1,4,5,6,8,10,12,13,14,25,26,27,35] J <| cA J <| fC (z := 8) J kR <| aO (bD J J J J J) J <| aO (aL J J (by repeat (first | exact g0 | refine g1 om ?_ | refine aD om ?_)) J J) J ?_
 refine aO (aL (l := lvC ((ss.getD i default).2.2.getD j default)) J J (by repeat (first | exact g0 | refine g1 om ?_ | refine aD om ?_)) J J) J ?_
 refine aO (aN J (mown_run ((ss.getD i default).2.2.getD j default) (hK _ hm _ hmc) om om) dD) J <| aO (dK (cs := [_, _, _]) (rows := [[_, _, _]]) J J (by decide) J J J) J <| nP _ (subsM.get (aX (q := q2) (sz := 3) (el := (37)) (us := ((kpl (kq i) (ss.getD i default).2.2 j).map chc)) (h := (((nK + 1 + 6 + 5), { cells := [.v (.int .i64 (ss.getD i default).1.1), .v (.int .i64 (ss.getD i default).1.2), outV q2 3 ((kpl (kq i) (ss.getD i default).2.2 j).map chc)], sz := 3, elem := (40), st := 0 }) :: outH q 3 (40) ((tab i (fun i => kst (kq i) (ss.getD i default))).map stc) [((0 + 2), { cells := [outV q 3 ((tab i (fun i => kst (kq i) (ss.getD i default))).map stc)], sz := 1, elem := (26), st := 0 }), ((0 + 1), { cells := [.sl 0 []], sz := 1, elem := (26), st := 0 })])) (fun hne => by rw [bI hne]; repeat (first | exact g0 | refine g1 om ?_ | refine aD om ?_)) ⟨(by repeat (first | exact g0 | refine g1 om ?_ | refine aD om ?_)), aX (fun hne => by rw [bI hne]; repeat (first | exact g0 | refine g1 om ?_ | refine aD om ?_)) ⟨(by repeat (first | exact g0 | refine g1 om ?_ | refine aD om ?_)), (by repeat (first | exact g0 | refine g1 om ?_ | refine aD om ?_)), trivial⟩⟩)) ?_
 refine WD.ap (te := ti37) (k0 := 0) (us := ((kpl (kq i) (ss.getD i default).2.2 j).map chc)) (rows := [chc (kch ((ss.getD i default).2.2.getD j default))]) (.inl J) J J J (by rw [pZ]; rfl) J (by decide) (by intro r hr; rw [List.mem_singleton] at hr; subst hr; rfl) (cP (f := chc) (n := 3) fun _ => rfl) (by simp) (by rw [List.length_map]; show (2 * ((kpl (kq i) (ss.getD i default).2.2 j).length + 1) + 256) * 40 ≤ _; have := nC (kq i) (ss.getD i default).2.2 j; omega) (by rw [List.length_map]; show (kpl (kq i) (ss.getD i default).2.2 j).length + 1 < _; have := nC (kq i) (ss.getD i default).2.2 j; omega) (gN om (cN om (gN om (gN om J)))) J <| aO (bD J J J J J) J <| dQ (dA (cs' := [_, _, _]) J J J gG J J J J) ?_
 refine bY (gA (rn n) (by simp only [List.reverse_cons, List.reverse_nil, List.nil_append, List.cons_append, List.map_cons, List.map_nil, ren, keys, Nat.add_assoc, oS, rn_lt hq2, rn_lt h8]; kernel_rfl)) J <| aF <| Ck [1,4,5,6,8,12,13,14,25,26,27] J <| aI (z := 2) J <| aA (cI (((j + 1 : Nat) : Int)) (aR J J om) om) J <| Um J J <| Wn <| aE ?_
 have eu : (kpl (kq i) (ss.getD i default).2.2 (j + 1)).map chc = ((kpl (kq i) (ss.getD i default).2.2 j).map chc) ++ [chc (kch ((ss.getD i default).2.2.getD j default))] := by rw [nD h35, List.map_append]; rfl
 refine ⟨⟨j + 1, n + 1 + 6 + 4 + 5⟩, ⟨J, J, J, J, J, J, J, J, J, J, J, trivial⟩, by dsimp only; rw [eu, gZ, hJ]; exact ⟨gG, gG, aX (fun hne => by rw [bI hne]; repeat (first | exact g0 | refine g1 om ?_ | refine aD om ?_)) ⟨(by repeat (first | exact g0 | refine g1 om ?_ | refine aD om ?_)), (by repeat (first | exact g0 | refine g1 om ?_ | refine aD om ?_)), trivial⟩⟩, ⟨om, om, om, om⟩, by show (ss.getD i default).2.2.length - (j + 1) < (ss.getD i default).2.2.length - j; omega⟩
theorem fixed1_run (k ks : Nat) (ss : List Go.Ab.ST) (st : List Int) (pl : Int) (i j : Nat) (hi : i < ss.length) (hl : st.length = ss.length) : Run Try.prog T E0 (.call 159 [.v (.int .i64 (i : Int)), .v (.int .i64 (j : Int)), .ro [.sl k (ss.map stc)], .ro [.v (.int .i64 pl)], .ro [lvL ks st]] (.v (.bool (qf ss st pl i j)))) := by
 refine aZ Try.func159 J J (cW J) <| Rg 1 J <| Ua J J <| Wn <| cH (z := 17) J kR <| aO (oFa J J J J J) J <| aO (dX J J J) J <| Dm J J <| aO (cK (j := i) J J J J om om J) J <| aO (oFa J J J J J) J <| aO (dX J J J) J <| aO (dX J J J) J <| aO (iO J J) J <| WD.D (fun h15 => ?_) (fun h15 => ?_)
 ·refine Dm J J <| fI J J <| fI J J <| fI J J <| fI J J <| fI J J <| fI J J <| aO (bS J J) J <| aO (fZ J) J <| bY (bH kR) J <| Ck [7] J <| aK <| post (n := 0) (.inr J) J ?_ dD
  exact congrArg (fun z => LV.v (.bool z)) (show true = qf ss st pl i j by unfold qf; rw [decide_eq_true om, Bool.true_or])
 refine Dm J J <| dL J (dX J J J) J <| dL J (dF J) J <| dL J (cK (j := i) J J J J om om J) J <| dL J (dX J J J) J <| dL J (dF J) J <| dL J (fF J J) J <| aO (bZ J J) J <| aO (fZ J) J <| bY (bH kR) J <| Ck [7] J <| aK <| post (n := 0) (.inr J) J ?_ dD
 exact congrArg (fun z => LV.v (.bool z)) (show _ = qf ss st pl i j by unfold qf; rw [decide_eq_false (show ¬ (ss.getD i default).1.1 ≠ pl by omega), Bool.false_or])
theorem qZ (k ks : Nat) (ss : List Go.Ab.ST) (st : List Int) (pl : Int) (hV : VM1 ss) (hK : ∀ x, x ∈ ss → ∀ c, c ∈ x.2.2 → c.2.1 ≠ 0) (hl : st.length = ss.length) : Run Try.prog T E0 (.call 79 [lvMo k ss, lvL ks st, .v (.int .i64 pl)] (lvMo 1 (kpt (qf ss st pl) ss))) := by
 refine aZ Try.func79 J J (cW J) <| Rg 4 J <| bB (dY J J) J <| bB (dY J J) J <| bB (dY J J) J <| bB (fN J) J <| Wn <| Rg 4 J <| aA (aL (l := lvMo k ss) J J gG J J) J ?_
 refine aA (oMf J) J <| bB (lT [lvMo k ss, .fn (.func 159) [] [.ro [.sl k (ss.map stc)], .ro [.v (.int .i64 pl)], .ro [lvL ks st]]] [(0, { cells := [.sl k (ss.map stc)], sz := 1, elem := (26), st := 1 }), (0 + 2, { cells := [.v (.int .i64 pl)], sz := 1, elem := (3), st := 1 }), (0 + 1, { cells := [lvL ks st], sz := 1, elem := (22), st := 1 })] J (kept_run k ss 159 [.ro [.sl k (ss.map stc)], .ro [.v (.int .i64 pl)], .ro [lvL ks st]] (qf ss st pl) (by intro c hc; simp only [List.mem_cons, List.not_mem_nil, or_false] at hc; rcases hc with rfl | rfl | rfl; exact .ro _ (by intro c hc; rw [List.mem_singleton] at hc; subst hc; exact .sl _ _ fun row hr c hc => dstc row hr c hc); exact .ro _ (by intro c hc; rw [List.mem_singleton] at hc; subst hc; exact .v _); exact .ro _ (by intro c hc; rw [List.mem_singleton] at hc; subst hc; exact mR _ _)) hV hK (fun i j hi hj => fixed1_run k ks ss st pl i j hi hl)) (SnapB.toA (.data dW (.fn .nil (.box (ob := { cells := [.sl k (ss.map stc)], sz := 1, elem := (26), st := 0 }) gG (by simp [keys]) (by show (0 : Nat) ≠ 2; decide) (by intro c hc; have hc' := List.mem_singleton.1 hc; subst hc'; exact .sl _ _ fun row hr c hc => dstc row hr c hc) (.box (ob := { cells := [.v (.int .i64 pl)], sz := 1, elem := (3), st := 0 }) gG (by simp [keys]) (by show (0 : Nat) ≠ 2; decide) (by intro c hc; have hc' := List.mem_singleton.1 hc; subst hc'; exact .v _) (.box (ob := { cells := [lvL ks st], sz := 1, elem := (22), st := 0 }) gG (by simp [keys]) (by show (0 : Nat) ≠ 2; decide) (by intro c hc; have hc' := List.mem_singleton.1 hc; subst hc'; exact mR _ _) (.nil)))) .nil))) (by intro p hp; simp only [List.mem_cons, List.not_mem_nil, or_false] at hp; rcases hp with rfl | rfl | rfl; exact ⟨_, gG, (by show (0 : Nat) ≠ 2; decide), rfl⟩; exact ⟨_, gG, (by show (0 : Nat) ≠ 2; decide), rfl⟩; exact ⟨_, gG, (by show (0 : Nat) ≠ 2; decide), rfl⟩)) J ?_
 refine aW (dA (cs' := [_]) J J J gG J J J J) ?_
 refine Wn <| aK <| post (n := 0) (.inr J) J ?_ dD
 rfl
theorem idxi_run (k : Nat) (ns : List Int) (g : FuncId) (cap : List LV) (p : Int → Bool) (hcap : ∀ c, c ∈ cap → Go.Ab.Data c) (ln : ns.length < 4611686018427387904) (hp : ∀ a, a ∈ ns → Run Try.prog T E0 (.call g ([.v (.int .i64 a)] ++ cap) (.v (.bool (p a))))) : Run Try.prog T E0 (.call 160 [lvL k ns, .fn (.func g) [] cap] (.v (.int .i64 (fidx p ns)))) := by
 refine aZ Try.func160 J J (cW J) <| Rg 1 J <| Ua J J <| Wn <| aC <| Rg 3 J <| Um J J <| aA (bC J J) J <| Um J J <| Wn <| aJ <| aY (α := Nat) (fun i => [(0, lvL k ns), (1, .fn (.func g) [] cap), (7, .v (.int .i64 (ns.length : Int))), (8, .v (.int .i64 (i : Int)))]) (fun i => []) (fun i n => i ≤ ns.length ∧ (ns.take i).any p = false) (fun i => ns.length - i) (0) ⟨J, J, J, J, trivial⟩ trivial ⟨Nat.zero_le _, by simp⟩ ?_
 rintro i n hF
 change WC _ _ _ _ _ (_ :: _) ([]) n _
 obtain ⟨hi, ha⟩ := hF
 refine Rg 1 J <| aA (cC J J) J <| bF (fun h9 => ?_) (fun h9 => ?_)
 rotate_left
 ·refine Wn <| aU J <| bA <| aP <| aQ J <| Rg 1 J <| Ua J J <| Wn <| aK <| post (n := 0) (.inr J) J ?_ dD
  exact congrArg (fun z => LV.v (.int .i64 z)) (lK ha om).symm
 refine Wn <| aS J <| aG <| aJ <| Rg 2 J <| Um J J <| Ua J J <| Wn <| Rg 6 J <| Um J J <| Um J J <| Um J J <| aA (cK J J J J J om J) J <| aA (dX J J J) J <| aA (eP J J (hp _ (bO om)) (iS d0 (dII _) hcap)) J <| dH (fun h16 => ?_) (fun h16 => ?_)
 rotate_left
 ·refine Wn <| bT J <| bR <| aF <| aI (z := 2) J <| aA (cI (((i + 1 : Nat) : Int)) (aR J J om) om) J <| Um J J <| Wn <| aE <| ⟨i + 1, ⟨J, J, J, J, trivial⟩, trivial, ⟨om, oV ha om h16⟩, by show ns.length - (i + 1) < ns.length - i; omega⟩
 refine Wn <| cA J <| Rg 2 J <| Um J J <| Ua J J <| Nk [4] J <| aK <| aM <| bJ <| aM <| post (n := 0) (.inr J) J ?_ dD
 exact congrArg (fun z => LV.v (.int .i64 z)) (oA ha om h16).symm
theorem coni_run (k : Nat) (ns : List Int) (g : FuncId) (cap : List LV) (p : Int → Bool) (hcap : ∀ c, c ∈ cap → Go.Ab.Data c) (ln : ns.length < 4611686018427387904) (hp : ∀ a, a ∈ ns → Run Try.prog T E0 (.call g ([.v (.int .i64 a)] ++ cap) (.v (.bool (p a))))) : Run Try.prog T E0 (.call 81 [lvL k ns, .fn (.func g) [] cap] (.v (.bool (ns.any p)))) := by
 refine aZ Try.func81 J J (cW J) <| Rg 1 J <| Ua J J <| Wn <| Rg 5 J <| Um J J <| Um J J <| aA (eR [] [lvL k ns, .fn (.func g) [] cap] J (idxi_run k ns g cap p hcap ln hp) (SnapB.datas (by intro c hc; simp only [List.mem_cons, List.not_mem_nil, or_false] at hc; rcases hc with rfl | rfl; exact mR _ _; exact nY d0 hcap)) fL) J <| aA (iT J J) J <| Ua J J <| Wn <| aK <| post (n := 0) (.inr J) J ?_ dD
 exact congrArg (fun z => LV.v (.bool z)) (gJ p ns)
theorem kI (f : Nat → Bool) (z : Int) (h0 : 0 ≤ z) (h1 : z < 40) : Run Try.prog T E0 (.call 82 [.v (.int .i64 z), .ro (sb f)] (.v (.bool (!f z.toNat)))) := by
 refine aZ Try.func82 J J (cW J) <| Rg 1 J <| Ua J J <| Wn <| Rg 4 J <| Um J J <| aA (aN J (kS f z h0 h1) (bG (by intro c hc; simp only [List.mem_cons, List.not_mem_nil, or_false] at hc; rcases hc with rfl | rfl; exact .ro _ (dG f); exact .v _))) J <| aA (dV J) J <| Ua J J <| Wn <| aK <| post (n := 0) (.inr J) J ?_ dD
 rfl
theorem mstrat_run (k ks : Nat) (ss : List Go.Ab.ST) (st : List Int) (hll : st.length < 1099511627776) : Run Try.prog T E0 (.call 78 [lvMo k ss, lvL ks st] (.v (.bool (vSt ss st)))) := by
 refine aZ Try.func78 J J (cW J) <| Rg 2 J <| bB (dY J J) J <| Ua J J <| Wn <| aC <| Rg 6 J <| Um J J <| aA (bC J J) J <| aA (bD J J J J J) J <| aA (aL J J gG J J) J ?_
 refine aA (bC J J) J <| aA (iO J J) J <| bF (fun h12 => ?_) (fun h12 => ?_)
 ·refine Wn <| aS J <| aC <| Rg 1 J <| Ua J J <| Wn <| bE <| post (n := 0) (.inr J) J ?_ dD
  exact congrArg (fun z => LV.v (.bool z)) (show false = vSt ss st by unfold vSt; rw [decide_eq_false om]; rfl)
 refine Wn <| aU J <| aG <| aC <| Rg 3 J <| Um J J <| aA (bC J J) J <| Um J J <| Wn <| aJ <| aY (α := Nat) (fun i => [(2, .ptr 0 0), (13, lvL ks st), (14, .v (.int .i64 (st.length : Int))), (15, .v (.int .i64 (i : Int)))]) (fun i => [(0, { cells := [.sl k (ss.map stc)], sz := 1, elem := (26), st := 0 })]) (fun i n => i ≤ st.length ∧ (∀ j, j < i → (decide (0 ≤ st.getD j default) && decide (st.getD j default < ((ss.getD j default).2.2.length : Int))) = true) ∧ 0 < n) (fun i => st.length - i) (0) ⟨J, J, J, J, trivial⟩ ⟨(by repeat (first | exact g0 | refine g1 (by decide) ?_)), trivial⟩ ⟨Nat.zero_le _, fun j hj => absurd hj om, om⟩ ?_
 rintro i n hF
 change WC _ _ _ _ _ (_ :: _) (_ :: _) n _
 obtain ⟨hi, hok, hn⟩ := hF
 refine Rg 1 J <| aA (cC J J) J <| bF (fun h16 => ?_) (fun h16 => ?_)
 rotate_left
 ·refine Wn <| aU J <| bA <| aP <| aQ J <| Rg 1 J <| Ua J J <| Wn <| aK <| post (n := 0) (.inr J) J ?_ dD
  exact congrArg (fun z => LV.v (.bool z)) (show true = vSt ss st by unfold vSt; rw [decide_eq_true om, oQ hok om]; rfl)
 refine Wn <| aS J <| aG <| aJ <| Rg 5 J <| Um J J <| aA (cK J J J J J om J) J <| aA (dX J J J) J <| Ua J J <| Ua J J <| Wn <| Rg 13 J <| Um J J <| aA (cC J J) J <| bF (fun h21 => ?_) (fun h21 => ?_)
 ·refine Um J J <| K1 J J <| K1 J J <| K1 J J <| K1 J J <| K1 J J <| K1 J J <| K1 J J <| K1 J J <| K1 J J <| aA (bS J J) J <| Nk [2,13,14,15,23,24,25,26,27,28,29,30,31,32] J <| cA J <| Rg 1 J <| Ua J J <| Nk [4] J <| aK <| aM <| bJ <| aM <| post (n := 0) (.inr J) J ?_ dD
  exact congrArg (fun z => LV.v (.bool z)) (show false = vSt ss st by unfold vSt; rw [eM (i := i) om (by rw [decide_eq_false om]; rfl), Bool.and_false])
 refine Um J J <| aH J (dF J) J <| aH J (bD J J J J J) J <| aH J (aL J J gG J J) J ?_
 refine aH J (dF J) J <| aH J (cK (j := i) J J J J om om J) J <| aH J (oFa J J J J J) J <| aH J (dX J J J) J <| aH J (bC J J) J <| aH J (iT J J) J <| bF (fun h31 => ?_) (fun h31 => ?_)
 ·refine aA (bZ J J) J <| Nk [2,13,14,15,23,24,25,26,27,28,29,30,31,32] J <| cA J <| Rg 1 J <| Ua J J <| Nk [4] J <| aK <| aM <| bJ <| aM <| post (n := 0) (.inr J) J ?_ dD
  exact congrArg (fun z => LV.v (.bool z)) (show false = vSt ss st by unfold vSt; rw [eM (i := i) om (by rw [decide_eq_false (show ¬ (st.getD i default) < _ by omega), Bool.and_false]), Bool.and_false])
 refine aA (bZ J J) J <| Nk [2,13,14,15,23,24,25,26,27,28,29,30,31,32] J <| bT J <| bR <| aF <| aI (z := 2) J <| aA (cI (((i + 1 : Nat) : Int)) (aR J J om) om) J <| Um J J <| Wn <| aE <| ⟨i + 1, ⟨J, J, J, J, trivial⟩, ⟨gG, trivial⟩, ⟨om, fun j hj => ?_, om⟩, by show st.length - (i + 1) < st.length - i; omega⟩
 by_cases e : j = i
 ·rw [e, decide_eq_true om, decide_eq_true om]; rfl
 ·exact hok j om
end Go.Proofs.Ytcblgjaomljikaa
namespace Go.Proofs.Ytcblgjaomljikaa
open Go.Ab Go.RowKit
theorem attains_run (k kl kL ks : Nat) (ss : List Go.Ab.ST) (l : List Int) (pl : Int) (L st : List Int) (b : Bool) (hI : ∀ s, s ∈ ss → IS s) (hKN : KN ss) (ll : l.length < 1099511627776) (hLL : L.length < 1099511627776) (hsl : st.length < 1099511627776) : Run Try.prog T E0 (.call 20 [lvMo k ss, lvL kl l, .v (.int .i64 pl), lvL kL L, lvL ks st, .v (.bool b)] (.tup [.v (.bool (aT ss l pl L st b)), .v (.int .i64 (eT ss l pl L st))])) := by
 refine aZ Try.func20 J J (cW J) <| Rg 3 J <| bB (dY J J) J <| Ua J J <| Ua J J <| Wn <| aC <| Rg 21 J <| aA (aL (l := lvMo k ss) J J (by repeat (first | exact g0 | refine g1 (by decide) ?_)) J J) J ?_
 refine aA (aN J (mJ k ss hI) dD) J <| dH (fun h22 => ?_) (fun h22 => ?_)
 rotate_left
 ·refine aA (dV J) J <| Um J J <| K1 J J <| K1 J J <| K1 J J <| K1 J J <| aA (bS J J) J <| Um J J <| K1 J J <| K1 J J <| K1 J J <| K1 J J <| aA (bS J J) J <| Um J J <| K1 J J <| K1 J J <| K1 J J <| K1 J J <| aA (bS J J) J <| Nk [1,2,3,4,5,6,41] J <| aS J <| aC <| Rg 2 J ?_
  refine Ua J J <| Ua J J <| Wn <| bE ?_
  have he : (eT ss l pl L st) = 1 := eT_1 (fun h => by rw [h22] at h; cases h.1)
  have ha : (aT ss l pl L st b) = false := nR (by rw [he]; decide)
  rw [he, ha]
  refine post (n := 0) (.inr J) J ?_ dD
  rfl
 refine aA (dV J) J <| Um J J <| aH J (aL (l := lvMo k ss) J J (by repeat (first | exact g0 | refine g1 (by decide) ?_)) J J) J ?_
 refine aH J (dF J) J <| aH J (aN J (oL k kl ss l ll) dD) J <| dH (fun h27 => ?_) (fun h27 => ?_)
 rotate_left
 ·refine aH J (dV J) J <| aA (bZ J J) J <| Um J J <| K1 J J <| K1 J J <| K1 J J <| K1 J J <| aA (bS J J) J <| Um J J <| K1 J J <| K1 J J <| K1 J J <| K1 J J <| aA (bS J J) J <| Nk [1,2,3,4,5,6,41] J <| aS J <| aC <| Rg 2 J <| Ua J J <| Ua J J <| Wn <| bE ?_
  have he : (eT ss l pl L st) = 1 := eT_1 (fun h => by rw [h27] at h; cases h.2.1)
  have ha : (aT ss l pl L st b) = false := nR (by rw [he]; decide)
  rw [he, ha]
  refine post (n := 0) (.inr J) J ?_ dD
  rfl
 refine aH J (dV J) J <| aA (bZ J J) J <| Um J J <| aH J (aL (l := lvMo k ss) J J (by repeat (first | exact g0 | refine g1 (by decide) ?_)) J J) J ?_
 refine aH J (dF J) J <| aH J (aN J (oL k kL ss L hLL) dD) J <| dH (fun h33 => ?_) (fun h33 => ?_)
 rotate_left
 ·refine aH J (dV J) J <| aA (bZ J J) J <| Um J J <| K1 J J <| K1 J J <| K1 J J <| K1 J J <| aA (bS J J) J <| Nk [1,2,3,4,5,6,41] J <| aS J <| aC <| Rg 2 J <| Ua J J <| Ua J J <| Wn <| bE ?_
  have he : (eT ss l pl L st) = 1 := eT_1 (fun h => by rw [h33] at h; cases h.2.2.1)
  have ha : (aT ss l pl L st b) = false := nR (by rw [he]; decide)
  rw [he, ha]
  refine post (n := 0) (.inr J) J ?_ dD
  rfl
 refine aH J (dV J) J <| aA (bZ J J) J <| Um J J <| aH J (aL (l := lvMo k ss) J J (by repeat (first | exact g0 | refine g1 (by decide) ?_)) J J) J ?_
 refine aH J (dF J) J <| aH J (aN J (mstrat_run k ks ss st hsl) dD) J <| dH (fun h39 => ?_) (fun h39 => ?_)
 rotate_left
 ·refine aH J (dV J) J <| aA (bZ J J) J <| Nk [1,2,3,4,5,6,41] J <| aS J <| aC <| Rg 2 J <| Ua J J <| Ua J J <| Wn <| bE ?_
  have he : (eT ss l pl L st) = 1 := eT_1 (fun h => by rw [h39] at h; cases h.2.2.2)
  have ha : (aT ss l pl L st b) = false := nR (by rw [he]; decide)
  rw [he, ha]
  refine post (n := 0) (.inr J) J ?_ dD
  rfl
 refine aH J (dV J) J <| aA (bZ J J) J <| Nk [1,2,3,4,5,6,41] J <| aU J <| aG <| aC <| Rg 6 J <| Um J J <| aA (cC J J) J <| bF (fun h43 => ?_) (fun h43 => ?_)
 ·refine Um J J <| K1 J J <| K1 J J <| aA (bS J J) J <| Wn <| aS J <| aC <| Rg 2 J <| Ua J J <| Ua J J <| Nk [12,13] J <| bE ?_
  have he : (eT ss l pl L st) = 6 := eT_6 ⟨h22, h27, h33, h39⟩ om
  have ha : (aT ss l pl L st b) = false := nR (by rw [he]; decide)
  rw [he, ha]
  refine post (n := 0) (.inr J) J ?_ dD
  rfl
 refine Um J J <| aH J (dF J) J <| aH J (gE J J) J <| bF (fun h46 => ?_) (fun h46 => ?_)
 ·refine aA (bZ J J) J <| Wn <| aS J <| aC <| Rg 2 J <| Ua J J <| Ua J J <| Nk [12,13] J <| bE ?_
  have he : (eT ss l pl L st) = 6 := eT_6 ⟨h22, h27, h33, h39⟩ om
  have ha : (aT ss l pl L st b) = false := nR (by rw [he]; decide)
  rw [he, ha]
  refine post (n := 0) (.inr J) J ?_ dD
  rfl
 refine aA (bZ J J) J <| Wn <| aU J <| aG <| aC ?_
 have hV := kA h22
 have hst := vSt_len h39
 have hp : pl = 0 ∨ pl = 1 := by omega
 have h4 := And.intro h22 (And.intro h27 (And.intro h33 h39))
 have hn40 := hV.wt.len
 refine Rg 3 J <| Um J J <| aA (bC J J) J <| Um J J <| Nk [1,2,3,4,5,6,48,49,50] J <| aJ <| aY (α := Nat) (fun i => [(1, lvL kl l), (2, .v (.int .i64 pl)), (3, lvL kL L), (4, lvL ks st), (5, .v (.bool b)), (6, .ptr 0 0), (48, lvL ks st), (49, .v (.int .i64 (st.length : Int))), (50, .v (.int .i64 (i : Int)))]) (fun i => [(0, { cells := [.sl k (ss.map stc)], sz := 1, elem := (26), st := 0 })]) (fun i n => i ≤ st.length ∧ (∀ j, j < i → (decide ((ss.getD j default).1.1 = pl) || decide (st.getD j default = 0)) = true) ∧ 0 < n) (fun i => st.length - i) (0) ⟨J, J, J, J, J, J, J, J, J, trivial⟩ ⟨(by repeat (first | exact g0 | refine g1 (by decide) ?_)), trivial⟩ ⟨Nat.zero_le _, fun j hj => absurd hj om, om⟩ ?_
 rintro i n hF
 change WC _ _ _ _ _ (_ :: _) (_ :: _) n _
 obtain ⟨hi, hok, hn⟩ := hF
 refine Rg 1 J <| aA (cC J J) J <| bF (fun h51 => ?_) (fun h51 => ?_)
 ·refine Wn <| aS J <| aG <| aJ <| Rg 5 J <| Um J J <| aA (cK J J J J J om J) J <| aA (dX J J J) J <| Ua J J <| Ua J J <| Nk [1,2,3,4,5,6,14,15,48,49,50] J <| Rg 12 J <| aA (bD J J J J J) J <| aA (aL J J gG J J) J ?_
  refine Um J J <| aA (cK (j := i) J J J J om om J) J <| aA (oFa J J J J J) J <| aA (dX J J J) J <| Um J J <| aA (iO J J) J <| bF (fun h62 => ?_) (fun h62 => ?_)
  rotate_left
  ·refine Um J J <| K1 J J <| K1 J J <| aA (bZ J J) J <| Nk [1,2,3,4,5,6,48,49,50,64,65,66] J <| bT J <| bR <| aF <| aI (z := 2) J <| aA (cI (((i + 1 : Nat) : Int)) (aR J J om) om) J <| Um J J <| Wn <| aE <| ⟨i + 1, ⟨J, J, J, J, J, J, J, J, J, trivial⟩, ⟨gG, trivial⟩, ⟨om, fun j hj => ?_, om⟩, by show st.length - (i + 1) < st.length - i; omega⟩
   by_cases e : j = i
   ·rw [e, decide_eq_true om, Bool.true_or]
   ·exact hok j om
  refine Um J J <| aH J (dF J) J <| aH J (iO J J) J <| bF (fun h65 => ?_) (fun h65 => ?_)
  rotate_left
  ·refine aA (bS J J) J <| Nk [1,2,3,4,5,6,48,49,50,64,65,66] J <| bT J <| bR <| aF <| aI (z := 2) J <| aA (cI (((i + 1 : Nat) : Int)) (aR J J om) om) J <| Um J J <| Wn <| aE <| ⟨i + 1, ⟨J, J, J, J, J, J, J, J, J, trivial⟩, ⟨gG, trivial⟩, ⟨om, fun j hj => ?_, om⟩, by show st.length - (i + 1) < st.length - i; omega⟩
   by_cases e : j = i
   ·rw [e, decide_eq_true (show (st.getD i default) = 0 by omega), Bool.or_true]
   ·exact hok j om
  refine aA (bS J J) J <| Nk [1,2,3,4,5,6,48,49,50,64,65,66] J <| cA J <| Rg 2 J <| Ua J J <| Ua J J <| Wn <| aK <| aM <| bJ <| aM ?_
  have he : (eT ss l pl L st) = 7 := eT_7 h4 hp (by unfold aln; rw [eM (i := i) om (by rw [decide_eq_false (show ¬ (ss.getD i default).1.1 = pl by omega), decide_eq_false (show ¬ (st.getD i default) = 0 by omega)]; rfl), Bool.and_false])
  have ha : (aT ss l pl L st b) = false := nR (by rw [he]; decide)
  rw [he, ha]
  refine post (n := 0) (.inr J) J ?_ dD
  rfl
 refine Wn <| aU J <| bA <| aP <| aQ J ?_
 have he : (eT ss l pl L st) = 0 := eT_0 h4 hp (by unfold aln; rw [h39, oQ hok om]; rfl)
 have hXl := gM (qf ss st pl) ss
 have hX40 : (kpt (qf ss st pl) ss).length ≤ 40 := by omega
 have hXV := kpt_vm (p := pl) hV h39
 have hSx : VSet (kpt (qf ss st pl) ss).length l = true := by rw [hXl]; exact h27
 refine Rg 6 J <| aA (aL (l := lvMo k ss) J J gG J J) J ?_
 refine Um J J <| Um J J <| aA (aN J (qZ k ks ss st pl hV (hKN.ne hV) hst) dD) J <| bB (fN J) J <| aW (dA (cs' := [_]) J J J g0 J J J J) <| Nk [1,2,3,5,16] J <| Rg 1 J <| Ua J J <| Wn <| aC <| Rg 1 J <| Um J J <| dH (fun h72 => ?_) (fun h72 => ?_)
 rotate_left
 ·refine Wn <| aU J <| aG <| Rg 10 J <| Um J J <| aA (aL (l := lvMo 1 (kpt (qf ss st pl) ss)) J J gG J J) J ?_
  refine Um J J <| Um J J <| aA (eP J J (can_run 1 kl (kpt (qf ss st pl) ss) l pl hXV hSx ll) (iS d0 (by intro c hc; simp only [List.mem_cons, List.not_mem_nil, or_false] at hc; rcases hc with rfl | rfl | rfl; exact dW; exact dW; exact .v _) d0)) J <| Um J J <| aA (cS J J) J <| aA (cS J J) J <| Ua J J <| Ua J J <| Nk [3,18] J <| Rg 4 J <| Um J J <| aA (aN J (gQ (kd (fl (kpt (qf ss st pl) ss).length (gX (kpt (qf ss st pl) ss) pl (fun _ => true) (inL l))).length) (kpt (qf ss st pl) ss).length (fl (kpt (qf ss st pl) ss).length (gX (kpt (qf ss st pl) ss) pl (fun _ => true) (inL l))) hX40 (VSet_fl _ _) (by have := iJ (kpt (qf ss st pl) ss).length (gX (kpt (qf ss st pl) ss) pl (fun _ => true) (inL l)); omega)) dD) J <| bB (jB J J J) J <| aW (jS J J J g0 (cO _) J) <| Wn <| Rg 6 J <| Um J J <| aA (oMf J) J <| aA (eR [(n + 1 + 6 + 1 + 1 + 10 + 2)] [lvL kL L, .fn (.func 82) [] [.ro (sb (inL (fl (kpt (qf ss st pl) ss).length (gX (kpt (qf ss st pl) ss) pl (fun _ => true) (inL l)))))]] J (coni_run kL L 82 [.ro (sb (inL (fl (kpt (qf ss st pl) ss).length (gX (kpt (qf ss st pl) ss) pl (fun _ => true) (inL l)))))] (fun t => !inL (fl (kpt (qf ss st pl) ss).length (gX (kpt (qf ss st pl) ss) pl (fun _ => true) (inL l))) t.toNat) (dro _) om (fun a ha => kI (inL (fl (kpt (qf ss st pl) ss).length (gX (kpt (qf ss st pl) ss) pl (fun _ => true) (inL l)))) a (by have := kB h33 ha; omega) (by have := kB h33 ha; omega))) (.data (mR _ _) (.fn .nil (.box (ob := { cells := sb (inL (fl (kpt (qf ss st pl) ss).length (gX (kpt (qf ss st pl) ss) pl (fun _ => true) (inL l)))), sz := 40, elem := (130), st := 0 }) gG (by simp) (by show (0 : Nat) ≠ 2; decide) (dG _) .nil) .nil)) (.cons gG (by show (0 : Nat) ≠ 2; decide) fL)) J ?_
  refine aA (dV J) J <| Ua J J <| Ua J J <| Wn <| aK ?_
  rw [h72] at *
  rw [he, ← aT_prog he]
  refine post (n := 0) (.inr J) J ?_ dD
  rfl
 refine Wn <| aS J <| Rg 1 J <| Ua J J <| Wn <| Rg 10 J <| Um J J <| aA (aL (l := lvMo 1 (kpt (qf ss st pl) ss)) J J gG J J) J ?_
 refine Um J J <| Um J J <| aA (eP J J (must_run 1 kl (kpt (qf ss st pl) ss) l pl hXV hSx ll) (iS d0 (by intro c hc; simp only [List.mem_cons, List.not_mem_nil, or_false] at hc; rcases hc with rfl | rfl | rfl; exact dW; exact dW; exact .v _) d0)) J <| Um J J <| aA (cS J J) J <| aA (cS J J) J <| Ua J J <| Ua J J <| Nk [3,18] J <| Rg 4 J <| Um J J <| aA (aN J (gQ (kd (fl (kpt (qf ss st pl) ss).length (mX (kpt (qf ss st pl) ss) pl (inL l))).length) (kpt (qf ss st pl) ss).length (fl (kpt (qf ss st pl) ss).length (mX (kpt (qf ss st pl) ss) pl (inL l))) hX40 (VSet_fl _ _) (by have := iJ (kpt (qf ss st pl) ss).length (mX (kpt (qf ss st pl) ss) pl (inL l)); omega)) dD) J <| bB (jB J J J) J <| aW (jS J J J g0 (cO _) J) <| Wn <| Rg 6 J <| Um J J <| aA (oMf J) J <| aA (eR [(n + 1 + 6 + 1 + 1 + 1 + 10 + 2)] [lvL kL L, .fn (.func 82) [] [.ro (sb (inL (fl (kpt (qf ss st pl) ss).length (mX (kpt (qf ss st pl) ss) pl (inL l)))))]] J (coni_run kL L 82 [.ro (sb (inL (fl (kpt (qf ss st pl) ss).length (mX (kpt (qf ss st pl) ss) pl (inL l)))))] (fun t => !inL (fl (kpt (qf ss st pl) ss).length (mX (kpt (qf ss st pl) ss) pl (inL l))) t.toNat) (dro _) om (fun a ha => kI (inL (fl (kpt (qf ss st pl) ss).length (mX (kpt (qf ss st pl) ss) pl (inL l)))) a (by have := kB h33 ha; omega) (by have := kB h33 ha; omega))) (.data (mR _ _) (.fn .nil (.box (ob := { cells := sb (inL (fl (kpt (qf ss st pl) ss).length (mX (kpt (qf ss st pl) ss) pl (inL l)))), sz := 40, elem := (130), st := 0 }) gG (by simp) (by show (0 : Nat) ≠ 2; decide) (dG _) .nil) .nil)) (.cons gG (by show (0 : Nat) ≠ 2; decide) fL)) J ?_
 refine aA (dV J) J <| Ua J J <| Ua J J <| Wn <| aK ?_
 rw [h72] at *
 rw [he, ← aT_prog he]
 refine post (n := 0) (.inr J) J ?_ dD
 rfl
end Go.Proofs.Ytcblgjaomljikaa
namespace Go.Proofs.Ytcblgjaomljikaa
open Go.Ab Go.RowKit
theorem copy_run (k : Nat) (ss : List Go.Ab.ST) (hb1 : ss.length ≤ 1000) (hb2 : ∀ x, x ∈ ss → x.2.2.length ≤ 1000 ∧ ∀ c, c ∈ x.2.2 → c.2.2.length ≤ 1000) : Run Try.prog T E0 (.call 16 [lvMo k ss] (lvMo (kd ss.length) (cpM ss))) := by
 refine aZ Try.func16 J J (cW J) <| Rg 2 J <| bB (dY J J) J <| bB (fN J) J <| Wn <| Rg 3 J <| aA (iA (cs := [_]) J J J J J) J <| bB (fN J) J <| aW (dA (cs' := [_]) J J J g0 J J J J) <| Wn <| aC <| Rg 4 J <| aA (bD J J J J J) J <| aA (aL J J gG J J) J ?_
 refine aA (bC J J) J <| Um J J <| Wn <| aJ <| aY (α := Nat × Nat) (fun ⟨i, q⟩ => [(2, .ptr 1 0), (3, .ptr 3 0), (11, .sl k (ss.map stc)), (12, .v (.int .i64 (ss.length : Int))), (13, .v (.int .i64 (i : Int)))]) (fun ⟨i, q⟩ => outH q 3 (40) ((tab i (fun t => cpS (ss.getD t default))).map stc) [(3, { cells := [outV q 3 ((tab i (fun t => cpS (ss.getD t default))).map stc)], sz := 1, elem := (26), st := 0 }), (1, { cells := [.sl 0 []], sz := 1, elem := (26), st := 0 })]) (fun ⟨i, q⟩ n => i ≤ ss.length ∧ 4 < q ∧ q < n) (fun ⟨i, q⟩ => ss.length - i) (0, 5) ⟨J, J, J, J, J, trivial⟩ ⟨gG, gG, trivial⟩ ⟨Nat.zero_le _, om, om⟩ ?_
 rintro ⟨i, q⟩ n hF
 change WC _ _ _ _ _ (_ :: _) (outH _ _ _ _ _) n _
 obtain ⟨hi, hq0, hq⟩ := hF
 obtain ⟨nK, hnK⟩ : ∃ z, z = n := ⟨n, rfl⟩
 subst hnK
 refine Rg 1 J <| aA (cC J J) J <| bF (fun h14 => ?_) (fun h14 => ?_)
 rotate_left
 ·refine Wn <| aU J <| bA <| aP <| aQ J <| Rg 2 J <| aA (aL (l := .agg [_]) J J (by repeat (first | exact g0 | refine g1 om ?_ | refine aD om ?_)) J J) J ?_
  refine aW (dA (cs' := [_]) J J J (by repeat (first | exact g0 | refine g1 om ?_ | refine aD om ?_)) J J J J) ?_
  refine Wn <| aK ?_
  obtain rfl : i = ss.length := by omega
  have hU : tab ss.length (fun t => cpS (ss.getD t default)) = cpM ss := oE (by rw [bX, WL_cp]) fun t ht => by
   rw [bX] at ht
   rw [iQ _ ht]; exact (mapD (f := cpS) ht).symm
  rw [hU]
  rw [show lvMo (kd ss.length) (cpM ss) = .agg [outR ((cpM ss).map stc)] by rw [nM, WL_cp]; rfl]
  exact postOutA (n := 0) (.inr J) (resE_cell J J g0 J J) (fun hne => g1 om (by rw [bI hne]; exact g0)) (by decide) (cP (f := stc) (n := 3) fun _ => rfl) (cD (f := stc) dstc1)
 refine Wn <| aS J <| aG <| aJ ?_
 have hm := bO (us := ss) (i := i) om
 have hcl := hb2 _ hm
 refine Rg 4 J <| aA (cK J J J J J om J) J <| aA (dX (l := .agg (stc (ss.getD i default))) J J J) J <| bB (fN J) J <| aW (dA (cs' := stc (ss.getD i default)) J J J g0 J J J J) <| Wn <| Rg 7 J <| aA (bD J J J J J) J <| aA (aL J J gG J J) J ?_
 refine aA (bD J J J J J) J <| aA (aL J J gG J J) J ?_
 refine aA (iA (cs := [_, _, _]) J J J J J) J <| bB (fN J) J <| aW (dA (cs' := [_, _, _]) J J J g0 J J J J) <| Nk [2,3,5,6,11,12,13] J <| aC <| Rg 4 J <| aA (bD J J J J J) J <| aA (aL J J gG J J) J ?_
 refine aA (bC J J) J <| Um J J <| Wn <| aJ <| aY (α := Nat × Nat) (fun ⟨j, q2⟩ => [(2, .ptr 1 0), (3, .ptr 3 0), (6, .ptr (nK + 1 + 4 + 5) 0), (11, .sl k (ss.map stc)), (12, .v (.int .i64 (ss.length : Int))), (13, .v (.int .i64 (i : Int))), (23, .sl (ss.getD i default).2.1 ((ss.getD i default).2.2.map chc)), (24, .v (.int .i64 ((ss.getD i default).2.2.length : Int))), (25, .v (.int .i64 (j : Int)))]) (fun ⟨j, q2⟩ => outH q2 3 (37) ((tab j (fun t => cpC ((ss.getD i default).2.2.getD t default))).map chc) (((nK + 1 + 4 + 5), { cells := [.v (.int .i64 (ss.getD i default).1.1), .v (.int .i64 (ss.getD i default).1.2), outV q2 3 ((tab j (fun t => cpC ((ss.getD i default).2.2.getD t default))).map chc)], sz := 3, elem := (40), st := 0 }) :: outH q 3 (40) ((tab i (fun t => cpS (ss.getD t default))).map stc) [(3, { cells := [outV q 3 ((tab i (fun t => cpS (ss.getD t default))).map stc)], sz := 1, elem := (26), st := 0 }), (1, { cells := [.sl 0 []], sz := 1, elem := (26), st := 0 })])) (fun ⟨j, q2⟩ n => j ≤ (ss.getD i default).2.2.length ∧ nK + 14 < q2 ∧ q2 < n ∧ nK + 16 ≤ n) (fun ⟨j, q2⟩ => (ss.getD i default).2.2.length - j) (0, nK + 15) ⟨J, J, J, J, J, J, J, J, J, trivial⟩ ⟨(by repeat (first | exact g0 | refine g1 om ?_ | refine aD om ?_)), (aX (fun hne => by rw [bI hne]; repeat (first | exact g0 | refine g1 om ?_ | refine aD om ?_)) ⟨(by repeat (first | exact g0 | refine g1 om ?_ | refine aD om ?_)), (by repeat (first | exact g0 | refine g1 om ?_ | refine aD om ?_)), trivial⟩)⟩ ⟨Nat.zero_le _, om, om, om⟩ ?_
 rintro ⟨j, q2⟩ n hF
 change WC _ _ _ _ _ (_ :: _) (outH _ _ _ _ _) n _
 obtain ⟨hj, hq1, hq2, hn2⟩ := hF
 have h6 : nK + (1 + (4 + 5)) < n := by omega
 have h62 : nK + (1 + (4 + 5)) ≠ q2 := by omega
 refine iC (z := 1) J <| aA (cC J J) J <| bF (fun h26 => ?_) (fun h26 => ?_)
 rotate_left
 ·refine dZ ?_
  have hje : j = (ss.getD i default).2.2.length := by omega
  have hK : (tab j (fun t => cpC ((ss.getD i default).2.2.getD t default))) = ((ss.getD i default).2.2.map cpC) := oE (by rw [bX, List.length_map]; exact hje) fun t ht => by
   rw [bX] at ht
   rw [iQ _ ht, mapD (f := cpC) om]
  rw [hK]
  refine Fz.cellR (A := [_, _]) [(2, _), (3, _), (6, _), (11, _), (12, _), (13, _), (23, _), (24, _), (25, _), (26, _)] ⟨J, J, J, J, J, J, J, J, J, J, trivial⟩ om (by decide) (cP (f := chc) (n := 3) fun _ => rfl) (cD dchc1) (by repeat (first | rfl | refine gN om ?_ | refine cN om ?_)) ?_
  rw [nM, List.length_map]
  refine aU J <| bA <| aP <| aQ J <| aI (z := 7) J <| aA (bD J J J J J) J <| aA (aL J J (by repeat (first | exact g0 | refine g1 om ?_ | refine aD om ?_)) J J) J ?_
  refine aA (aL (l := .agg (stc (cpS (ss.getD i default)))) J J (by repeat (first | exact g0 | refine g1 om ?_ | refine aD om ?_)) J J) J ?_
  refine aA (dK (cs := [_, _, _]) (rows := [[_, _, _]]) J J (by decide) J J J) J <| kE _ (subsM.get (aX (q := q) (sz := 3) (el := (40)) (us := (tab i (fun t => cpS (ss.getD t default))).map stc) (h := [(3, { cells := [outV q 3 ((tab i (fun t => cpS (ss.getD t default))).map stc)], sz := 1, elem := (26), st := 0 }), (1, { cells := [.sl 0 []], sz := 1, elem := (26), st := 0 })]) (fun hne => by rw [bI hne]; repeat (first | exact g0 | refine g1 om ?_ | refine aD om ?_)) ⟨(by repeat (first | exact g0 | refine g1 om ?_ | refine aD om ?_)), (by repeat (first | exact g0 | refine g1 om ?_ | refine aD om ?_)), trivial⟩)) ?_
  refine qQ (te := ti40) (f := stc) (q := q) (us := (tab i (fun t => cpS (ss.getD t default)))) (u := cpS (ss.getD i default)) J J J J J (fun _ => rfl) (by decide) (by rw [bX]; show (2 * (i + 1) + 256) * 40 ≤ _; omega) (by rw [bX]; omega) (by repeat (first | rfl | refine gN om ?_ | refine cN om ?_)) (by repeat (first | rfl | refine gN om ?_ | refine cN om ?_)) J ?_
  refine aA (bD J J J J J) J <| aW (oStV J J J J J (by repeat (first | exact g0 | refine g1 om ?_ | refine aD om ?_))) ?_
  refine Wn <| aF <| Ck [2,3,11,12,13] J <| aI (z := 2) J <| aA (cI (((i + 1 : Nat) : Int)) (aR J J om) om) J <| Um J J <| Wn <| aE ?_
  have ea : tab (i + 1) (fun t => cpS (ss.getD t default)) = (tab i (fun t => cpS (ss.getD t default))) ++ [cpS (ss.getD i default)] := lF _
  refine ⟨⟨i + 1, (n + 1 + 4)⟩, ⟨J, J, J, J, J, trivial⟩, by dsimp only; rw [ea]; exact aX (fun hne => by rw [bI hne]; repeat (first | exact g0 | refine g1 om ?_ | refine aD om ?_)) ⟨(by repeat (first | exact g0 | refine g1 om ?_ | refine aD om ?_)), (by repeat (first | exact g0 | refine g1 om ?_ | refine aD om ?_)), trivial⟩, ⟨om, om, om⟩, by show ss.length - (i + 1) < ss.length - i; omega⟩
 refine Wn <| Fz.same [(2, _), (3, _), (6, _), (11, _), (12, _), (13, _), (23, _), (24, _), (25, _), (26, _)] _ ⟨J, J, J, J, J, J, J, J, J, J, trivial⟩ (fun _ _ h => h) <| aS J <| aG <| aJ ?_
 have hmc := bO (us := (ss.getD i default).2.2) (i := j) om
 have hbs := hcl.2 _ hmc
 refine Rg 4 J <| aA (cK J J J J J om J) J <| aA (dX (l := lvC ((ss.getD i default).2.2.getD j default)) J J J) J <| bB (fN J) J <| aW (dA (cs' := chc ((ss.getD i default).2.2.getD j default)) J J J g0 J J J J) <| Wn <| WC.draw1F (z := 13) J kR <| aO (bD J J J J J) J <| aO (aL J J (by repeat (first | exact g0 | refine g1 om ?_ | refine aD om ?_)) J J) J ?_
 refine aO (bD J J J J J) J <| aO (aL (l := lvM ((ss.getD i default).2.2.getD j default).1) J J (by repeat (first | exact g0 | refine g1 om ?_ | refine aD om ?_)) J J) J ?_
 refine aO (dK (cs := []) (rows := []) J J (by decide) J J J) J <| aO (bD J J J J J) J <| aO (aL J J (by repeat (first | exact g0 | refine g1 om ?_ | refine aD om ?_)) J J) J ?_
 refine WD.apK (te := ti34) (k0 := 2) (rows := (((ss.getD i default).2.2.getD j default).2.2.map brc)) (.inr J) J J J J J (by decide) (cP (f := brc) (n := 3) fun _ => rfl) (by rw [List.length_map]; show (2 * ((ss.getD i default).2.2.getD j default).2.2.length + 256) * 24 ≤ _; omega) (by rw [List.length_map]; omega) J <| aO (iA (cs := [.v (.int .i64 ((ss.getD i default).2.2.getD j default).1.1), .v (.int .i64 ((ss.getD i default).2.2.getD j default).1.2), (outK 2 (n + 1 + 4 + 7) 3 (((ss.getD i default).2.2.getD j default).2.2.map brc))]) J J J J (by generalize (((ss.getD i default).2.2.getD j default).2.2.map brc) = z; cases z <;> rfl)) J <| aO (dK (cs := [.v (.int .i64 ((ss.getD i default).2.2.getD j default).1.1), .v (.int .i64 ((ss.getD i default).2.2.getD j default).1.2), (outK 2 (n + 1 + 4 + 7) 3 (((ss.getD i default).2.2.getD j default).2.2.map brc))]) (rows := [[.v (.int .i64 ((ss.getD i default).2.2.getD j default).1.1), .v (.int .i64 ((ss.getD i default).2.2.getD j default).1.2), (outK 2 (n + 1 + 4 + 7) 3 (((ss.getD i default).2.2.getD j default).2.2.map brc))]]) J J (by decide) J (by generalize (((ss.getD i default).2.2.getD j default).2.2.map brc) = z; cases z <;> rfl) J) J ?_
 refine nP _ (subsM.get (aX (q := q2) (sz := 3) (el := (37)) (us := ((tab j (fun t => cpC ((ss.getD i default).2.2.getD t default))).map chc)) (h := outH (n + 1 + 4 + 7) 3 (34) (((ss.getD i default).2.2.getD j default).2.2.map brc) (((n + 1 + 2), { cells := chc ((ss.getD i default).2.2.getD j default), sz := 3, elem := (37), st := 0 }) :: ((nK + 1 + 4 + 5), { cells := [.v (.int .i64 (ss.getD i default).1.1), .v (.int .i64 (ss.getD i default).1.2), outV q2 3 ((tab j (fun t => cpC ((ss.getD i default).2.2.getD t default))).map chc)], sz := 3, elem := (40), st := 0 }) :: outH q 3 (40) ((tab i (fun t => cpS (ss.getD t default))).map stc) [(3, { cells := [outV q 3 ((tab i (fun t => cpS (ss.getD t default))).map stc)], sz := 1, elem := (26), st := 0 }), (1, { cells := [.sl 0 []], sz := 1, elem := (26), st := 0 })])) (fun hne => by rw [bI hne]; repeat (first | exact g0 | refine g1 om ?_ | refine aD om ?_)) (aX (fun hne => by rw [bI hne]; repeat (first | exact g0 | refine g1 om ?_ | refine aD om ?_)) ⟨(by repeat (first | exact g0 | refine g1 om ?_ | refine aD om ?_)), (by repeat (first | exact g0 | refine g1 om ?_ | refine aD om ?_)), (aX (fun hne => by rw [bI hne]; repeat (first | exact g0 | refine g1 om ?_ | refine aD om ?_)) ⟨(by repeat (first | exact g0 | refine g1 om ?_ | refine aD om ?_)), (by repeat (first | exact g0 | refine g1 om ?_ | refine aD om ?_)), trivial⟩)⟩))) ?_
 refine WD.ap (te := ti37) (k0 := 0) (us := ((tab j (fun t => cpC ((ss.getD i default).2.2.getD t default))).map chc)) (rows := [[.v (.int .i64 ((ss.getD i default).2.2.getD j default).1.1), .v (.int .i64 ((ss.getD i default).2.2.getD j default).1.2), (outK 2 (n + 1 + 4 + 7) 3 (((ss.getD i default).2.2.getD j default).2.2.map brc))]]) (.inl J) J J J (by rw [pZ]; rfl) J (by decide) (by intro r hr; rw [List.mem_singleton] at hr; subst hr; rfl) (cP (f := chc) (n := 3) fun _ => rfl) (by simp) (by rw [List.length_map, bX]; show (2 * (j + 1) + 256) * 40 ≤ _; omega) (by rw [List.length_map, bX]; show j + 1 < _; omega) (by repeat (first | rfl | refine gN om ?_ | refine cN om ?_)) J ?_
 refine aO (bD J J J J J) J <| dQ (dA (cs' := [_, _, _]) J J J (by repeat (first | exact g0 | refine g1 om ?_ | refine aD om ?_)) J J J J) ?_
 refine bY (gA (rq q2 n) (by simp only [List.reverse_cons, List.reverse_nil, List.nil_append, List.cons_append, List.map_cons, List.map_nil, ren, keys, Nat.add_assoc, rq_self, rq_lt h6 h62, rq_add hq2]; kernel_rfl)) J <| Fz.weakH (outH (n + 1 + 4 + 7) 3 (34) (((ss.getD i default).2.2.getD j default).2.2.map brc) (((n + 1 + 4 + 10), { cells := (((tab j (fun t => cpC ((ss.getD i default).2.2.getD t default))).map chc).flatten ++ [LV.v (.int .i64 ((ss.getD i default).2.2.getD j default).1.1), .v (.int .i64 ((ss.getD i default).2.2.getD j default).1.2)]) ++ [(outK 2 (n + 1 + 4 + 7) 3 (((ss.getD i default).2.2.getD j default).2.2.map brc))], sz := 3, elem := (37), st := 0 }) :: ((nK + 1 + 4 + 5), { cells := [.v (.int .i64 (ss.getD i default).1.1), .v (.int .i64 (ss.getD i default).1.2), .ref (n + 1 + 4 + 10) 3 0 (((tab j (fun t => cpC ((ss.getD i default).2.2.getD t default))).map chc).length + 1)], sz := 3, elem := (40), st := 0 }) :: outH q 3 (40) ((tab i (fun t => cpS (ss.getD t default))).map stc) [(3, { cells := [outV q 3 ((tab i (fun t => cpS (ss.getD t default))).map stc)], sz := 1, elem := (26), st := 0 }), (1, { cells := [.sl 0 []], sz := 1, elem := (26), st := 0 })])) (subsM.get (aX (fun hne => by rw [bI hne]; repeat (first | exact g0 | refine g1 om ?_ | refine aD om ?_)) ⟨by rw [List.append_assoc]; exact (by repeat (first | exact g0 | refine g1 om ?_ | refine aD om ?_)), (by repeat (first | exact g0 | refine g1 om ?_ | refine aD om ?_)), (aX (fun hne => by rw [bI hne]; repeat (first | exact g0 | refine g1 om ?_ | refine aD om ?_)) ⟨(by repeat (first | exact g0 | refine g1 om ?_ | refine aD om ?_)), (by repeat (first | exact g0 | refine g1 om ?_ | refine aD om ?_)), trivial⟩)⟩)) ?_
 refine Fz.copyC [(2, _), (3, _), (6, _), (11, _), (12, _), (13, _), (23, _), (24, _), (25, _)] ⟨J, J, J, J, J, J, J, J, J, trivial⟩ om (by decide) (cP (f := brc) (n := 3) fun _ => rfl) dbrc (by repeat (first | rfl | refine gN om ?_ | refine cN om ?_)) ?_
 rw [List.length_map]
 refine aF <| aI (z := 2) J <| aA (cI (((j + 1 : Nat) : Int)) (aR J J om) om) J <| Um J J <| Wn <| aE ?_
 have eu : tab (j + 1) (fun t => cpC ((ss.getD i default).2.2.getD t default)) = (tab j (fun t => cpC ((ss.getD i default).2.2.getD t default))) ++ [cpC ((ss.getD i default).2.2.getD j default)] := lF _
 refine ⟨⟨j + 1, (n + 1 + 4 + 10)⟩, ⟨J, J, J, J, J, J, J, J, J, trivial⟩, by dsimp only; rw [eu, List.map_append, List.map_cons, List.map_nil, gZ, hJ]; exact ⟨(Eq.trans (by repeat (first | exact g0 | refine g1 om ?_ | refine aD om ?_)) (congrArg (fun z => some (Ob.mk z 3 (37) 0)) (List.append_assoc _ _ _))), (by repeat (first | exact g0 | refine g1 om ?_ | refine aD om ?_)), (aX (fun hne => by rw [bI hne]; repeat (first | exact g0 | refine g1 om ?_ | refine aD om ?_)) ⟨(by repeat (first | exact g0 | refine g1 om ?_ | refine aD om ?_)), (by repeat (first | exact g0 | refine g1 om ?_ | refine aD om ?_)), trivial⟩)⟩, ⟨om, om, om, om⟩, by show (ss.getD i default).2.2.length - (j + 1) < (ss.getD i default).2.2.length - j; omega⟩
end Go.Proofs.Ytcblgjaomljikaa
namespace Go.Proofs.Ytcblgjaomljikaa
open Go.Ab Go.RowKit
theorem ident_run (k k' : Nat) (ss : List Go.Ab.ST) (hb1 : ss.length ≤ 1000) (hb2 : ∀ x, x ∈ ss → x.2.2.length ≤ 1000 ∧ ∀ c, c ∈ x.2.2 → c.2.2.length ≤ 1000) : Run Try.prog T E0 (.call 21 [lvMo k ss, lvMo k' (cpM ss)] (.v (.bool true))) := by
 refine aZ Try.func21 J J (cW J) <| Rg 3 J <| bB (dY J J) J <| bB (dY J J) J <| Ua J J <| Wn <| aC <| Rg 7 J <| aA (bD J J J J J) J <| aA (aL J J gG J J) J ?_
 refine aA (bC J J) J <| aA (bD J J J J J) J <| aA (aL J J gG J J) J ?_
 refine aA (bC J J) J <| aA (bP (b := .v (.bool false)) (iO J J) (by rw [WL_cp]; simp)) J <| Wn <| aU J <| aG <| aC <| Rg 4 J <| aA (bD J J J J J) J <| aA (aL J J gG J J) J ?_
 refine aA (bC J J) J <| Um J J <| Nk [3,21,22,23] J <| aJ <| aY (α := Nat) (fun i => [(3, .ptr 1 0), (21, .sl k (ss.map stc)), (22, .v (.int .i64 (ss.length : Int))), (23, .v (.int .i64 (i : Int)))]) (fun i => [(1, { cells := [.sl k' ((cpM ss).map stc)], sz := 1, elem := (26), st := 0 })]) (fun i n => i ≤ ss.length ∧ 2 < n) (fun i => ss.length - i) (0) ⟨J, J, J, J, trivial⟩ ⟨gG, trivial⟩ ⟨Nat.zero_le _, om⟩ ?_
 rintro i n hF
 change WC _ _ _ _ _ (_ :: _) (_ :: _) n _
 obtain ⟨hi, hn0⟩ := hF
 obtain ⟨nK, hnK⟩ : ∃ z, z = n := ⟨n, rfl⟩
 subst hnK
 refine Rg 1 J <| aA (cC J J) J <| bF (fun h24 => ?_) (fun h24 => ?_)
 rotate_left
 ·refine Wn <| aU J <| bA <| aP <| aQ J <| Rg 1 J <| Ua J J <| Wn <| aK <| post (n := 0) (.inr J) J ?_ dD
  rfl
 refine Wn <| aS J <| aG <| aJ ?_
 have hm := bO (us := ss) (i := i) om
 have hcl := hb2 _ hm
 refine Rg 6 J <| Um J J <| aA (cK J J J J J om J) J <| aA (dX (l := .agg (stc (ss.getD i default))) J J J) J <| bB (fN J) J <| Ua J J <| aW (dA (cs' := stc (ss.getD i default)) J J J g0 J J J J) <| Wn <| Rg 7 J <| aA (bD J J J J J) J <| aA (aL J J gG J J) J ?_
 refine Um J J <| aA (cK (us := cpM ss) (j := i) J J J J J (by rw [WL_cp]; omega) J) J <| aA (bP (b := .agg (stc (cpS (ss.getD i default)))) (dX (l := .agg (stc ((cpM ss).getD i default))) J J J) (by rw [cpM_get om])) J <| bB (fN J) J <| aW (dA (cs' := stc (cpS (ss.getD i default))) J J J g0 J J J J) <| Nk [3,6,7,21,22,23] J <| aC <| Rg 21 J <| aA (bD J J J J J) J <| aA (aL J J gG J J) J ?_
 refine aA (bD J J J J J) J <| aA (aL J J gG J J) J ?_
 refine aA (bP (b := .v (.bool false)) (iO J J) (by exact congrArg (fun z => LV.v (.bool z)) (decide_eq_false (fun h => h J)))) J <| Um J J <| aH J (bD J J J J J) J <| aH J (aL J J gG J J) J ?_
 refine aH J (bD J J J J J) J <| aH J (aL J J gG J J) J ?_
 refine aH J (bP (b := .v (.bool false)) (iO J J) (by exact congrArg (fun z => LV.v (.bool z)) (decide_eq_false (fun h => h J)))) J <| aA (bZ J J) J <| Um J J <| aH J (bD J J J J J) J <| aH J (aL J J gG J J) J ?_
 refine aH J (bC J J) J <| aH J (bD J J J J J) J <| aH J (aL J J gG J J) J ?_
 refine aH J (bC J J) J <| aH J (bP (b := .v (.bool false)) (iO J J) (by show LV.v (.bool (decide (((ss.getD i default).2.2.length : Int) ≠ (((ss.getD i default).2.2.map cpC).length : Int)))) = _; rw [List.length_map]; simp)) J <| aA (bZ J J) J <| Nk [3,6,7,21,22,23,39,40,41,42,43,46,47,48,49,50,51,52,53] J <| aU J <| aG <| Rg 4 J <| aA (bD J J J J J) J <| aA (aL J J gG J J) J ?_
 refine aA (bC J J) J <| Um J J <| Nk [3,7,21,22,23,39,40,41,42,43,46,47,48,49,50,51,52,55,56,57] J <| cM <| aY (α := Nat) (fun j => [(3, .ptr 1 0), (7, .ptr (nK + 1 + 6 + 5) 0), (21, .sl k (ss.map stc)), (22, .v (.int .i64 (ss.length : Int))), (23, .v (.int .i64 (i : Int))), (55, .sl (ss.getD i default).2.1 ((ss.getD i default).2.2.map chc)), (56, .v (.int .i64 ((ss.getD i default).2.2.length : Int))), (57, .v (.int .i64 (j : Int)))]) (fun j => [((nK + 1 + 6 + 5), { cells := stc (cpS (ss.getD i default)), sz := 3, elem := (40), st := 0 }), (1, { cells := [.sl k' ((cpM ss).map stc)], sz := 1, elem := (26), st := 0 })]) (fun j n => j ≤ (ss.getD i default).2.2.length ∧ nK + 13 ≤ n) (fun j => (ss.getD i default).2.2.length - j) (0) ⟨J, J, J, J, J, J, J, J, trivial⟩ ⟨gG, gG, trivial⟩ ⟨Nat.zero_le _, om⟩ ?_
 rintro j n hF
 change WC _ _ _ _ _ (_ :: _) (_ :: _) n _
 obtain ⟨hj, hn1⟩ := hF
 obtain ⟨nL, hnL⟩ : ∃ z, z = n := ⟨n, rfl⟩
 subst hnL
 refine Rg 1 J <| aA (cC J J) J <| bF (fun h58 => ?_) (fun h58 => ?_)
 rotate_left
 ·refine Wn <| aU J <| bA <| aP <| eV J <| aF <| aI (z := 2) J <| aA (cI (((i + 1 : Nat) : Int)) (aR J J om) om) J <| Um J J <| Wn <| aE <| ⟨i + 1, ⟨J, J, J, J, trivial⟩, ⟨gG, trivial⟩, ⟨om, om⟩, by show ss.length - (i + 1) < ss.length - i; omega⟩
 refine Wn <| aS J <| aG <| aJ ?_
 have hmc := bO (us := (ss.getD i default).2.2) (i := j) om
 have hbs := hcl.2 _ hmc
 refine Rg 6 J <| Um J J <| aA (cK J J J J J om J) J <| aA (dX (l := lvC ((ss.getD i default).2.2.getD j default)) J J J) J <| bB (fN J) J <| Ua J J <| aW (dA (cs' := chc ((ss.getD i default).2.2.getD j default)) J J J g0 J J J J) <| Wn <| Rg 7 J <| aA (bD J J J J J) J <| aA (aL J J gG J J) J ?_
 refine Um J J <| aA (cK (us := (ss.getD i default).2.2.map cpC) (j := j) J J J J J (by rw [List.length_map]; omega) J) J <| aA (bP (b := lvC (cpC ((ss.getD i default).2.2.getD j default))) (dX (l := lvC (((ss.getD i default).2.2.map cpC).getD j default)) J J J) (by rw [mapD (f := cpC) om])) J <| bB (fN J) J <| aW (dA (cs' := chc (cpC ((ss.getD i default).2.2.getD j default))) J J J g0 J J J J) <| Nk [3,7,9,10,21,22,23,55,56,57] J <| aC <| Rg 14 J <| aA (bD J J J J J) J <| aA (aL (l := lvM ((ss.getD i default).2.2.getD j default).1) J J gG J J) J ?_
 refine aA (bD J J J J J) J <| aA (aL (l := lvM ((ss.getD i default).2.2.getD j default).1) J J gG J J) J ?_
 refine aA (bP (b := .v (.bool false)) (oNeS J J J J J) (by simp)) J <| Um J J <| aH J (bD J J J J J) J <| aH J (aL J J gG J J) J ?_
 refine aH J (bC J J) J <| aH J (bD J J J J J) J <| aH J (aL J J gG J J) J ?_
 refine aH J (bC J J) J <| aH J (bP (b := .v (.bool false)) (iO J J) (by simp [cpC])) J <| aA (bZ J J) J <| Nk [3,7,9,10,21,22,23,55,56,57,73,74,75,76,77,78,79,80] J <| aU J <| aG <| Rg 4 J <| aA (bD J J J J J) J <| aA (aL J J gG J J) J ?_
 refine aA (bC J J) J <| Um J J <| Nk [3,7,10,21,22,23,55,56,57,73,74,75,76,77,78,79,82,83,84] J <| cM <| aY (α := Nat) (fun b => [(3, .ptr 1 0), (7, .ptr (nK + 1 + 6 + 5) 0), (10, .ptr (nL + 1 + 6 + 5) 0), (21, .sl k (ss.map stc)), (22, .v (.int .i64 (ss.length : Int))), (23, .v (.int .i64 (i : Int))), (55, .sl (ss.getD i default).2.1 ((ss.getD i default).2.2.map chc)), (56, .v (.int .i64 ((ss.getD i default).2.2.length : Int))), (57, .v (.int .i64 (j : Int))), (82, .sl ((ss.getD i default).2.2.getD j default).2.1 (((ss.getD i default).2.2.getD j default).2.2.map brc)), (83, .v (.int .i64 (((ss.getD i default).2.2.getD j default).2.2.length : Int))), (84, .v (.int .i64 (b : Int)))]) (fun b => [((nL + 1 + 6 + 5), { cells := chc (cpC ((ss.getD i default).2.2.getD j default)), sz := 3, elem := (37), st := 0 }), ((nK + 1 + 6 + 5), { cells := stc (cpS (ss.getD i default)), sz := 3, elem := (40), st := 0 }), (1, { cells := [.sl k' ((cpM ss).map stc)], sz := 1, elem := (26), st := 0 })]) (fun b n => b ≤ ((ss.getD i default).2.2.getD j default).2.2.length ∧ nL + 13 ≤ n) (fun b => ((ss.getD i default).2.2.getD j default).2.2.length - b) (0) ⟨J, J, J, J, J, J, J, J, J, J, J, J, trivial⟩ ⟨gG, gG, gG, trivial⟩ ⟨Nat.zero_le _, om⟩ ?_
 rintro b n hF
 change WC _ _ _ _ _ (_ :: _) (_ :: _) n _
 obtain ⟨hb, hn2⟩ := hF
 have h10 : nL + (1 + (6 + 5)) < n := by omega
 refine Rg 1 J <| aA (cC J J) J <| bF (fun h85 => ?_) (fun h85 => ?_)
 rotate_left
 ·refine Wn <| aU J <| bA <| aP <| eV J <| aF <| aI (z := 2) J <| aA (cI (((j + 1 : Nat) : Int)) (aR J J om) om) J <| Um J J <| Wn <| aE <| ⟨j + 1, ⟨J, J, J, J, J, J, J, J, trivial⟩, ⟨gG, gG, trivial⟩, ⟨om, om⟩, by show (ss.getD i default).2.2.length - (j + 1) < (ss.getD i default).2.2.length - j; omega⟩
 refine Wn <| aS J <| aG <| aJ <| Rg 6 J <| Um J J <| aA (cK J J J J J om J) J <| aA (dX (l := .agg (brc (((ss.getD i default).2.2.getD j default).2.2.getD b default))) J J J) J <| bB (fN J) J <| Ua J J <| aW (dA (cs' := brc (((ss.getD i default).2.2.getD j default).2.2.getD b default)) J J J g0 J J J J) <| Nk [3,7,10,11,12,21,22,23,55,56,57,82,83,84] J <| cH (z := 7) J kR <| aO (aL (l := .agg (brc (((ss.getD i default).2.2.getD j default).2.2.getD b default))) J J gG J J) J ?_
 refine aO (bD J J J J J) J <| aO (aL J J gG J J) J ?_
 refine Dm J J <| aO (cK (us := ((ss.getD i default).2.2.getD j default).2.2) (j := b) J J J J J om J) J <| aO (dX (l := .agg (brc (((ss.getD i default).2.2.getD j default).2.2.getD b default))) J J J) J <| aO (bP (b := .v (.bool false)) (oNeS J J J J J) (by simp)) J <| bY (gA (rn n) (by simp only [List.reverse_cons, List.reverse_nil, List.nil_append, List.cons_append, List.map_cons, List.map_nil, ren, keys, Nat.add_assoc, oS, rn_lt h10]; kernel_rfl)) J <| Ck [3,7,10,21,22,23,55,56,57,82,83,84,95] J <| bT J <| bR <| aF <| aI (z := 2) J <| aA (cI (((b + 1 : Nat) : Int)) (aR J J om) om) J <| Um J J <| Wn <| aE <| ⟨b + 1, ⟨J, J, J, J, J, J, J, J, J, J, J, J, trivial⟩, ⟨gG, gG, gG, trivial⟩, ⟨om, om⟩, by show ((ss.getD i default).2.2.getD j default).2.2.length - (b + 1) < ((ss.getD i default).2.2.getD j default).2.2.length - b; omega⟩
end Go.Proofs.Ytcblgjaomljikaa
