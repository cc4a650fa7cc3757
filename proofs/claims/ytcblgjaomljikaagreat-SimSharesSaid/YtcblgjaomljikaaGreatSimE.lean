/- Part E of the proof of simShares_holds: what it rests on. No condition. -/
import Derived.Test.YtcblgjaomljikaaGreatSimD
import Derived.Test.YtcblgjaomljikaaGreatChecked
set_option linter.unusedVariables false
set_option linter.unusedSimpArgs false
set_option maxRecDepth 100000
set_option maxHeartbeats 4000000
namespace Go.Proofs.YtcblgjaomljikaaGreat
open Go.Ab Go.RowKit
theorem nplus_run (v w : Int) (hv : len30 v < 1099511627775) (hw : len30 w < 1099511627775) : Run Tryz.prog T E0 (.call 75 [lvN v, lvN w] (lvN (v + w))) := by
 obtain ⟨xs, hxs, dv, qv, tv, lxv⟩ := ns_of v
 obtain ⟨ys, hys, dw, qw, tw, lyw⟩ := ns_of w
 have bv := pE v
 have bw := pE w
 refine bC Tryz.func75 J J (cX J) ?_
 have J3 : ∀  (n : Nat) , WC Tryz.prog T E0 Tryz.f75.ntmps (codeR (codeR (codeOf Tryz.f75))) [(2, .ptr 0 0), (3, .ptr 1 0), (4, .ptr 2 0)] [(2, { cells := [.v (.int .i64 0), .v (.bool false), .sl 0 []], sz := 3, elem := 62, st := 0 }), (1, { cells := (lvN w).cells, sz := 3, elem := 62, st := 0 }), (0, { cells := (lvN v).cells, sz := 3, elem := 62, st := 0 })] n (Post T Tryz.f75.results.toList (lvN (v + w))) := by
  intro  n
  refine bQ (z := 6) J kR <| aJ (aO (l := .agg [_, _, _]) J J J J J) J <| aJ (aN J ((hxs ▸ iB v)) (by simp)) J <| aJ (aO (l := .agg [_, _, _]) J J J J J) J <| aJ (aN J ((hys ▸ iB w)) (by simp)) J <| aJ (kU J) J <| aJ (kU J) J <| bK (aV kR) J <| bQ (z := 8) J kR <| aJ (aO (l := .agg [_, _, _]) J J J J J) J <| aJ (aN J (dV _) (by simp)) J <| aJ (bL (b := .v (.bool (decide (v < 0)))) (bP J J) (by rw [qP])) J <| aJ (aO (l := .agg [_, _, _]) J J J J J) J <| aJ (aN J (dV _) (by simp)) J <| aJ (bL (b := .v (.bool (decide (w < 0)))) (bP J J) (by rw [qP])) J <| aJ (kU J) J <| aJ (kU J) J <| bK (aV kR) J <| Ck [4,5,6,7,8] J <| aL <| Rg 4 J <| Um J J <| Um J J <| aA (oEqB J J J) J ?_
  refine dC (fun h38 => ?_) (fun h38 => ?_)
  ·refine Ua J J <| Wn <| bU J ?_
   obtain ⟨r, hr, ds, rfl, hdd, hvl, hln⟩ := nsum_run (if xs.length = 0 then 0 else 1) (if ys.length = 0 then 0 else 1) xs ys qv qw om om
   refine Rg 6 J <| Um J J <| Um J J <| Um J J <| aA (aN J (hr) (by simp)) J <| aA (aN J (iC (decide (v < 0)) _ ds pY hdd om) (by simp)) J <| aY (cH (cs' := [_, _, _]) J J J J J J J J) <| Wn <| aM <| aK <| post (n := 0) (.inr J) J ?_ (by simp)
   rw [← plus_same h38, ← dv, ← dw, ← hvl]; rfl
  refine Ua J J <| Wn <| bZ J <| Rg 5 J <| Um J J <| Um J J <| aA (aN J (jU _ _ xs ys qv qw tv tw om om) (by simp)) J <| aA (fJ J J) J <| aW (fun h48 => ?_) (fun h48 => ?_)
  ·refine Ua J J <| Wn <| bU J ?_
   have hge : val 1073741824 ys ≤ val 1073741824 xs := by
    rcases Nat.lt_or_ge (val 1073741824 xs) (val 1073741824 ys) with h | h
    ·have := Int.sign_eq_neg_one_of_neg (a := (val 1073741824 xs : Int) - val 1073741824 ys) om; omega
    ·exact h
   have hll : ys.length ≤ xs.length := by
    rcases Nat.lt_or_ge xs.length ys.length with h | h
    ·have := dM (by decide) qv tw h; omega
    ·exact h
   obtain ⟨r, hr, ds, rfl, hdd, hvl, hln⟩ := ndiff_run (if xs.length = 0 then 0 else 1) (if ys.length = 0 then 0 else 1) xs ys qv qw om hll hge
   refine Rg 6 J <| Um J J <| Um J J <| Um J J <| aA (aN J (hr) (by simp)) J <| aA (aN J (iC (decide (v < 0)) _ ds pY hdd om) (by simp)) J <| aY (cH (cs' := [_, _, _]) J J J J J J J J) <| Nk [4] J <| aM <| aK <| post (n := 0) (.inr J) J ?_ (by simp)
   rw [← plus_diff h38 om, ← dv, ← dw, ← hvl]; rfl
  refine Ua J J <| Wn <| bZ J <| cE <| aF ?_
  have hge : val 1073741824 xs ≤ val 1073741824 ys := by
   rcases Nat.lt_or_ge (val 1073741824 ys) (val 1073741824 xs) with h | h
   ·have := Int.sign_eq_one_of_pos (a := (val 1073741824 xs : Int) - val 1073741824 ys) om; omega
   ·exact h
  have hll : xs.length ≤ ys.length := by
   rcases Nat.lt_or_ge ys.length xs.length with h | h
   ·have := dM (by decide) qw tv h; omega
   ·exact h
  obtain ⟨r, hr, ds, rfl, hdd, hvl, hln⟩ := ndiff_run (if ys.length = 0 then 0 else 1) (if xs.length = 0 then 0 else 1) ys xs qw qv om hll hge
  refine Rg 6 J <| Um J J <| Um J J <| Um J J <| aA (aN J (hr) (by simp)) J <| aA (aN J (iC (decide (w < 0)) _ ds pY hdd om) (by simp)) J <| aY (cH (cs' := [_, _, _]) J J J J J J J J) <| Nk [4] J <| aM <| post (n := 0) (.inr J) J ?_ (by simp)
  rw [← plus_diff' h38 om, ← dv, ← dw, ← hvl]; rfl
 refine Rg 3 J <| bD (dY J J) J <| bD (dY J J) J <| bD (dX J) J <| Wn <| aB <| Rg 10 J <| aA (bB J J J J J) J <| aA (aO J J J J J) J <| aA (aX J J) J <| aA (eR J J) J <| aW (fun h12 => ?_) (fun h12 => ?_)
 rotate_left
 ·refine Um J J <| K1 J J <| K1 J J <| K1 J J <| K1 J J <| aA (bF J J) J <| Nk [2,3,4,18] J <| aT J <| aD <| Ck [2,3,4] J ?_
  exact J3 _
 refine Um J J <| aE J (bB J J J J J) J <| aE J (aO J J J J J) J <| aE J (aX J J) J <| aE J (eR J J) J <| aW (fun h17 => ?_) (fun h17 => ?_)
 rotate_left
 ·refine aA (bG J J) J <| Nk [2,3,4,18] J <| aT J <| aD <| Ck [2,3,4] J ?_
  exact J3 _
 refine aA (bG J J) J <| Nk [2,3,4,18] J <| aP J <| aB ?_
 have h1 := dW (gZ.1 h12)
 have h2 := dW (gZ.1 h17)
 refine Rg 7 J <| aA (bB J J J J J) J <| aA (cI v (aO J J J J J) h1) J <| aA (bB J J J J J) J <| aA (cI w (aO J J J J J) h2) J <| aA (aR J J om) J <| aA (aN J (hJ _ (by unfold I64; omega)) (by simp)) J <| aY (cH (cs' := [_, _, _]) J J J J J J J J) <| Wn <| aU <| post (n := 0) (.inr J) J ?_ (by simp)
 rfl
theorem mL (v w : Int) (hv : len30 v < 549755813888) (hw : len30 w < 549755813888) : Run Tryz.prog T E0 (.call 74 [lvN v, lvN w] (lvN (v * w))) := by
 obtain ⟨xs, hxs, dv, qv, tv, lxv⟩ := ns_of v
 obtain ⟨ys, hys, dw, qw, tw, lyw⟩ := ns_of w
 have bv := pE v
 have bw := pE w
 refine bC Tryz.func74 J J (cX J) ?_
 have J3 : ∀  (n : Nat) (hn : 3 ≤ n), WC Tryz.prog T E0 Tryz.f74.ntmps (codeR (codeR (codeOf Tryz.f74))) [(2, .ptr 0 0), (3, .ptr 1 0), (4, .ptr 2 0)] [(2, { cells := [.v (.int .i64 0), .v (.bool false), .sl 0 []], sz := 3, elem := 62, st := 0 }), (1, { cells := (lvN w).cells, sz := 3, elem := 62, st := 0 }), (0, { cells := (lvN v).cells, sz := 3, elem := 62, st := 0 })] n (Post T Tryz.f74.results.toList (lvN (v * w))) := by
  intro  n hn
  refine bQ (z := 6) J kR <| aJ (aO (l := .agg [_, _, _]) J J J J J) J <| aJ (aN J ((hxs ▸ iB v)) (by simp)) J <| aJ (aO (l := .agg [_, _, _]) J J J J J) J <| aJ (aN J ((hys ▸ iB w)) (by simp)) J <| aJ (kU J) J <| aJ (kU J) J <| bK (aV kR) J <| Rg 7 J <| Um J J <| aA (aX J J) J <| Um J J <| aA (aX J J) J <| aA (aR J J om) J <| bD (oMk (a := xs.length + ys.length) (b := xs.length + ys.length) J J J J om om (by decide) om (by show 8 * (xs.length + ys.length) ≤ _; omega) om) J <| Ua J J <| Nk [2,3,4,5,6,7] J <| aB <| Rg 3 J <| Um J J <| aA (aX J J) J <| Um J J <| cR ?_
  refine aL <| bA (α := Nat × Nat × (List Nat)) (fun ⟨i, q, us⟩ => [(2, .ptr 0 0), (3, .ptr 1 0), (4, .ptr 2 0), (5, .sl (if xs.length = 0 then 0 else 1) (xs.map d64)), (6, .sl (if ys.length = 0 then 0 else 1) (ys.map d64)), (7, .ref q 1 0 us.length), (58, .v (.int .i64 (xs.length : Int))), (59, .v (.int .i64 (i : Int)))]) (fun ⟨i, q, us⟩ => [(q, { cells := (us.map d64).flatten, sz := 1, elem := 3, st := 0 }), (2, { cells := [.v (.int .i64 0), .v (.bool false), .sl 0 []], sz := 3, elem := 62, st := 0 }), (1, { cells := (lvN w).cells, sz := 3, elem := 62, st := 0 }), (0, { cells := (lvN v).cells, sz := 3, elem := 62, st := 0 })]) (fun ⟨i, q, us⟩ n => i ≤ xs.length ∧ us.length = xs.length + ys.length ∧ Dg 1073741824 us ∧ val 1073741824 us = val 1073741824 (xs.take i) * val 1073741824 ys ∧ (∀ j, i + ys.length ≤ j → us.getD j default = 0) ∧ 2 < q) (fun ⟨i, q, us⟩ => xs.length - i) (0, n + 6 + 5, List.replicate (xs.length + ys.length) 0) ⟨rfl, rfl, rfl, rfl, rfl, congrArg some (by rw [List.length_replicate]; rfl), rfl, rfl, trivial⟩ ⟨g0.trans (by rw [List.map_replicate]; rfl), g1 om g0, g1 om (g1 (by decide) g0), g1 om (g1 (by decide) (g1 (by decide) g0)), trivial⟩ ⟨Nat.zero_le _, by simp, by intro d hd; simp at hd; rw [hd.2]; decide, by rw [lY]; simp [val], by intro j _; exact iI _ _, om⟩ ?_
  rintro ⟨i, q, us⟩ n hF
  change WC _ _ _ _ _ (_ :: _) (_ :: _) n _
  obtain ⟨hi, hul, hud, huv, huz, hq⟩ := hF
  refine Rg 1 J <| aA (bP J J) J <| aW (fun h60 => ?_) (fun h60 => ?_)
  rotate_left
  ·refine Wn <| aT J <| aZ <| aQ <| aS J ?_
   obtain ⟨q', rfl⟩ : ∃ q', q = q' + 3 := ⟨q - 3, om⟩
   have hE : val 1073741824 us = v.natAbs * w.natAbs := by
    rw [huv, List.take_of_length_le om, dv, dw]
   refine bQ (z := 8) J kR <| aJ (aO (l := .agg [_, _, _]) J J (g1 om (g1 (by decide) (g1 (by decide) g0))) J J) J <| aJ (aN J (dV _) (by simp)) J <| aJ (aO (l := .agg [_, _, _]) J J (g1 om (g1 (by decide) g0)) J J) J <| aJ (aN J (dV _) (by simp)) J <| aJ (fS J J) J <| Dm J J <| WD.S (rD [.v (.bool (decide (v.sign ≠ w.sign))), .sl 1 (us.map d64)] [(q' + 3, { cells := (us.map d64).flatten, sz := 1, elem := 3, st := 1 })] J (iC (decide (v.sign ≠ w.sign)) 1 us (.inl J) hud om) (.data (by simp) (.own _ (by simp) g0 (by show (0 : Nat) ≠ 2; decide) J (by decide) (by simp [keys]) J eZ cV .nil)) (by intro p hp; rw [List.mem_singleton] at hp; subst hp; exact ⟨_, g0, by show (0 : Nat) ≠ 2; decide, rfl⟩)) J <| cU (cH (cs' := [_, _, _]) J J J (g1 om (g1 om g0)) J J J J) <| bK (aV kR) J <| Ck [4] J <| aM <| post (n := 0) (.inr J) J ?_ (by simp)
   have e1 : (if decide (v.sign ≠ w.sign) = true then -((val 1073741824 us : Nat) : Int) else ((val 1073741824 us : Nat) : Int)) = v * w := by
    rw [made_mul (by intro h; rw [hE]; rcases h with h | h <;> rw [h] <;> simp), hE, Int.natCast_mul]
    have h1 := eK v
    have h2 := eK w
    grind
   rw [← e1]; rfl
  refine Wn <| aP J <| aD <| aL <| Rg 2 J <| Um J J <| Ua J J <| Wn <| Rg 1 J <| Ua J J <| Wn <| aB <| Rg 3 J <| Um J J <| aA (aX J J) J <| Um J J <| Nk [2,3,4,5,6,7,8,9,58,59,63,64] J <| aL <| bA (α := Nat × Nat × (List Nat)) (fun ⟨k, c, us1⟩ => [(2, .ptr 0 0), (3, .ptr 1 0), (4, .ptr 2 0), (5, .sl (if xs.length = 0 then 0 else 1) (xs.map d64)), (6, .sl (if ys.length = 0 then 0 else 1) (ys.map d64)), (7, .ref q 1 0 us1.length), (8, .v (.int .i64 (i : Int))), (9, .v (.int .i64 (c : Int))), (58, .v (.int .i64 (xs.length : Int))), (59, .v (.int .i64 (i : Int))), (63, .v (.int .i64 (ys.length : Int))), (64, .v (.int .i64 (k : Int)))]) (fun ⟨k, c, us1⟩ => [(q, { cells := (us1.map d64).flatten, sz := 1, elem := 3, st := 0 }), (2, { cells := [.v (.int .i64 0), .v (.bool false), .sl 0 []], sz := 3, elem := 62, st := 0 }), (1, { cells := (lvN w).cells, sz := 3, elem := 62, st := 0 }), (0, { cells := (lvN v).cells, sz := 3, elem := 62, st := 0 })]) (fun ⟨k, c, us1⟩ n => k ≤ ys.length ∧ us1.length = us.length ∧ Dg 1073741824 us1 ∧ c < 1073741824 ∧ val 1073741824 us1 + 1073741824 ^ (i + k) * c = val 1073741824 us + 1073741824 ^ i * (xs.getD i default * val 1073741824 (ys.take k)) ∧ (∀ j, i + k ≤ j → us1.getD j default = us.getD j default)) (fun ⟨k, c, us1⟩ => ys.length - k) (0, 0, us) ⟨J, J, J, J, J, J, J, J, J, J, J, J, trivial⟩ ⟨g0, g1 om g0, g1 om (g1 (by decide) g0), g1 om (g1 (by decide) (g1 (by decide) g0)), trivial⟩ ⟨Nat.zero_le _, rfl, hud, by decide, by simp [val], fun _ _ => rfl⟩ ?_
  rintro ⟨k, c, us1⟩ n hG
  change WC _ _ _ _ _ (_ :: _) (_ :: _) n _
  obtain ⟨hk, hl1, hd1, hc1, hv1, hz1⟩ := hG
  refine Rg 1 J <| aA (bP J J) J <| aW (fun h65 => ?_) (fun h65 => ?_)
  rotate_left
  ·refine Wn <| aT J <| aZ <| aQ <| aS J <| aH (z := 8) J <| Um J J <| Um J J <| Um J J <| aA (aX J J) J <| aA (cI (((i + ys.length : Nat) : Int)) (aR J J om) om) J <| Um J J <| aA (dF J J J J J om J) J <| aY (fT (f := d64) (us := us1) c J J J g0 (fun _ => rfl) J J om J) <| Wn <| aF <| Ck [2,3,4,5,6,7,58,59] J <| aH (z := 2) J <| aA (cI (((i + 1 : Nat) : Int)) (aR J J om) om) J <| Um J J <| Wn <| aG <| ⟨⟨i + 1, q, us1.set (i + ys.length) c⟩, ⟨rfl, rfl, rfl, rfl, rfl, congrArg some (by rw [List.length_set]), rfl, rfl, trivial⟩, ⟨g0, g1 om (g1 om g0), g1 om (g1 om (g1 (by decide) g0)), g1 om (g1 om (g1 (by decide) (g1 (by decide) g0))), trivial⟩, ⟨om, by rw [List.length_set]; omega, hd1.set _ hc1, ?_, ?_, hq⟩, by show xs.length - (i + 1) < xs.length - i; omega⟩
   ·have hk' : k = ys.length := by omega
    subst hk'
    have h1 := gA (B := 1073741824) us1 (i + ys.length) c om
    rw [hz1 _ (Nat.le_refl _), huz _ (Nat.le_refl _), Nat.mul_zero, Nat.add_zero] at h1
    rw [h1, hv1, huv, cL, List.take_of_length_le (Nat.le_refl _), Nat.add_mul, Nat.mul_assoc]
   ·intro j hj
    rw [fR om, hz1 j om]; exact huz j om
  refine Wn <| aP J <| aD <| aL <| Rg 2 J <| Um J J <| Ua J J <| Nk [2,3,4,5,6,7,8,9,10,58,59,63,64] J ?_
  have hp : xs.getD i default < 1073741824 := bH qv om
  have hqk : ys.getD k default < 1073741824 := bH qw om
  have ho : us1.getD (i + k) default < 1073741824 := bH hd1 om
  have hpq := mul30 hp hqk
  refine bQ (z := 19) J kR <| Dm J J <| Dm J J <| Dm J J <| Dm J J <| aJ (cI (((i + k : Nat) : Int)) (aR J J om) om) J <| aJ (dF J J J J J om J) J <| aJ (gL (f := d64) (us := us1) (j := i + k) J J g0 (fun _ => rfl) J (by decide) om J) J <| Dm J J <| Dm J J <| aJ (bS J J J J J om J) J <| aJ (dB J J J) J <| Dm J J <| Dm J J <| aJ (bS J J J J J om J) J <| aJ (dB J J J) J <| aJ (cI (((xs.getD i default * ys.getD k default : Nat) : Int)) (eS J J (by rw [← Int.natCast_mul]; omega)) (by simp)) J <| aJ (cI (((xs.getD i default * ys.getD k default + us1.getD (i + k) default : Nat) : Int)) (aR J J om) om) J <| aJ (cI ((((c + (xs.getD i default * ys.getD k default + us1.getD (i + k) default)) : Nat) : Int)) (aR J J om) om) J <| aJ (kU J) J <| bK (aV kR) J <| Ck [2,3,4,5,6,7,8,9,10,58,59,63,64] J <| Rg 8 J <| Um J J ?_
  refine Um J J <| Um J J <| aA (cI (((i + k : Nat) : Int)) (aR J J om) om) J <| Um J J <| aA (gM (a := (c + (xs.getD i default * ys.getD k default + us1.getD (i + k) default))) (b := 1073741824) J J (by decide)) J <| aA (dF J J J J J om J) J <| aY (fT (f := d64) (us := us1) ((c + (xs.getD i default * ys.getD k default + us1.getD (i + k) default)) % 1073741824) J J J g0 (fun _ => rfl) J J om J) <| Nk [2,3,4,5,6,7,8,9,58,59,63,64] J <| aH (z := 3) J <| Um J J <| aA (fY (a := (c + (xs.getD i default * ys.getD k default + us1.getD (i + k) default))) (b := 1073741824) J J (by decide) om) J <| Ua J J <| Wn <| aF <| aH (z := 2) J <| aA (cI (((k + 1 : Nat) : Int)) (aR J J om) om) J <| Um J J <| Wn <| aG <| ⟨⟨k + 1, (c + (xs.getD i default * ys.getD k default + us1.getD (i + k) default)) / 1073741824, us1.set (i + k) ((c + (xs.getD i default * ys.getD k default + us1.getD (i + k) default)) % 1073741824)⟩, ⟨rfl, rfl, rfl, rfl, rfl, congrArg some (by rw [List.length_set]), rfl, rfl, rfl, rfl, rfl, rfl, trivial⟩, ⟨g0, g1 om (g1 om g0), g1 om (g1 om (g1 (by decide) g0)), g1 om (g1 om (g1 (by decide) (g1 (by decide) g0))), trivial⟩, ⟨om, by rw [List.length_set]; exact hl1, hd1.set _ (Nat.mod_lt _ (by decide)), om, mul_step hv1 om, ?_⟩, by show ys.length - (k + 1) < ys.length - k; omega⟩
  intro j hj
  rw [fR om]; exact hz1 j om
 refine Rg 3 J <| bD (dY J J) J <| bD (dY J J) J <| bD (dX J) J <| Wn <| aB <| Rg 30 J <| aA (bB J J J J J) J <| aA (aO J J J J J) J <| aA (aX J J) J <| aA (eR J J) J <| aW (fun h14 => ?_) (fun h14 => ?_)
 rotate_left
 ·refine Um J J <| K1 J J <| K1 J J <| K1 J J <| K1 J J <| aA (bF J J) J <| Um J J <| K1 J J <| K1 J J <| K1 J J <| aA (bF J J) J <| Um J J <| K1 J J <| K1 J J <| K1 J J <| aA (bF J J) J <| Um J J <| K1 J J <| K1 J J <| K1 J J <| aA (bF J J) J <| Um J J <| K1 J J <| K1 J J ?_
  refine K1 J J <| aA (bF J J) J <| Nk [2,3,4,40] J <| aT J <| aD <| Ck [2,3,4] J ?_
  exact J3 _ om
 refine Um J J <| aE J (bB J J J J J) J <| aE J (aO J J J J J) J <| aE J (aX J J) J <| aE J (eR J J) J <| aW (fun h19 => ?_) (fun h19 => ?_)
 rotate_left
 ·refine aA (bG J J) J <| Um J J <| K1 J J <| K1 J J <| K1 J J <| aA (bF J J) J <| Um J J <| K1 J J <| K1 J J <| K1 J J <| aA (bF J J) J <| Um J J <| K1 J J <| K1 J J <| K1 J J <| aA (bF J J) J <| Um J J <| K1 J J <| K1 J J <| K1 J J <| aA (bF J J) J <| Nk [2,3,4,40] J <| aT J ?_
  refine aD <| Ck [2,3,4] J ?_
  exact J3 _ om
 refine aA (bG J J) J <| Um J J <| aE J (bB J J J J J) J <| aE J (aO J J J J J) J <| aE J (dG J J) J <| aW (fun h24 => ?_) (fun h24 => ?_)
 rotate_left
 ·refine aA (bG J J) J <| Um J J <| K1 J J <| K1 J J <| K1 J J <| aA (bF J J) J <| Um J J <| K1 J J <| K1 J J <| K1 J J <| aA (bF J J) J <| Um J J <| K1 J J <| K1 J J <| K1 J J <| aA (bF J J) J <| Nk [2,3,4,40] J <| aT J <| aD <| Ck [2,3,4] J ?_
  exact J3 _ om
 refine aA (bG J J) J <| Um J J <| aE J (bB J J J J J) J <| aE J (aO J J J J J) J <| aE J (bP J J) J <| aW (fun h29 => ?_) (fun h29 => ?_)
 rotate_left
 ·refine aA (bG J J) J <| Um J J <| K1 J J <| K1 J J <| K1 J J <| aA (bF J J) J <| Um J J <| K1 J J <| K1 J J <| K1 J J <| aA (bF J J) J <| Nk [2,3,4,40] J <| aT J <| aD <| Ck [2,3,4] J ?_
  exact J3 _ om
 refine aA (bG J J) J <| Um J J <| aE J (bB J J J J J) J <| aE J (aO J J J J J) J <| aE J (dG J J) J <| aW (fun h34 => ?_) (fun h34 => ?_)
 rotate_left
 ·refine aA (bG J J) J <| Um J J <| K1 J J <| K1 J J <| K1 J J <| aA (bF J J) J <| Nk [2,3,4,40] J <| aT J <| aD <| Ck [2,3,4] J ?_
  exact J3 _ om
 refine aA (bG J J) J <| Um J J <| aE J (bB J J J J J) J <| aE J (aO J J J J J) J <| aE J (bP J J) J <| aW (fun h39 => ?_) (fun h39 => ?_)
 rotate_left
 ·refine aA (bG J J) J <| Nk [2,3,4,40] J <| aT J <| aD <| Ck [2,3,4] J ?_
  exact J3 _ om
 refine aA (bG J J) J <| Nk [2,3,4,40] J <| aP J <| aB ?_
 have h1 := dW (gZ.1 h14)
 have h2 := dW (gZ.1 h19)
 have h3 := prod_small (v := v) (w := w) om om
 refine Rg 7 J <| aA (bB J J J J J) J <| aA (cI v (aO J J J J J) h1) J <| aA (bB J J J J J) J <| aA (cI w (aO J J J J J) h2) J <| aA (eS J J om) J <| aA (fH (cs := [_, _, _]) J J J J J) J <| aY (cH (cs' := [_, _, _]) J J J J J J J J) <| Wn <| aU <| post (n := 0) (.inr J) J ?_ (by simp)
 rw [dR (v := v * w) (by unfold smallN; omega)]; rfl
theorem oN (v w : Int) (hw0 : w ≠ 0) (hv : len30 v < 549755813888) (hw : len30 w < 549755813888) : Run Tryz.prog T E0 (.call 134 [lvN v, lvN w] (.tup [lvN (v.tdiv w), lvN (v.tmod w)])) := by
 obtain ⟨xs, hxs, dv, qv, tv, lxv⟩ := ns_of v
 obtain ⟨ys, hys, dw, qw, tw, lyw⟩ := ns_of w
 have bv := pE v
 have bw := pE w
 refine bC Tryz.func134 J J (cX J) ?_
 have J3 : ∀  (n : Nat) , WC Tryz.prog T E0 Tryz.f134.ntmps (codeR (codeR (codeOf Tryz.f134))) [(2, .ptr 0 0), (3, .ptr 1 0), (4, .ptr 2 0), (5, .ptr 3 0)] [(3, { cells := [.v (.int .i64 0), .v (.bool false), .sl 0 []], sz := 3, elem := 62, st := 0 }), (2, { cells := [.v (.int .i64 0), .v (.bool false), .sl 0 []], sz := 3, elem := 62, st := 0 }), (1, { cells := (lvN w).cells, sz := 3, elem := 62, st := 0 }), (0, { cells := (lvN v).cells, sz := 3, elem := 62, st := 0 })] n (Post T Tryz.f134.results.toList (.tup [lvN (v.tdiv w), lvN (v.tmod w)])) := by
  intro  n
  have hy1 : 1 ≤ ys.length := by
   rcases Nat.eq_zero_or_pos ys.length with h | h
   ·rw [List.length_eq_zero_iff.1 h] at dw; simp [val] at dw; omega
   ·exact h
  obtain ⟨r, hr, k3, qs, k4, rs, rfl, hk3, hk4, hqd, hrd, hval, hrest, hql, hrl⟩ := ndivided_run (if xs.length = 0 then 0 else 1) (if ys.length = 0 then 0 else 1) xs ys pY qv qw tv tw hy1 om om
  obtain ⟨hq1, hq2⟩ := lP (v := v) (w := w) (q := val 1073741824 qs) (r := val 1073741824 rs) (by rw [← dw, ← dv]; exact hval) (by rw [← dw]; exact hrest)
  have hz : v = 0 → val 1073741824 qs = 0 ∧ val 1073741824 rs = 0 := by
   intro h
   rw [dv, h] at hval
   have hy0 : 0 < val 1073741824 ys := by omega
   have h2 : val 1073741824 qs * val 1073741824 ys = 0 := by simp at hval; omega
   rcases Nat.mul_eq_zero.1 h2 with h3 | h3
   ·simp at hval; omega
   ·omega
  refine bQ (z := 10) J kR <| aJ (aO (l := .agg [_, _, _]) J J J J J) J <| aJ (aN J ((hxs ▸ iB v)) (by simp)) J <| aJ (aO (l := .agg [_, _, _]) J J J J J) J <| aJ (aN J ((hys ▸ iB w)) (by simp)) J <| aJ (aN J (hr) (by simp)) J <| Dm J J <| aJ (dN J J) J <| aJ (dN J J) J <| aJ (kU J) J <| aJ (kU J) J <| bK (aV kR) J <| bQ (z := 14) J kR <| aJ (aO (l := .agg [_, _, _]) J J J J J) J <| aJ (aN J (dV _) (by simp)) J <| aJ (aO (l := .agg [_, _, _]) J J J J J) J <| aJ (aN J (dV _) (by simp)) J <| aJ (fS J J) J <| Dm J J <| aJ (aN J (iC (decide (v.sign ≠ w.sign)) k3 qs hk3 hqd om) (by simp)) J <| aJ (aO (l := .agg [_, _, _]) J J J J J) J <| aJ (aN J (dV _) (by simp)) J <| aJ (bL (b := .v (.bool (decide (v < 0)))) (bP J J) (by rw [qP])) J <| Dm J J ?_
  refine aJ (aN J (iC (decide (v < 0)) k4 rs hk4 hrd om) (by simp)) J <| cU (cH (cs' := [_, _, _]) J J J J J J J J) <| cU (cH (cs' := [_, _, _]) J J J J J J J J) <| bK (aV kR) J <| Ck [4,5] J <| aM <| post (n := 0) (.inr J) J ?_ (by simp)
  rw [hq1, hq2, ← made_quo (fun h => (hz h).1) hw0, ← made_sg (fun h => (hz h).2)]; rfl
 refine Rg 4 J <| bD (dY J J) J <| bD (dY J J) J <| bD (dX J) J <| bD (dX J) J <| Wn <| aB <| Rg 10 J <| aA (bB J J J J J) J <| aA (aO J J J J J) J <| aA (aX J J) J <| aA (eR J J) J <| aW (fun h11 => ?_) (fun h11 => ?_)
 rotate_left
 ·refine Um J J <| K1 J J <| K1 J J <| K1 J J <| K1 J J <| aA (bF J J) J <| Nk [2,3,4,5,17] J <| aT J <| aD <| Ck [2,3,4,5] J ?_
  exact J3 _
 refine Um J J <| aE J (bB J J J J J) J <| aE J (aO J J J J J) J <| aE J (aX J J) J <| aE J (eR J J) J <| aW (fun h16 => ?_) (fun h16 => ?_)
 rotate_left
 ·refine aA (bG J J) J <| Nk [2,3,4,5,17] J <| aT J <| aD <| Ck [2,3,4,5] J ?_
  exact J3 _
 refine aA (bG J J) J <| Nk [2,3,4,5,17] J <| aP J <| aB ?_
 have hia := dW (gZ.1 h11)
 have hiw := dW (gZ.1 h16)
 have sv := gZ.1 h11
 have b1 : (v.tdiv w).natAbs ≤ v.natAbs := by rw [Int.natAbs_tdiv]; exact Nat.div_le_self _ _
 have b2 : (v.tmod w).natAbs ≤ v.natAbs := by rw [Int.natAbs_tmod]; exact Nat.mod_le _ _
 unfold smallN at sv
 refine bQ (z := 14) J kR <| aJ (bB J J J J J) J <| aJ (cI v (aO J J J J J) hia) J <| aJ (bB J J J J J) J <| aJ (cI w (aO J J J J J) hiw) J <| aJ (jV J J hw0 om) J <| aJ (fH (cs := [_, _, _]) J J J J J) J <| aJ (bB J J J J J) J <| aJ (cI v (aO J J J J J) hia) J <| aJ (bB J J J J J) J <| aJ (cI w (aO J J J J J) hiw) J <| aJ (oRem J J hw0) J <| aJ (fH (cs := [_, _, _]) J J J J J) J <| cU (cH (cs' := [_, _, _]) J J J J J J J J) <| cU (cH (cs' := [_, _, _]) J J J J J J J J) <| bK (aV kR) J <| Ck [4,5] J <| aU <| post (n := 0) (.inr J) J ?_ (by simp)
 rw [dR (v := v.tdiv w) (by unfold smallN; omega), dR (v := v.tmod w) (by unfold smallN; omega)]; rfl
theorem nless_run (v w : Int) (hv : len30 v < 1099511627775) (hw : len30 w < 1099511627775) : Run Tryz.prog T E0 (.call 148 [lvN v, lvN w] (lvN (v - w))) := by
 refine bC Tryz.func148 J J (cX J) <| Rg 3 J <| bD (dY J J) J <| bD (dY J J) J <| bD (dX J) J <| Wn <| bQ (z := 5) J kR <| aJ (aO (l := .agg [_, _, _]) J J J J J) J <| aJ (aO (l := .agg [_, _, _]) J J J J J) J <| aJ (aN J (iL _) (by simp)) J <| aJ (aN J (nplus_run v (-w) hv (by rw [oI]; exact hw)) (by simp)) J <| cU (cH (cs' := [_, _, _]) J J J J J J J J) <| bK (aV kR) J <| aM <| post (n := 0) (.inr J) J ?_ (by simp)
 rw [Int.sub_eq_add_neg]; rfl
theorem ncmp_run (v w : Int) (hv : len30 v < 1099511627775) (hw : len30 w < 1099511627775) : Run Tryz.prog T E0 (.call 133 [lvN v, lvN w] (.v (.int .i64 (v - w).sign))) := by
 refine bC Tryz.func133 J J (cX J) <| Rg 3 J <| bD (dY J J) J <| bD (dY J J) J <| Ua J J <| Wn <| Rg 5 J <| aA (aO (l := .agg [_, _, _]) J J J J J) J <| aA (aO (l := .agg [_, _, _]) J J J J J) J <| aA (aN J (nless_run v w hv hw) (by simp)) J <| aA (aN J (dV _) (by simp)) J <| Ua J J <| Wn <| aM ?_
 exact post (n := 0) (.inr J) J J (by simp)
theorem nabs_run (v : Int) : Run Tryz.prog T E0 (.call 147 [lvN v] (lvN v.natAbs)) := by
 refine bC Tryz.func147 J J (cX J) <| Rg 2 J <| bD (dY J J) J <| bD (dX J) J <| Wn <| aB <| Rg 3 J <| aA (aO (l := .agg [_, _, _]) J J J J J) J <| aA (aN J (dV _) (by simp)) J <| aA (bP J J) J <| aW (fun h5 => ?_) (fun h5 => ?_)
 rotate_left
 ·refine Wn <| aT J <| aD <| Rg 2 J <| aA (aO (l := .agg [_, _, _]) J J J J J) J <| aY (cH (cs' := [_, _, _]) J J J J J J J J) <| Wn <| aM <| post (n := 0) (.inr J) J ?_ (by simp)
  have : ¬ v < 0 := fun k => h5 (Int.sign_neg_iff.2 k)
  have e : (v.natAbs : Int) = v := by omega
  rw [e]; rfl
 refine Wn <| aP J <| aB <| Rg 3 J <| aA (aO (l := .agg [_, _, _]) J J J J J) J <| aA (aN J (iL _) (by simp)) J <| aY (cH (cs' := [_, _, _]) J J J J J J J J) <| Wn <| aU <| post (n := 0) (.inr J) J ?_ (by simp)
 have := Int.sign_neg_iff.1 h5
 have e : (v.natAbs : Int) = -v := by omega
 rw [e]; rfl
theorem ngcd_run (v w : Int) (hv : len30 v < 549755813888) (hw : len30 w < 549755813888) : Run Tryz.prog T E0 (.call 132 [lvN v, lvN w] (lvN (v.gcd w : Nat))) := by
 refine bC Tryz.func132 J J (cX J) <| Rg 3 J <| bD (dY J J) J <| bD (dY J J) J <| bD (dX J) J <| Wn <| aL <| bA (α := Int × Int) (fun ⟨a, b⟩ => [(2, .ptr 0 0), (3, .ptr 1 0), (4, .ptr 2 0)]) (fun ⟨a, b⟩ => [(0, { cells := (lvN a).cells, sz := 3, elem := 62, st := 0 }), (1, { cells := (lvN b).cells, sz := 3, elem := 62, st := 0 }), (2, { cells := [.v (.int .i64 0), .v (.bool false), .sl 0 []], sz := 3, elem := 62, st := 0 })]) (fun ⟨a, b⟩ n => Int.gcd a b = v.gcd w ∧ len30 a < 549755813888 ∧ len30 b < 549755813888 ∧ 3 ≤ n) (fun ⟨a, b⟩ => b.natAbs) (v, w) ⟨J, J, J, trivial⟩ ⟨J, J, J, trivial⟩ ⟨rfl, hv, hw, om⟩ ?_
 rintro ⟨a, b⟩ n hF
 change WC _ _ _ _ _ (_ :: _) (_ :: _) n _
 obtain ⟨hg, hla, hlb, hn3⟩ := hF
 refine aB <| Rg 3 J <| aA (aO (l := .agg [_, _, _]) J J J J J) J <| aA (aN J (dV _) (by simp)) J <| aA (fS J J) J <| aW (fun h9 => ?_) (fun h9 => ?_)
 rotate_left
 ·refine Wn <| aT J <| aZ <| aQ <| aS J <| Rg 3 J <| aA (aO (l := .agg [_, _, _]) J J J J J) J <| aA (aN J (nabs_run a) (by simp)) J <| aY (cH (cs' := [_, _, _]) J J J J J J J J) <| Wn <| aM <| post (n := 0) (.inr J) J ?_ (by simp)
  have hb0 : b = 0 := by
   have := Int.sign_eq_zero_iff_zero (a := b); omega
  subst hb0
  rw [Int.gcd_zero_right] at hg
  rw [← hg]; rfl
 refine Wn <| aP J <| aD <| cO ?_
 have hb0 : b ≠ 0 := by
  intro h; subst h; simp at h9
 have hlm : len30 (a.tmod b) < 549755813888 := by have := len30_tmod a b; omega
 have hlt : (a.tmod b).natAbs < b.natAbs := by rw [Int.natAbs_tmod]; exact Nat.mod_lt _ om
 refine Rg 10 J <| aA (aO (l := .agg [_, _, _]) J J J J J) J <| aA (aO (l := .agg [_, _, _]) J J J J J) J <| aA (aN J (oN a b hb0 hla hlb) (by simp)) J <| Um J J <| aA (dN J J) J <| aA (dN J J) J <| bD (dX J) J <| bD (dX J) J <| aY (cH (cs' := [_, _, _]) J J J (g1 om g0) J J J J) <| aY (cH (cs' := [_, _, _]) J J J (g1 om g0) J J J J) <| Wn <| dQ (z := 4) J kR <| aJ (aO (l := .agg [_, _, _]) J J (g1 om (g1 om (g1 om (g1 om (g1 (by decide) g0))))) J J) J <| aJ (aO (l := .agg [_, _, _]) J J g0 J J) J <| cU (cH (cs' := [_, _, _]) J J J (g1 om (g1 om (g1 om (g1 om g0)))) J J J J) <| cU (cH (cs' := [_, _, _]) J J J (g1 (by decide) (g1 om (g1 om (g1 om (g1 om (g1 (by decide) g0)))))) J J J J) <| bK (aV kR) J <| cD <| aG <| ⟨⟨b, a.tmod b⟩, ⟨J, J, J, trivial⟩, ⟨g1 (by decide) g0, g0, g1 (by decide) (g1 (by decide) (g1 om (g1 om (g1 om (g1 om (g1 (by decide) (g1 (by decide) g0))))))), trivial⟩, ⟨by rw [gcd_tmod, hg], hlb, hlm, om⟩, hlt⟩
theorem mK (v : Int) : Run Tryz.prog T E0 (.call 29 [lvN v] (.tup [.v (.int .i64 (if -1152921504606846976 ≤ v ∧ v ≤ 1152921504606846976 then v else 0)), .v (.bool (decide (-1152921504606846976 ≤ v ∧ v ≤ 1152921504606846976)))])) := by
 refine bC Tryz.func29 J J (cX J) <| Rg 3 J <| bD (dY J J) J <| Ua J J <| Ua J J <| Wn <| aB <| Rg 14 J <| aA (bB J J J J J) J <| aA (aO J J J J J) J <| aA (aX J J) J <| aA (dG J J) J <| aW (fun h7 => ?_) (fun h7 => ?_)
 ·refine Um J J <| K1 J J <| K1 J J <| K1 J J <| aA (bG J J) J <| Um J J <| K1 J J <| K1 J J <| K1 J J <| aA (bG J J) J <| Nk [1,17] J <| aP J <| aB <| Rg 2 J <| Ua J J <| Ua J J <| Wn <| aU <| post (n := 0) (.inr J) J ?_ (by simp)
  have hn : ¬ (-1152921504606846976 ≤ v ∧ v ≤ 1152921504606846976) := inN.1 (by first | exact .inl h7 | exact .inr (.inl h11) | exact .inr (.inr h16))
  rw [if_neg hn, decide_eq_false hn]; rfl
 refine Um J J <| aE J (bB J J J J J) J <| aE J (aO J J J J J) J <| aE J (dG J J) J <| aW (fun h11 => ?_) (fun h11 => ?_)
 ·refine aA (bF J J) J <| Um J J <| K1 J J <| K1 J J <| K1 J J <| aA (bG J J) J <| Nk [1,17] J <| aP J <| aB <| Rg 2 J <| Ua J J <| Ua J J <| Wn <| aU <| post (n := 0) (.inr J) J ?_ (by simp)
  have hn : ¬ (-1152921504606846976 ≤ v ∧ v ≤ 1152921504606846976) := inN.1 (by first | exact .inl h7 | exact .inr (.inl h11) | exact .inr (.inr h16))
  rw [if_neg hn, decide_eq_false hn]; rfl
 refine aA (bF J J) J <| Um J J <| aE J (bB J J J J J) J <| aE J (aO J J J J J) J <| aE J (bP J J) J <| aW (fun h16 => ?_) (fun h16 => ?_)
 ·refine aA (bF J J) J <| Nk [1,17] J <| aP J <| aB <| Rg 2 J <| Ua J J <| Ua J J <| Wn <| aU <| post (n := 0) (.inr J) J ?_ (by simp)
  have hn : ¬ (-1152921504606846976 ≤ v ∧ v ≤ 1152921504606846976) := inN.1 (by first | exact .inl h7 | exact .inr (.inl h11) | exact .inr (.inr h16))
  rw [if_neg hn, decide_eq_false hn]; rfl
 refine aA (bF J J) J <| Nk [1,17] J <| aT J <| aD <| Rg 4 J <| aA (bB J J J J J) J <| aA (aO J J J J J) J <| Ua J J <| Ua J J <| Wn <| aM <| post (n := 0) (.inr J) J ?_ (by simp)
 have hn : -1152921504606846976 ≤ v ∧ v ≤ 1152921504606846976 := by
  by_cases h : -1152921504606846976 ≤ v ∧ v ≤ 1152921504606846976
  ·exact h
  ·have := inN.2 h; omega
 have hs : na v = v := dW (by unfold smallN; omega)
 rw [if_pos hn, decide_eq_true hn]
 exact congrArg (fun z => LV.tup [.v (.int .i64 z), .v (.bool true)]) hs
theorem nmake_run (v w : Int) (hw0 : w ≠ 0) (hv : len30 v < 549755813888) (hw : len30 w < 549755813888) : Run Tryz.prog T E0 (.call 90 [lvN v, lvN w] (lvQ (Rat.divInt v w))) := by
 refine bC Tryz.func90 J J (cX J) ?_
 have J3 : ∀ (a b : Int) (hb : 0 < b) (hab : Rat.divInt v w = Rat.divInt a b) (ha1 : len30 a < 549755813888) (hb1 : len30 b < 549755813888) (n : Nat) (hn : 3 ≤ n), WC Tryz.prog T E0 Tryz.f90.ntmps (codeR (codeR (codeOf Tryz.f90))) [(2, .ptr 0 0), (3, .ptr 1 0), (4, .ptr 2 0)] [(0, { cells := (lvN a).cells, sz := 3, elem := 62, st := 0 }), (1, { cells := (lvN b).cells, sz := 3, elem := 62, st := 0 }), (2, { cells := [.v (.int .i64 0), .v (.bool false), .sl 0 [], .v (.int .i64 0), .v (.bool false), .sl 0 []], sz := 6, elem := 64, st := 0 })] n (Post T Tryz.f90.results.toList (lvQ (Rat.divInt v w))) := by
  intro a b hb hab ha1 hb1 n hn
  obtain ⟨hm1, hm2⟩ := make_law (p := a) hb
  have hgp : 0 < a.gcd b := Int.gcd_pos_of_ne_zero_right _ om
  have hlg : len30 ((a.gcd b : Nat) : Int) < 549755813888 := by
   have h1 : a.gcd b ≤ b.natAbs := Nat.le_of_dvd om (Nat.gcd_dvd_right _ _)
   have := qY (v := ((a.gcd b : Nat) : Int)) (w := b) (by simpa using h1)
   omega
  obtain ⟨g, hg⟩ : ∃ g : Int, g = (a.gcd b : Nat) := ⟨_, rfl⟩
  rw [← hg] at hm1 hm2 hlg
  have l1 : len30 (1 : Int) ≤ 3 := pC (by decide)
  refine Rg 5 J <| aA (aO (l := .agg [_, _, _]) J J g0 J J) J <| aA (aO (l := .agg [_, _, _]) J J (g1 (by decide) g0) J J) J <| aA (aN J (hg ▸ ngcd_run a b ha1 hb1) (by simp)) J <| bD (dX J) J <| aY (cH (cs' := [_, _, _]) J J J g0 J J J J) <| Wn <| aB <| bQ (z := 4) J kR <| aJ (aO (l := .agg [_, _, _]) J J g0 J J) J <| aJ (aN J (hJ _ (by unfold I64; omega)) (by simp)) J <| aJ (aN J (ncmp_run g 1 om om) (by simp)) J <| aJ (fS J J) J <| lZ (fun h19 => ?_) (fun h19 => ?_)
  rotate_left
  ·refine bK (aV kR) J <| aT J <| aD <| Rg 4 J <| aA (aO (l := .agg [_, _, _]) J J (g1 om (g1 om g0)) J J) J <| aA (aO (l := .agg [_, _, _]) J J (g1 om (g1 om (g1 (by decide) g0))) J J) J <| aA (fH (cs := [_, _, _, _, _, _]) J J J J J) J <| aY (cH (cs' := [_, _, _, _, _, _]) J J J (g1 om (g1 om (g1 (by decide) (g1 (by decide) g0)))) J J J J) <| Wn <| aM <| post (n := 0) (.inr J) J ?_ (by simp)
   have hg1 : g = 1 := by
    have := Int.sign_eq_zero_iff_zero (a := g - 1); omega
   rw [hg1, Int.tdiv_one] at hm1 hm2
   rw [hab, lvQ_eq, ← hm1, ← hm2]; rfl
  refine bK (aV kR) J <| aP J <| aB <| Rg 7 J <| aA (aO (l := .agg [_, _, _]) J J (g1 om (g1 om g0)) J J) J <| aA (aO (l := .agg [_, _, _]) J J g0 J J) J <| aA (aN J (oN a g om ha1 hlg) (by simp)) J <| Um J J <| aA (dN J J) J <| aA (dN J J) J <| aY (cH (cs' := [_, _, _]) J J J (g1 om (g1 om g0)) J J J J) <| Nk [2,3,4,5] J <| Rg 7 J <| aA (aO (l := .agg [_, _, _]) J J (g1 (by decide) (g1 om (g1 om (g1 (by decide) g0)))) J J) J <| aA (aO (l := .agg [_, _, _]) J J (g1 om g0) J J) J <| aA (aN J (oN b g om hb1 hlg) (by simp)) J <| Um J J <| aA (dN J J) J <| aA (dN J J) J <| aY (cH (cs' := [_, _, _]) J J J (g1 (by decide) (g1 om (g1 om (g1 (by decide) g0)))) J J J J) <| Wn <| Rg 4 J <| aA (aO (l := .agg [_, _, _]) J J (g1 (by decide) g0) J J) J ?_
  refine aA (aO (l := .agg [_, _, _]) J J g0 J J) J <| aA (fH (cs := [_, _, _, _, _, _]) J J J J J) J <| aY (cH (cs' := [_, _, _, _, _, _]) J J J (g1 (by decide) (g1 (by decide) (g1 om (g1 om (g1 (by decide) (g1 (by decide) g0)))))) J J J J) <| Wn <| aM <| post (n := 0) (.inr J) J ?_ (by simp)
  rw [hab, lvQ_eq, ← hm1, ← hm2]; rfl
 refine Rg 3 J <| bD (dY J J) J <| bD (dY J J) J <| bD (dX J) J <| Wn <| aB <| Rg 3 J <| aA (aO (l := .agg [_, _, _]) J J J J J) J <| aA (aN J (dV _) (by simp)) J <| aA (bP J J) J <| aW (fun h8 => ?_) (fun h8 => ?_)
 rotate_left
 ·refine Wn <| aT J <| aD <| Ck [2,3,4] J ?_
  have hw1 : ¬ w < 0 := fun k => h8 (Int.sign_neg_iff.2 k)
  refine eL _ ?_ (J3 v w om J hv hw _ om)
  exact ⟨J, J, J, trivial⟩
 refine Wn <| aP J <| bQ (z := 6) J kR <| aJ (aO (l := .agg [_, _, _]) J J J J J) J <| aJ (aN J (iL _) (by simp)) J <| aJ (aO (l := .agg [_, _, _]) J J J J J) J <| aJ (aN J (iL _) (by simp)) J <| cU (cH (cs' := [_, _, _]) J J J J J J J J) <| cU (cH (cs' := [_, _, _]) J J J J J J J J) <| bK (aV kR) J <| Ck [2,3,4] J ?_
 have hw1 := Int.sign_neg_iff.1 h8
 refine eL _ ?_ (J3 (-v) (-w) om (divInt_pos hw1) (by rw [oI]; exact hv) (by rw [oI]; exact hw) _ om)
 exact ⟨J, J, J, trivial⟩
theorem mN (v : Int) (hv : I64 v) : Run Tryz.prog T E0 (.call 33 [.v (.int .i64 v)] (lvQ (v : Rat))) := by
 refine bC Tryz.func33 J J (cX J) <| Rg 1 J <| bD (dX J) J <| Wn <| Rg 5 J <| Um J J <| aA (aN J (hJ v hv) (by simp)) J <| aA (aN J (hJ _ (by unfold I64; omega)) (by simp)) J <| aA (fH (cs := [_, _, _, _, _, _]) J J J J J) J <| aY (cH (cs' := [_, _, _, _, _, _]) J J J J J J J J) <| Wn <| aM <| post (n := 0) (.inr J) J ?_ (by simp)
 rfl
theorem lL (x y : Rat) (hx : Bd 34359738368 x) (hy : Bd 34359738368 y) : Run Tryz.prog T E0 (.call 50 [lvQ x, lvQ y] (lvQ (x + y))) := by
 obtain ⟨hx1, hx2⟩ := hx.l30
 obtain ⟨hy1, hy2⟩ := hy.l30
 have m1 := oH x.num y.den
 have m2 := oH y.num x.den
 have m3 := len30_add (x.num * y.den) (y.num * x.den)
 have m4 := oH x.den y.den
 refine bC Tryz.func50 J J (cX J) <| Rg 3 J <| bD (dY J J) J <| bD (dY J J) J <| bD (dX J) J <| Wn <| bQ (z := 18) J kR <| aJ (bB J J J J J) J <| aJ (aO (l := .agg [_, _, _]) J J J J J) J <| aJ (bB J J J J J) J <| aJ (aO (l := .agg [_, _, _]) J J J J J) J <| aJ (aN J (mL x.num y.den om om) (by simp)) J <| aJ (bB J J J J J) J <| aJ (aO (l := .agg [_, _, _]) J J J J J) J <| aJ (bB J J J J J) J <| aJ (aO (l := .agg [_, _, _]) J J J J J) J <| aJ (aN J (mL y.num x.den om om) (by simp)) J <| aJ (aN J (nplus_run (x.num * y.den) (y.num * x.den) om om) (by simp)) J <| aJ (bB J J J J J) J <| aJ (aO (l := .agg [_, _, _]) J J J J J) J <| aJ (bB J J J J J) J <| aJ (aO (l := .agg [_, _, _]) J J J J J) J <| aJ (aN J (mL x.den y.den om om) (by simp)) J <| aJ (aN J (nmake_run (x.num * y.den + y.num * x.den) (x.den * y.den) (Int.mul_ne_zero (iG _) (iG _)) om om) (by simp)) J ?_
 refine cU (cH (cs' := [_, _, _, _, _, _]) J J J J J J J J) <| bK (aV kR) J <| Ck [4] J <| aM <| post (n := 0) (.inr J) J ?_ (by simp)
 rw [← add_raw]; rfl
theorem nrneg_run (x : Rat) : Run Tryz.prog T E0 (.call 91 [lvQ x] (lvQ (-x))) := by
 refine bC Tryz.func91 J J (cX J) <| Rg 2 J <| bD (dY J J) J <| bD (dX J) J <| Wn <| bQ (z := 7) J kR <| aJ (bB J J J J J) J <| aJ (aO (l := .agg [_, _, _]) J J J J J) J <| aJ (aN J (iL x.num) (by simp)) J <| aJ (bB J J J J J) J <| aJ (aO (l := .agg [_, _, _]) J J J J J) J <| aJ (fH (cs := [_, _, _, _, _, _]) J J J J J) J <| cU (cH (cs' := [_, _, _, _, _, _]) J J J J J J J J) <| bK (aV kR) J <| aM <| post (n := 0) (.inr J) J ?_ (by simp)
 rw [lvQ_eq (-x), Rat.neg_num, Rat.neg_den]; rfl
theorem nrsign_run (x : Rat) : Run Tryz.prog T E0 (.call 89 [lvQ x] (.v (.int .i64 x.num.sign))) := by
 refine bC Tryz.func89 J J (cX J) <| Rg 2 J <| bD (dY J J) J <| Ua J J <| Wn <| Rg 4 J <| aA (bB J J J J J) J <| aA (aO (l := .agg [_, _, _]) J J J J J) J <| aA (aN J (dV x.num) (by simp)) J <| Ua J J <| Wn <| aM ?_
 exact post (n := 0) (.inr J) J J (by simp)
theorem nrless_run (x y : Rat) (hx : Bd 34359738368 x) (hy : Bd 34359738368 y) : Run Tryz.prog T E0 (.call 37 [lvQ x, lvQ y] (lvQ (x - y))) := by
 refine bC Tryz.func37 J J (cX J) <| Rg 3 J <| bD (dY J J) J <| bD (dY J J) J <| bD (dX J) J <| Wn <| bQ (z := 5) J kR <| aJ (aO (l := .agg [_, _, _, _, _, _]) J J J J J) J <| aJ (aO (l := .agg [_, _, _, _, _, _]) J J J J J) J <| aJ (aN J (nrneg_run y) (by simp)) J <| aJ (aN J (lL x (-y) hx hy.neg) (by simp)) J <| cU (cH (cs' := [_, _, _, _, _, _]) J J J J J J J J) <| bK (aV kR) J <| aM <| post (n := 0) (.inr J) J ?_ (by simp)
 rw [Rat.sub_eq_add_neg]; rfl
theorem nrcmp_run (x y : Rat) (hx : Bd 34359738368 x) (hy : Bd 34359738368 y) : Run Tryz.prog T E0 (.call 35 [lvQ x, lvQ y] (.v (.int .i64 (x - y).num.sign))) := by
 refine bC Tryz.func35 J J (cX J) <| Rg 3 J <| bD (dY J J) J <| bD (dY J J) J <| Ua J J <| Wn <| Rg 5 J <| aA (aO (l := .agg [_, _, _, _, _, _]) J J J J J) J <| aA (aO (l := .agg [_, _, _, _, _, _]) J J J J J) J <| aA (aN J (nrless_run x y hx hy) (by simp)) J <| aA (aN J (nrsign_run (x - y)) (by simp)) J <| Ua J J <| Wn <| aM ?_
 exact post (n := 0) (.inr J) J J (by simp)
theorem iV (a : NM) (h1 : I64 a.1) (h2 : I64 a.2) : Run Tryz.prog T E0 (.call 96 [lvM a] (.v (.bool (decide (VN a))))) := by
 have m1 := len30_i64 h1
 have m2 := len30_i64 h2
 have l1 : len30 (1 : Int) ≤ 3 := pC (by decide)
 have l2 : len30 ((a.1.gcd a.2 : Nat) : Int) ≤ 3 := iK (by
  unfold I64 at h1 h2
  by_cases h0 : a.2 = 0
  ·rw [h0]; simp; omega
  ·have h1 : a.1.gcd a.2 ≤ a.2.natAbs := Nat.le_of_dvd om (Nat.gcd_dvd_right _ _)
   simp; omega)
 have h1' := h1
 have h2' := h2
 unfold I64 at h1 h2
 refine bC Tryz.func96 J J (cX J) <| Rg 2 J <| bD (dY J J) J <| Ua J J <| Wn <| aB <| Rg 18 J <| aA (bB J J J J J) J <| aA (aO J J J J J) J <| aA (bP J J) J <| aW (fun h5 => ?_) (fun h5 => ?_)
 ·refine Um J J <| K1 J J <| K1 J J <| K1 J J <| aA (bG J J) J <| Um J J <| K1 J J <| K1 J J <| K1 J J <| aA (bG J J) J <| Um J J <| K1 J J <| K1 J J <| K1 J J <| aA (bG J J) J <| Nk [1,20] J <| aP J <| aB ?_
  have hV : ¬ VN a := by unfold VN; omega
  refine Rg 1 J <| Ua J J <| Wn <| aU <| post (n := 0) (.inr J) J ?_ (by simp)
  exact congrArg (fun z => LV.v (.bool z)) (decide_eq_false hV).symm
 refine Um J J <| aE J (bB J J J J J) J <| aE J (aO J J J J J) J <| aE J (dG J J) J <| aW (fun h9 => ?_) (fun h9 => ?_)
 ·refine aA (bF J J) J <| Um J J <| K1 J J <| K1 J J <| K1 J J <| aA (bG J J) J <| Um J J <| K1 J J <| K1 J J <| K1 J J <| aA (bG J J) J <| Nk [1,20] J <| aP J <| aB ?_
  have hV : ¬ VN a := by unfold VN; omega
  refine Rg 1 J <| Ua J J <| Wn <| aU <| post (n := 0) (.inr J) J ?_ (by simp)
  exact congrArg (fun z => LV.v (.bool z)) (decide_eq_false hV).symm
 refine aA (bF J J) J <| Um J J <| aE J (bB J J J J J) J <| aE J (aO J J J J J) J <| aE J (dG J J) J <| aW (fun h14 => ?_) (fun h14 => ?_)
 ·refine aA (bF J J) J <| Um J J <| K1 J J <| K1 J J <| K1 J J <| aA (bG J J) J <| Nk [1,20] J <| aP J <| aB ?_
  have hV : ¬ VN a := by unfold VN; omega
  refine Rg 1 J <| Ua J J <| Wn <| aU <| post (n := 0) (.inr J) J ?_ (by simp)
  exact congrArg (fun z => LV.v (.bool z)) (decide_eq_false hV).symm
 refine aA (bF J J) J <| Um J J <| aE J (bB J J J J J) J <| aE J (aO J J J J J) J <| aE J (bP J J) J <| aW (fun h19 => ?_) (fun h19 => ?_)
 ·refine aA (bF J J) J <| Nk [1,20] J <| aP J <| aB ?_
  have hV : ¬ VN a := by unfold VN; omega
  refine Rg 1 J <| Ua J J <| Wn <| aU <| post (n := 0) (.inr J) J ?_ (by simp)
  exact congrArg (fun z => LV.v (.bool z)) (decide_eq_false hV).symm
 refine aA (bF J J) J <| Nk [1,20] J <| aT J <| aD <| bQ (z := 11) J kR <| aJ (bB J J J J J) J <| aJ (aO J J J J J) J <| aJ (aN J (hJ _ (by unfold I64; omega)) (by simp)) J <| aJ (bB J J J J J) J <| aJ (aO J J J J J) J <| aJ (aN J (hJ _ (by unfold I64; omega)) (by simp)) J <| aJ (aN J (ngcd_run a.1 a.2 om om) (by simp)) J <| aJ (aN J (hJ _ (by unfold I64; omega)) (by simp)) J <| aJ (aN J (ncmp_run (a.1.gcd a.2 : Nat) 1 om om) (by simp)) J <| aJ (eR J J) J <| aJ (kU J) J <| bK (aV kR) J <| aM <| post (n := 0) (.inr J) J ?_ (by simp)
 have hV : decide ((((a.1.gcd a.2 : Nat) : Int) - 1).sign = 0) = decide (VN a) := by
  apply decide_eq_decide.2; rw [gcd_one]; unfold VN; omega
 exact congrArg (fun z => LV.v (.bool z)) hV
theorem nfrom_run (x : Rat) : Run Tryz.prog T E0 (.call 51 [lvQ x] (.tup [lvM ((outN x).getD (0, 0)), .v (.bool (outN x).isSome)])) := by
 refine bC Tryz.func51 J J (cX J) <| Rg 3 J <| bD (dY J J) J <| bD (dX J) J <| Ua J J <| Wn <| Rg 8 J <| aA (bB J J J J J) J <| aA (aO (l := .agg [_, _, _]) J J J J J) J <| aA (aN J (mK x.num) (by simp)) J <| Um J J <| aA (dN J J) J <| aA (dN J J) J <| dC (fun h13 => ?_) (fun h13 => ?_)
 rotate_left
 ·refine Ua J J <| Ua J J <| Wn <| Rg 8 J <| aA (bB J J J J J) J <| aA (aO (l := .agg [_, _, _]) J J J J J) J <| aA (aN J (mK x.den) (by simp)) J <| Um J J <| aA (dN J J) J <| aA (dN J J) J <| dC (fun h19 => ?_) (fun h19 => ?_)
  ·refine Ua J J <| Ua J J <| Nk [2,4,5,6,7] J <| aB <| Rg 6 J <| Um J J <| aA (cW J) J <| Um J J <| K1 J J <| K1 J J <| aA (bG J J) J <| Wn <| aP J <| aB ?_
   have hV : outN x = none := by
    unfold outN; rw [if_neg]; simp at *; omega
   refine Rg 3 J <| aA (fH (cs := [_, _]) J J J J J) J <| aY (cH (cs' := [_, _]) J J J J J J J J) <| Ua J J <| Wn <| aU <| post (n := 0) (.inr J) J ?_ (by simp)
   first | (rw [hV]; rfl) | (rw [hV, if_pos k1, if_pos k2]; rfl)
  refine Ua J J <| Ua J J <| Nk [2,4,5,6,7] J <| aB <| Rg 6 J <| Um J J <| aA (cW J) J <| Um J J <| K1 J J <| K1 J J <| aA (bG J J) J <| Wn <| aP J <| aB ?_
  have hV : outN x = none := by
   unfold outN; rw [if_neg]; simp at *; omega
  refine Rg 3 J <| aA (fH (cs := [_, _]) J J J J J) J <| aY (cH (cs' := [_, _]) J J J J J J J J) <| Ua J J <| Wn <| aU <| post (n := 0) (.inr J) J ?_ (by simp)
  first | (rw [hV]; rfl) | (rw [hV, if_pos k1, if_pos k2]; rfl)
 refine Ua J J <| Ua J J <| Wn <| Rg 8 J <| aA (bB J J J J J) J <| aA (aO (l := .agg [_, _, _]) J J J J J) J <| aA (aN J (mK x.den) (by simp)) J <| Um J J <| aA (dN J J) J <| aA (dN J J) J <| dC (fun h19 => ?_) (fun h19 => ?_)
 rotate_left
 ·refine Ua J J <| Ua J J <| Nk [2,4,5,6,7] J <| aB <| Rg 6 J <| Um J J <| aA (cW J) J <| Um J J <| aE J (dU J) J <| aE J (cW J) J <| aA (bF J J) J <| Wn <| aP J <| aB ?_
  have hV : outN x = none := by
   unfold outN; rw [if_neg]; simp at *; omega
  refine Rg 3 J <| aA (fH (cs := [_, _]) J J J J J) J <| aY (cH (cs' := [_, _]) J J J J J J J J) <| Ua J J <| Wn <| aU <| post (n := 0) (.inr J) J ?_ (by simp)
  first | (rw [hV]; rfl) | (rw [hV, if_pos k1, if_pos k2]; rfl)
 refine Ua J J <| Ua J J <| Nk [2,4,5,6,7] J <| aB <| Rg 6 J <| Um J J <| aA (cW J) J <| Um J J <| aE J (dU J) J <| aE J (cW J) J <| aA (bF J J) J <| Wn <| aT J <| aD ?_
 have k1 := of_decide_eq_true h13
 have k2 := of_decide_eq_true h19
 have hV : outN x = some (x.num, (x.den : Int)) := by
  unfold outN; rw [if_pos ⟨k1, k2.2⟩]
 refine Rg 5 J <| Um J J <| Um J J <| aA (fH (cs := [_, _]) J J J J J) J <| aY (cH (cs' := [_, _]) J J J J J J J J) <| Ua J J <| Nk [2,3] J <| aM <| post (n := 0) (.inr J) J ?_ (by simp)
 first | (rw [hV]; rfl) | (rw [hV, if_pos k1, if_pos k2]; rfl)
theorem nto_run (a : NM) (h1 : I64 a.1) (h2 : I64 a.2) (hv : VN a) : Run Tryz.prog T E0 (.call 34 [lvM a] (lvQ (Rat.divInt a.1 a.2))) := by
 refine bC Tryz.func34 J J (cX J) <| Rg 2 J <| bD (dY J J) J <| bD (dX J) J <| Wn <| bQ (z := 8) J kR <| aJ (bB J J J J J) J <| aJ (aO J J J J J) J <| aJ (aN J (hJ a.1 h1) (by simp)) J <| aJ (bB J J J J J) J <| aJ (aO J J J J J) J <| aJ (aN J (hJ a.2 h2) (by simp)) J <| aJ (fH (cs := [_, _, _, _, _, _]) J J J J J) J <| cU (cH (cs' := [_, _, _, _, _, _]) J J J J J J J J) <| bK (aV kR) J <| aM <| post (n := 0) (.inr J) J ?_ (by simp)
 obtain ⟨e1, e2⟩ := valid_rat hv
 rw [lvQ_eq, e1, e2]; rfl
end Go.Proofs.YtcblgjaomljikaaGreat
namespace Go.Proofs.YtcblgjaomljikaaGreat
open Go.Ab Go.RowKit
theorem idx1_run (k : Nat) (ns : List NM) (g : FuncId) (cap : List LV) (p : NM → Bool) (hcap : ∀ c, c ∈ cap → Go.Ab.Data c) (ln : ns.length < 4611686018427387904) (hp : ∀ a, a ∈ ns → Run Tryz.prog T E0 (.call g ([lvM a] ++ cap) (.v (.bool (p a))))) : Run Tryz.prog T E0 (.call 136 [.sl k (ns.map mc), .fn (.func g) [] cap] (.v (.int .i64 (fidx p ns)))) := by
 refine bC Tryz.func136 J J (cX J) <| Rg 1 J <| Ua J J <| Wn <| aB <| Rg 3 J <| Um J J <| aA (aX J J) J <| Um J J <| Wn <| aL <| bA (α := Nat) (fun i => [(0, .sl k (ns.map mc)), (1, .fn (.func g) [] cap), (7, .v (.int .i64 (ns.length : Int))), (8, .v (.int .i64 (i : Int)))]) (fun i => []) (fun i n => i ≤ ns.length ∧ (ns.take i).any p = false) (fun i => ns.length - i) (0) ⟨J, J, J, J, trivial⟩ trivial ⟨Nat.zero_le _, by simp⟩ ?_
 rintro i n hF
 change WC _ _ _ _ _ (_ :: _) ([]) n _
 obtain ⟨hi, ha⟩ := hF
 refine Rg 1 J <| aA (bP J J) J <| aW (fun h9 => ?_) (fun h9 => ?_)
 rotate_left
 ·refine Wn <| aT J <| aZ <| aQ <| aS J <| Rg 1 J <| Ua J J <| Wn <| aM <| post (n := 0) (.inr J) J ?_ (by first | (simp [-eU]; done) | simp)
  exact congrArg (fun z => LV.v (.int .i64 z)) (oF ha om).symm
 refine Wn <| aP J <| aD <| aL <| Rg 2 J <| Um J J <| Ua J J <| Wn <| Rg 6 J <| Um J J <| Um J J <| Um J J <| aA (bS J J J J J om J) J <| aA (dB (l := .agg [_, _]) J J J) J <| aA (oCallV J J (hp _ (bO om)) (bM (by simpa [-eU] using hcap))) J <| dC (fun h16 => ?_) (fun h16 => ?_)
 rotate_left
 ·refine Wn <| bZ J <| cE <| aF <| aH (z := 2) J <| aA (cI (((i + 1 : Nat) : Int)) (aR J J om) om) J <| Um J J <| Wn <| aG <| ⟨i + 1, ⟨J, J, J, J, trivial⟩, trivial, ⟨om, rR ha om h16⟩, by show ns.length - (i + 1) < ns.length - i; omega⟩
 refine Wn <| bU J <| Rg 2 J <| Um J J <| Ua J J <| Nk [4] J <| aM <| aK <| bE <| aK <| post (n := 0) (.inr J) J ?_ (by first | (simp [-eU]; done) | simp)
 exact congrArg (fun z => LV.v (.int .i64 z)) (qR ha om h16).symm
theorem con1_run (k : Nat) (ns : List NM) (g : FuncId) (cap : List LV) (p : NM → Bool) (hcap : ∀ c, c ∈ cap → Go.Ab.Data c) (ln : ns.length < 4611686018427387904) (hp : ∀ a, a ∈ ns → Run Tryz.prog T E0 (.call g ([lvM a] ++ cap) (.v (.bool (p a))))) : Run Tryz.prog T E0 (.call 102 [.sl k (ns.map mc), .fn (.func g) [] cap] (.v (.bool (ns.any p)))) := by
 refine bC Tryz.func102 J J (cX J) <| Rg 1 J <| Ua J J <| Wn <| Rg 5 J <| Um J J <| Um J J <| aA (aN J (idx1_run k ns g cap p hcap ln hp) (by simpa [-eU] using hcap)) J <| aA (fJ J J) J <| Ua J J <| Wn <| aM <| post (n := 0) (.inr J) J ?_ (by first | (simp [-eU]; done) | simp)
 exact congrArg (fun z => LV.v (.bool z)) (kL p ns)
theorem nrats_run (k : Nat) (ns : List NM) (ln : ns.length < 1099511627776) (hI : IV ns) (h0 : ∀ a, a ∈ ns → a.2 ≠ 0) : Run Tryz.prog T E0 (.call 62 [.sl k (ns.map mc)] (.sl (kd (ns.map nx).length) ((ns.map nx).map xc))) := by
 refine bC Tryz.func62 J J (cX J) <| Rg 1 J <| Ua J J <| Wn <| Rg 1 J <| Ua J J <| Wn <| aB <| Rg 3 J <| Um J J <| aA (aX J J) J <| Um J J <| Wn <| aL <| bA (α := Nat × Nat × (List X)) (fun ⟨i, q, ds⟩ => [(3, outV q 4 (ds.map xc)), (6, .sl k (ns.map mc)), (7, .v (.int .i64 (ns.length : Int))), (8, .v (.int .i64 (i : Int)))]) (fun ⟨i, q, ds⟩ => outH q 4 103 (ds.map xc) []) (fun ⟨i, q, ds⟩ n => i ≤ ns.length ∧ ds = (ns.take i).map nx ∧ ds.length = i ∧ q < n) (fun ⟨i, q, ds⟩ => ns.length - i) (0, 0, []) ⟨J, J, J, J, trivial⟩ trivial ⟨Nat.zero_le _, by simp, rfl, om⟩ ?_
 rintro ⟨i, q, ds⟩ n hF
 change WC _ _ _ _ _ (_ :: _) (outH _ _ _ _ _) n _
 obtain ⟨hi, hds, hdl, hq⟩ := hF
 refine Rg 1 J <| aA (bP J J) J <| aW (fun h9 => ?_) (fun h9 => ?_)
 rotate_left
 ·refine Wn <| aT J <| aZ <| aQ <| aS J <| Rg 2 J <| Um J J <| Ua J J <| Wn <| aM ?_
  rw [List.take_of_length_le om] at hds
  rw [← hds, ← nP]
  exact nQ (n := 0) (.inr J) J (by decide) (fN (n := 4) (fun _ => rfl)) (bW dxc)
 refine Wn <| aP J <| aD <| aL <| Rg 4 J <| aA (bS J J J J J om J) J <| aA (dB (l := .agg [_, _]) J J J) J <| bD (dX J) J <| aY (cH (cs' := [_, _]) J J J g0 J J J J) <| cR ?_
 have hm := bO (us := ns) (i := i) om
 refine aH (z := 6) J <| Um J J <| aA (aO (l := .agg [_, _]) J J g0 J J) J <| aA (aN J (nI (ns.getD i default) (hI _ hm).1 (hI _ hm).2 (h0 _ hm)) (by first | (simp [-eU]; done) | simp)) J <| aA (cS (cs := [_, _, _, _]) (rows := [[_, _, _, _]]) J J (by decide) J J J) J <| jA (outH q 4 103 ((ds).map xc) []) (Hp.le_skip (cZ om J) (Hp.le_skip (cZ om J) (Hp.le_refl _))) <| cY (te := ti103) (f := xc) (q := q) (us := ds) (u := (nx (ns.getD i default))) J J J J J (fun _ => rfl) (by decide) (by show (2 * (ds.length + 1) + 256) * 64 ≤ _; omega) om J J J <| Ua J J <| Wn <| aF <| aH (z := 2) J <| aA (cI (((i + 1 : Nat) : Int)) (aR J J om) om) J <| Um J J <| Wn <| aG <| ⟨⟨i + 1, _, ds ++ [nx (ns.getD i default)]⟩, ⟨J, J, J, J, trivial⟩, cN, ⟨om, by rw [take_map_succ om, hds], by simp; omega, om⟩, by show ns.length - (i + 1) < ns.length - i; omega⟩
theorem nouts_run (k : Nat) (ns : List X) (ln : ns.length < 1099511627776)  : Run Tryz.prog T E0 (.call 56 [.sl k (ns.map xc)] (lvOV (ns.mapM (fun x => outN x.1)))) := by
 refine bC Tryz.func56 J J (cX J) <| Rg 2 J <| Ua J J <| Ua J J <| Wn <| Rg 1 J <| Ua J J <| Wn <| aB <| Rg 3 J <| Um J J <| aA (aX J J) J <| Um J J <| Wn <| aL <| bA (α := Nat × Nat × (List NM)) (fun ⟨i, q, ds⟩ => [(4, outV q 2 (ds.map mc)), (9, .sl k (ns.map xc)), (10, .v (.int .i64 (ns.length : Int))), (11, .v (.int .i64 (i : Int)))]) (fun ⟨i, q, ds⟩ => outH q 2 58 (ds.map mc) []) (fun ⟨i, q, ds⟩ n => i ≤ ns.length ∧ (ns.take i).mapM (fun x => outN x.1) = some ds ∧ ds.length = i ∧ q < n) (fun ⟨i, q, ds⟩ => ns.length - i) (0, 0, []) ⟨J, J, J, J, trivial⟩ trivial ⟨Nat.zero_le _, by simp, rfl, om⟩ ?_
 rintro ⟨i, q, ds⟩ n hF
 change WC _ _ _ _ _ (_ :: _) (outH _ _ _ _ _) n _
 obtain ⟨hi, hds, hdl, hq⟩ := hF
 refine Rg 1 J <| aA (bP J J) J <| aW (fun h12 => ?_) (fun h12 => ?_)
 rotate_left
 ·refine Wn <| aT J <| aZ <| aQ <| aS J <| Rg 3 J <| Um J J <| Ua J J <| Ua J J <| Wn <| aM ?_
  rw [List.take_of_length_le om] at hds
  rw [hds]
  exact postOutT (n := 0) (.inr J) J (by decide) (fN (n := 2) (fun _ => rfl)) (bW pO) (by simp [lvOV, nP])
 refine Wn <| aP J <| aD <| aL <| Rg 4 J <| aA (bS J J J J J om J) J <| aA (dB (l := .agg [_, _, _, _]) J J J) J <| bD (dX J) J <| aY (cH (cs' := [_, _, _, _]) J J J g0 J J J J) <| Wn <| Rg 8 J <| aA (aO (l := .agg [_, _, _, _]) J J g0 J J) J <| aA (bL (b := .tup [lvM ((outN (ns.getD i default).1).getD (0, 0)), .v (.int .i64 (if (outN (ns.getD i default).1).isSome = true then 0 else 3))]) (aN J (nout_run (ns.getD i default)) (by first | (simp [-eU]; done) | simp)) (by rw [lvO_eq])) J <| Um J J <| aA (dN J J) J <| aA (dN J J) J <| bD (dX J) J <| aY (cH (cs' := [_, _]) J J J g0 J J J J) <| Ua J J <| Nk [4,7,8,9,10,11] J <| aB <| Rg 2 J <| Um J J ?_
 refine aA (fS J J) J <| aW (fun h21 => ?_) (fun h21 => ?_)
 ·refine Wn <| aP J <| aB ?_
  have hno2 : outN (ns.getD i default).1 = none := by
   cases ho : outN (ns.getD i default).1 with
   | none => rfl
   | some _ => rw [ho] at h21; exact absurd rfl h21
  have hno : ns.mapM (fun x => outN x.1) = none := mapM_no (i := i) om hno2
  refine Rg 3 J <| Um J J <| Ua J J <| Ua J J <| Wn <| aU <| aK <| bE <| aK <| post (n := 0) (.inr J) J ?_ (by first | (simp [-eU]; done) | simp)
  first | (rw [hno]; rfl) | (rw [hno, hno2]; rfl)
 refine Wn <| aT J <| aD ?_
 obtain ⟨o, ho⟩ : ∃ o, outN (ns.getD i default).1 = some o := by
  cases ho : outN (ns.getD i default).1 with
  | none => rw [ho] at h21; exact absurd (by decide) h21
  | some o => exact ⟨o, rfl⟩
 refine aH (z := 5) J <| Um J J <| aA (bL (b := lvM o) (aO (l := .agg [_, _]) J J g0 J J) (by simp only [ho, Option.getD_some]; rfl)) J <| aA (cS (cs := [_, _]) (rows := [[_, _]]) J J (by decide) J J J) J <| jA (outH q 2 58 ((ds).map mc) []) (Hp.le_skip (cZ om J) (Hp.le_skip (cZ om J) (Hp.le_skip (cZ om J) (Hp.le_skip (cZ om J) (Hp.le_refl _))))) <| cY (te := ti58) (f := mc) (q := q) (us := ds) (u := o) J J J J J (fun _ => rfl) (by decide) (by show (2 * (ds.length + 1) + 256) * 16 ≤ _; omega) om J J J <| Ua J J <| Wn <| aF <| aH (z := 2) J <| aA (cI (((i + 1 : Nat) : Int)) (aR J J om) om) J <| Um J J <| Wn <| aG <| ⟨⟨i + 1, _, ds ++ [o]⟩, ⟨J, J, J, J, trivial⟩, cN, ⟨om, mapM_take hds om ho, by simp; omega, om⟩, by show ns.length - (i + 1) < ns.length - i; omega⟩
theorem qnums_run (k : Nat) (ns : List Rat) (ln : ns.length < 1099511627776)  : Run Tryz.prog T E0 (.call 11 [.sl k (ns.map qc)] (lvOV (ns.mapM outN))) := by
 refine bC Tryz.func11 J J (cX J) <| Rg 2 J <| Ua J J <| Ua J J <| Wn <| Rg 1 J <| Ua J J <| Wn <| aB <| Rg 3 J <| Um J J <| aA (aX J J) J <| Um J J <| Wn <| aL <| bA (α := Nat × Nat × (List NM)) (fun ⟨i, q, ds⟩ => [(4, outV q 2 (ds.map mc)), (9, .sl k (ns.map qc)), (10, .v (.int .i64 (ns.length : Int))), (11, .v (.int .i64 (i : Int)))]) (fun ⟨i, q, ds⟩ => outH q 2 58 (ds.map mc) []) (fun ⟨i, q, ds⟩ n => i ≤ ns.length ∧ (ns.take i).mapM outN = some ds ∧ ds.length = i ∧ q < n) (fun ⟨i, q, ds⟩ => ns.length - i) (0, 0, []) ⟨J, J, J, J, trivial⟩ trivial ⟨Nat.zero_le _, by simp, rfl, om⟩ ?_
 rintro ⟨i, q, ds⟩ n hF
 change WC _ _ _ _ _ (_ :: _) (outH _ _ _ _ _) n _
 obtain ⟨hi, hds, hdl, hq⟩ := hF
 refine Rg 1 J <| aA (bP J J) J <| aW (fun h12 => ?_) (fun h12 => ?_)
 rotate_left
 ·refine Wn <| aT J <| aZ <| aQ <| aS J <| Rg 3 J <| Um J J <| Ua J J <| Ua J J <| Wn <| aM ?_
  rw [List.take_of_length_le om] at hds
  rw [hds]
  exact postOutT (n := 0) (.inr J) J (by decide) (fN (n := 2) (fun _ => rfl)) (bW pO) (by simp [lvOV, nP])
 refine Wn <| aP J <| aD <| aL <| Rg 4 J <| aA (bS J J J J J om J) J <| aA (dB (l := .agg [_, _, _, _, _, _]) J J J) J <| bD (dX J) J <| aY (cH (cs' := [_, _, _, _, _, _]) J J J g0 J J J J) <| Wn <| Rg 8 J <| aA (aO (l := .agg [_, _, _, _, _, _]) J J g0 J J) J <| aA (aN J (nfrom_run (ns.getD i default)) (by first | (simp [-eU]; done) | simp)) J <| Um J J <| aA (dN J J) J <| aA (dN J J) J <| dC (fun h19 => ?_) (fun h19 => ?_)
 rotate_left
 ·refine bD (dX J) J <| aY (cH (cs' := [_, _]) J J J g0 J J J J) <| Ua J J <| Nk [4,7,8,9,10,11] J <| aB <| Rg 2 J <| Um J J <| aA (cW J) J <| Wn <| aP J <| aB ?_
  have hno : ns.mapM outN = none := mapM_no (i := i) om (by cases ho : outN (ns.getD i default) with
   | none => rfl
   | some _ => rw [ho] at h19; cases h19)
  refine Rg 2 J <| Ua J J <| Ua J J <| Wn <| aU <| aK <| bE <| aK <| post (n := 0) (.inr J) J ?_ (by first | (simp [-eU]; done) | simp)
  first | (rw [hno]; rfl) | (rw [hno, hno2]; rfl)
 refine bD (dX J) J <| aY (cH (cs' := [_, _]) J J J g0 J J J J) <| Ua J J <| Nk [4,7,8,9,10,11] J <| aB <| Rg 2 J <| Um J J <| aA (cW J) J <| Wn <| aT J <| aD ?_
 obtain ⟨o, ho⟩ : ∃ o, outN (ns.getD i default) = some o := by
  cases ho : outN (ns.getD i default) with
  | none => rw [ho] at h19; cases h19
  | some o => exact ⟨o, rfl⟩
 refine aH (z := 5) J <| Um J J <| aA (bL (b := lvM o) (aO (l := .agg [_, _]) J J g0 J J) (by simp only [ho, Option.getD_some]; rfl)) J <| aA (cS (cs := [_, _]) (rows := [[_, _]]) J J (by decide) J J J) J <| jA (outH q 2 58 ((ds).map mc) []) (Hp.le_skip (cZ om J) (Hp.le_skip (cZ om J) (Hp.le_skip (cZ om J) (Hp.le_skip (cZ om J) (Hp.le_refl _))))) <| cY (te := ti58) (f := mc) (q := q) (us := ds) (u := o) J J J J J (fun _ => rfl) (by decide) (by show (2 * (ds.length + 1) + 256) * 16 ≤ _; omega) om J J J <| Ua J J <| Wn <| aF <| aH (z := 2) J <| aA (cI (((i + 1 : Nat) : Int)) (aR J J om) om) J <| Um J J <| Wn <| aG <| ⟨⟨i + 1, _, ds ++ [o]⟩, ⟨J, J, J, J, trivial⟩, cN, ⟨om, mapM_take hds om ho, by simp; omega, om⟩, by show ns.length - (i + 1) < ns.length - i; omega⟩
theorem qall_run (k : Nat) (ns : List NM) (hI : IV ns) (ln : ns.length < 1099511627776) : Run Tryz.prog T E0 (.call 41 [.sl k (ns.map mc)] (.v (.bool (ns.all vn)))) := by
 refine bC Tryz.func41 J J (cX J) <| Rg 1 J <| Ua J J <| Wn <| aB <| Rg 3 J <| Um J J <| aA (aX J J) J <| Um J J <| Wn <| aL <| bA (α := Nat) (fun i => [(5, .sl k (ns.map mc)), (6, .v (.int .i64 (ns.length : Int))), (7, .v (.int .i64 (i : Int)))]) (fun i => []) (fun i n => i ≤ ns.length ∧ (ns.take i).all vn = true) (fun i => ns.length - i) (0) ⟨J, J, J, trivial⟩ trivial ⟨Nat.zero_le _, by simp⟩ ?_
 rintro i n hF
 change WC _ _ _ _ _ (_ :: _) ([]) n _
 obtain ⟨hi, ha⟩ := hF
 refine Rg 1 J <| aA (bP J J) J <| aW (fun h8 => ?_) (fun h8 => ?_)
 rotate_left
 ·refine Wn <| aT J <| aZ <| aQ <| aS J <| Rg 1 J <| Ua J J <| Wn <| aM <| post (n := 0) (.inr J) J ?_ (by first | (simp [-eU]; done) | simp)
  exact congrArg (fun z => LV.v (.bool z)) ((gC ha om).symm)
 refine Wn <| aP J <| aD <| aL <| Rg 4 J <| aA (bS J J J J J om J) J <| aA (dB (l := .agg [_, _]) J J J) J <| bD (dX J) J <| aY (cH (cs' := [_, _]) J J J g0 J J J J) <| cR ?_
 have hm := bO (us := ns) (i := i) om
 refine Rg 3 J <| aA (aO (l := .agg [_, _]) J J g0 J J) J <| aA (bL (b := .v (.bool (vn (ns.getD i default)))) (aN J (iV (ns.getD i default) (hI _ hm).1 (hI _ hm).2) (by first | (simp [-eU]; done) | simp)) J) J <| dC (fun h12 => ?_) (fun h12 => ?_)
 ·refine aA (cW J) J <| Wn <| bZ J <| cE <| aF <| aH (z := 2) J <| aA (cI (((i + 1 : Nat) : Int)) (aR J J om) om) J <| Um J J <| Wn <| aG <| ⟨i + 1, ⟨J, J, J, trivial⟩, trivial, ⟨om, fK ha om h12⟩, by show ns.length - (i + 1) < ns.length - i; omega⟩
 refine aA (cW J) J <| Wn <| bU J <| Rg 1 J <| Ua J J <| Wn <| aM <| aK <| bE <| aK <| post (n := 0) (.inr J) J ?_ (by first | (simp [-eU]; done) | simp)
 exact congrArg (fun z => LV.v (.bool z)) ((nZ (i := i) om h12).symm)
end Go.Proofs.YtcblgjaomljikaaGreat
set_option maxHeartbeats 8000000
namespace Go.Proofs.YtcblgjaomljikaaGreat
open Go.Ab Go.RowKit
theorem rsub_run (x y : X) (hx : Bd 34359738368 x.1) (hy : Bd 34359738368 y.1) : Run Tryz.prog T E0 (.call 122 [lvX x, lvX y] (lvX (xadd x (xneg y)))) := by
 refine bC Tryz.func122 J J (cX J) <| Rg 3 J <| bD (dY J J) J <| bD (dY J J) J <| bD (dX J) J <| Wn <| bQ (z := 5) J kR <| aJ (aO (l := lvX x) J J (by repeat (first | exact g0 | refine g1 (by decide) ?_)) J J) J ?_
 refine aJ (aO (l := lvX y) J J (by repeat (first | exact g0 | refine g1 (by decide) ?_)) J J) J ?_
 refine aJ (aN J (rneg_run y) dD) J <| aJ (aN J (nS x (xneg y) (hx.mono (by decide)) (hy.neg.mono (by decide))) dD) J <| cU (cH (cs' := xc (xadd x (xneg y))) J J J (by repeat (first | exact g0 | refine g1 (by decide) ?_)) J J J J) ?_
 refine bK (aV kR) J <| aM <| post (n := 0) (.inr J) J ?_ dD
 rfl
theorem rcmp_run (x y : X) (hx : Bd 34359738368 x.1) (hy : Bd 34359738368 y.1) : Run Tryz.prog T E0 (.call 121 [lvX x, lvX y] (.v (.int .i64 (x.1 - y.1).num.sign))) := by
 refine bC Tryz.func121 J J (cX J) <| Rg 3 J <| bD (dY J J) J <| bD (dY J J) J <| Ua J J <| Wn <| Rg 5 J <| aA (aO (l := lvX x) J J (by repeat (first | exact g0 | refine g1 (by decide) ?_)) J J) J ?_
 refine aA (aO (l := lvX y) J J (by repeat (first | exact g0 | refine g1 (by decide) ?_)) J J) J ?_
 refine aA (aN J (rsub_run x y hx hy) dD) J <| aA (bL (b := .v (.int .i64 (x.1 - y.1).num.sign)) (aN J (rsign_run (xadd x (xneg y))) dD) (by rw [show (xadd x (xneg y)).1 = x.1 - y.1 from (Rat.sub_eq_add_neg _ _).symm])) J <| Ua J J <| Wn <| aM <| post (n := 0) (.inr J) J ?_ dD
 rfl
theorem mchoice_run (m : Nat) (c : CH) (hI : IC c) (hm : m < 1000000) : Run Tryz.prog T E0 (.call 135 [.v (.int .i64 (m : Int)), lvC c] (.v (.bool (VC m c)))) := by
 refine bC Tryz.func135 J J (cX J) <| Rg 2 J <| bD (dY J J) J <| Ua J J <| Wn <| aB <| Rg 16 J <| aA (bB J J J J J) J <| aA (aO (l := lvM c.1) J J (by repeat (first | exact g0 | refine g1 (by decide) ?_)) J J) J ?_
 refine aA (aN J (mM c.1 hI.1 hI.2.1) dD) J <| dC (fun h11 => ?_) (fun h11 => ?_)
 rotate_left
 ·refine aA (cW J) J <| Um J J <| K1 J J <| K1 J J <| K1 J J <| K1 J J <| aA (bG J J) J <| Um J J <| K1 J J <| K1 J J <| K1 J J <| K1 J J <| aA (bG J J) J <| Nk [0,3,24] J <| aP J <| aB <| Rg 1 J <| Ua J J <| Wn <| aU <| post (n := 0) (.inr J) J ?_ dD
  exact congrArg (fun z => LV.v (.bool z)) (show false = VC m c from (VC_no1 h11).symm)
 refine aA (cW J) J <| Um J J <| aE J (bB J J J J J) J <| aE J (aO J J (by repeat (first | exact g0 | refine g1 (by decide) ?_)) J J) J ?_
 refine aE J (aX J J) J <| aE J (bP J J) J <| aW (fun h17 => ?_) (fun h17 => ?_)
 ·refine aA (bF J J) J <| Um J J <| K1 J J <| K1 J J <| K1 J J <| K1 J J <| aA (bG J J) J <| Nk [0,3,24] J <| aP J <| aB <| Rg 1 J <| Ua J J <| Wn <| aU <| post (n := 0) (.inr J) J ?_ dD
  exact congrArg (fun z => LV.v (.bool z)) (show false = VC m c from (VC_no2 om).symm)
 refine aA (bF J J) J <| Um J J <| aE J (bB J J J J J) J <| aE J (aO J J (by repeat (first | exact g0 | refine g1 (by decide) ?_)) J J) J ?_
 refine aE J (aX J J) J <| aE J (dG J J) J <| aW (fun h23 => ?_) (fun h23 => ?_)
 ·refine aA (bF J J) J <| Nk [0,3,24] J <| aP J <| aB <| Rg 1 J <| Ua J J <| Wn <| aU <| post (n := 0) (.inr J) J ?_ dD
  exact congrArg (fun z => LV.v (.bool z)) (show false = VC m c from (VC_no2 om).symm)
 refine aA (bF J J) J <| Nk [0,3,24] J <| aT J <| aD <| Rg 1 J <| bD (dX J) J <| Wn <| Rg 1 J <| Ua J J <| Wn <| aB <| Rg 4 J <| aA (bB J J J J J) J <| aA (aO J J (by repeat (first | exact g0 | refine g1 (by decide) ?_)) J J) J ?_
 refine aA (aX J J) J <| Um J J <| Wn <| aL <| bA (α := Nat × X) (fun ⟨i, s⟩ => [(0, .v (.int .i64 (m : Int))), (5, .ptr 18 0), (6, .v (.int .i64 (lastB c.2.2 i))), (26, .sl c.2.1 (c.2.2.map brc)), (27, .v (.int .i64 (c.2.2.length : Int))), (28, .v (.int .i64 (i : Int)))]) (fun ⟨i, s⟩ => [(18, { cells := xc (s), sz := 4, elem := 103, st := 0 })]) (fun ⟨i, s⟩ n => i ≤ c.2.2.length ∧ s.1 = psum c.2.2 i ∧ (∀ j, j < i → okB m c.2.2 j = true) ∧ 18 < n) (fun ⟨i, s⟩ => c.2.2.length - i) (0, x0) ⟨J, J, J, J, J, J, trivial⟩ ⟨(by repeat (first | exact g0 | refine g1 (by decide) ?_)), trivial⟩ ⟨Nat.zero_le _, rfl, fun j hj => absurd hj om, om⟩ ?_
 rintro ⟨i, s⟩ n hF
 change WC _ _ _ _ _ (_ :: _) (_ :: _) n _
 obtain ⟨hi, hs, hok, hn⟩ := hF
 refine Rg 1 J <| aA (bP J J) J <| aW (fun h29 => ?_) (fun h29 => ?_)
 rotate_left
 ·refine Wn <| aT J <| aZ <| aQ <| aS J ?_
  have hok' : ∀ j, j < c.2.2.length → okB m c.2.2 j = true := fun j hj => hok j om
  have hsb := hO (bs := c.2.2) i om (fun j hj => (mP (hok j hj)).1)
  have hil : i = c.2.2.length := by omega
  refine bQ (z := 5) J kR <| aJ (aO (l := lvX s) J J gG J J) J ?_
  refine aJ (aN J (whole_run 1 (by unfold I64; omega)) dD) J <| aJ (aN J (rcmp_run s (xint 1) (by rw [hs]; exact hsb.mono om) (Bd1.mono (by decide))) dD) J <| aJ (bL (b := .v (.bool (decide (psum c.2.2 c.2.2.length = 1)))) (eR J J) (congrArg (fun z => LV.v (.bool z)) (decide_eq_decide.2 (by rw [show (s.1 - (xint 1).1) = psum c.2.2 c.2.2.length - 1 by rw [hs, hil]; rfl]; exact sign_one)))) J <| aJ (kU J) J <| bK (aV kR) J <| aM <| post (n := 0) (.inr J) J ?_ dD
  exact congrArg (fun z => LV.v (.bool z)) (show decide (psum c.2.2 c.2.2.length = 1) = VC m c from (VC_yes h11 om om hok').symm)
 refine Wn <| aP J <| aD <| aL ?_
 have hIb := hI.2.2 _ (bO (us := c.2.2) (i := i) om)
 refine Rg 4 J <| aA (bS J J J J J om J) J <| aA (dB (l := .agg [_, _, _]) J J J) J <| bD (dX J) J <| aY (cH (cs' := [_, _, _]) J J J gG J J J J) ?_
 refine Wn <| aB <| Rg 22 J <| aA (bB J J J J J) J <| aA (aO J J gG J J) J ?_
 refine Um J J <| aA (mO J J) J <| aW (fun h35 => ?_) (fun h35 => ?_)
 ·refine Um J J <| K1 J J <| K1 J J <| K1 J J <| K1 J J <| aA (bG J J) J <| Um J J <| K1 J J <| K1 J J <| K1 J J <| K1 J J <| aA (bG J J) J <| Um J J <| K1 J J <| K1 J J <| K1 J J <| K1 J J <| aA (bG J J) J <| Nk [0,5,8,26,27,28,37,38,39,40,43,44,45,46,49,50,51,52,53] J <| aP J <| aB <| Rg 1 J <| Ua J J ?_
  refine Nk [4] J <| aU <| aK <| bE <| aK <| post (n := 0) (.inr J) J ?_ dD
  exact congrArg (fun z => LV.v (.bool z)) (show false = VC m c from (iE (i := i) om (iM (.inl om))).symm)
 refine Um J J <| aE J (bB J J J J J) J <| aE J (aO J J gG J J) J ?_
 refine aE J (dU J) J <| aE J (fJ J J) J <| aW (fun h40 => ?_) (fun h40 => ?_)
 ·refine aA (bF J J) J <| Um J J <| K1 J J <| K1 J J <| K1 J J <| K1 J J <| aA (bG J J) J <| Um J J <| K1 J J <| K1 J J <| K1 J J <| K1 J J <| aA (bG J J) J <| Nk [0,5,8,26,27,28,37,38,39,40,43,44,45,46,49,50,51,52,53] J <| aP J <| aB <| Rg 1 J <| Ua J J <| Nk [4] J <| aU <| aK <| bE ?_
  refine aK <| post (n := 0) (.inr J) J ?_ dD
  exact congrArg (fun z => LV.v (.bool z)) (show false = VC m c from (iE (i := i) om (iM (.inr (.inl om)))).symm)
 refine aA (bF J J) J <| Um J J <| aE J (bB J J J J J) J <| aE J (aO (l := lvM (c.2.2.getD i default).2) J J gG J J) J ?_
 refine aE J (aN J (mM (c.2.2.getD i default).2 hIb.2.1 hIb.2.2) dD) J <| dC (fun h45 => ?_) (fun h45 => ?_)
 rotate_left
 ·refine aE J (cW J) J <| aA (bF J J) J <| Um J J <| K1 J J <| K1 J J <| K1 J J <| K1 J J <| aA (bG J J) J <| Nk [0,5,8,26,27,28,37,38,39,40,43,44,45,46,49,50,51,52,53] J <| aP J <| aB <| Rg 1 J <| Ua J J <| Nk [4] J <| aU <| aK <| bE <| aK <| post (n := 0) (.inr J) J ?_ dD
  exact congrArg (fun z => LV.v (.bool z)) (show false = VC m c from (iE (i := i) om (iM (.inr (.inr (.inl h45))))).symm)
 refine aE J (cW J) J <| aA (bF J J) J <| Um J J <| aE J (bB J J J J J) J <| aE J (bB J J J J J) J <| aE J (aO J J gG J J) J ?_
 refine aE J (mO J J) J <| aW (fun h52 => ?_) (fun h52 => ?_)
 ·refine aA (bF J J) J <| Nk [0,5,8,26,27,28,37,38,39,40,43,44,45,46,49,50,51,52,53] J <| aP J <| aB <| Rg 1 J <| Ua J J <| Nk [4] J <| aU <| aK <| bE <| aK <| post (n := 0) (.inr J) J ?_ dD
  exact congrArg (fun z => LV.v (.bool z)) (show false = VC m c from (iE (i := i) om (iM (.inr (.inr (.inr om))))).symm)
 refine aA (bF J J) J <| Nk [0,5,8,26,27,28,37,38,39,40,43,44,45,46,49,50,51,52,53] J <| aT J <| aD ?_
 have hvb : VN (c.2.2.getD i default).2 := of_decide_eq_true h45
 have hokI : okB m c.2.2 i = true := okB_yes om om h45 om
 have hsb := hO (bs := c.2.2) i om (fun j hj => (mP (hok j hj)).1)
 refine Rg 3 J <| aA (bB J J J J J) J <| aA (aO J J gG J J) J ?_
 refine Ua J J <| Nk [0,5,6,8,26,27,28,37,38,39,40,43,44,45,46,49,50,51,52] J <| dQ (z := 6) J kR <| aJ (aO (l := lvX s) J J gG J J) J ?_
 refine aJ (bB J J J J J) J <| aJ (aO (l := lvM (c.2.2.getD i default).2) J J gG J J) J ?_
 refine aJ (bL (b := lvX (nx (c.2.2.getD i default).2)) (aN J (nI (c.2.2.getD i default).2 hIb.2.1 hIb.2.2 (by have := hvb.1; omega)) dD) J) J <| aJ (aN J (nS s (nx (c.2.2.getD i default).2) (by rw [hs]; exact hsb.mono om) (hvb.bd.mono (by decide))) dD) J <| cU (cH (cs' := xc (xadd s (nx (c.2.2.getD i default).2))) J J J gG J J J J) ?_
 refine bK (aV kR) J <| aF <| Ck [0,5,6,26,27,28,37,38,39,40,43,44,45,46,49,50,51,52] J <| aH (z := 2) J <| aA (cI (((i + 1 : Nat) : Int)) (aR J J om) om) J <| Um J J <| Wn <| aG <| ⟨⟨i + 1, xadd s (nx (c.2.2.getD i default).2)⟩, ⟨J, J, J, J, J, J, trivial⟩, ⟨gG, trivial⟩, ⟨om, by rw [psum, ← hs]; rfl, fun j hj => ?_, om⟩, by show c.2.2.length - (i + 1) < c.2.2.length - i; omega⟩
 by_cases e : j = i
 ·rw [e]; exact hokI
 ·exact hok j om
end Go.Proofs.YtcblgjaomljikaaGreat
namespace Go.Proofs.YtcblgjaomljikaaGreat
open Go.Ab Go.RowKit
theorem qchoice_run (m : Nat) (c : CH) (hI : IC c) (hm : m < 1000000) : Run Tryz.prog T E0 (.call 99 [lvC c, .v (.int .i64 (m : Int))] (.v (.bool (VC m c)))) := by
 refine bC Tryz.func99 J J (cX J) <| Rg 2 J <| bD (dY J J) J <| Ua J J <| Wn <| aB <| Rg 16 J <| aA (bB J J J J J) J <| aA (aO (l := lvM c.1) J J (by repeat (first | exact g0 | refine g1 (by decide) ?_)) J J) J ?_
 refine aA (aN J (iV c.1 hI.1 hI.2.1) dD) J <| dC (fun h10 => ?_) (fun h10 => ?_)
 rotate_left
 ·refine aA (cW J) J <| Um J J <| K1 J J <| K1 J J <| K1 J J <| K1 J J <| aA (bG J J) J <| Um J J <| K1 J J <| K1 J J <| K1 J J <| K1 J J <| aA (bG J J) J <| Nk [1,2,23] J <| aP J <| aB <| Rg 1 J <| Ua J J <| Wn <| aU <| post (n := 0) (.inr J) J ?_ dD
  exact congrArg (fun z => LV.v (.bool z)) (show false = VC m c from (VC_no1 h10).symm)
 refine aA (cW J) J <| Um J J <| aE J (bB J J J J J) J <| aE J (aO J J (by repeat (first | exact g0 | refine g1 (by decide) ?_)) J J) J ?_
 refine aE J (aX J J) J <| aE J (bP J J) J <| aW (fun h16 => ?_) (fun h16 => ?_)
 ·refine aA (bF J J) J <| Um J J <| K1 J J <| K1 J J <| K1 J J <| K1 J J <| aA (bG J J) J <| Nk [1,2,23] J <| aP J <| aB <| Rg 1 J <| Ua J J <| Wn <| aU <| post (n := 0) (.inr J) J ?_ dD
  exact congrArg (fun z => LV.v (.bool z)) (show false = VC m c from (VC_no2 om).symm)
 refine aA (bF J J) J <| Um J J <| aE J (bB J J J J J) J <| aE J (aO J J (by repeat (first | exact g0 | refine g1 (by decide) ?_)) J J) J ?_
 refine aE J (aX J J) J <| aE J (dG J J) J <| aW (fun h22 => ?_) (fun h22 => ?_)
 ·refine aA (bF J J) J <| Nk [1,2,23] J <| aP J <| aB <| Rg 1 J <| Ua J J <| Wn <| aU <| post (n := 0) (.inr J) J ?_ dD
  exact congrArg (fun z => LV.v (.bool z)) (show false = VC m c from (VC_no2 om).symm)
 refine aA (bF J J) J <| Nk [1,2,23] J <| aT J <| aD <| Rg 3 J <| aA (bL (b := lvQ 0) (aN J (mN 0 (by unfold I64; omega)) dD) J) J <| bD (dX J) J <| aY (cH (cs' := qc 0) J J J g0 J J J J) <| Wn <| aB <| Rg 4 J <| aA (bB J J J J J) J <| aA (aO J J (by repeat (first | exact g0 | refine g1 (by decide) ?_)) J J) J ?_
 refine aA (aX J J) J <| Um J J <| Wn <| aL <| bA (α := Nat × Rat) (fun ⟨i, s⟩ => [(1, .v (.int .i64 (m : Int))), (2, .ptr 0 0), (5, .ptr 19 0), (26, .sl c.2.1 (c.2.2.map brc)), (27, .v (.int .i64 (c.2.2.length : Int))), (28, .v (.int .i64 (i : Int)))]) (fun ⟨i, s⟩ => [(19, { cells := qc (s), sz := 6, elem := 64, st := 0 }), (0, { cells := chc c, sz := 3, elem := (87), st := 0 })]) (fun ⟨i, s⟩ n => i ≤ c.2.2.length ∧ s = psum c.2.2 i ∧ (∀ j, j < i → okB m c.2.2 j = true) ∧ 19 < n) (fun ⟨i, s⟩ => c.2.2.length - i) (0, 0) ⟨J, J, J, J, J, J, trivial⟩ ⟨(by repeat (first | exact g0 | refine g1 (by decide) ?_)), (by repeat (first | exact g0 | refine g1 (by decide) ?_)), trivial⟩ ⟨Nat.zero_le _, rfl, fun j hj => absurd hj om, om⟩ ?_
 rintro ⟨i, s⟩ n hF
 change WC _ _ _ _ _ (_ :: _) (_ :: _) n _
 obtain ⟨hi, hs, hok, hn⟩ := hF
 refine Rg 1 J <| aA (bP J J) J <| aW (fun h29 => ?_) (fun h29 => ?_)
 rotate_left
 ·refine Wn <| aT J <| aZ <| aQ <| aS J ?_
  have hok' : ∀ j, j < c.2.2.length → okB m c.2.2 j = true := fun j hj => hok j om
  have hsb := hO (bs := c.2.2) i om (fun j hj => (mP (hok j hj)).1)
  have hil : i = c.2.2.length := by omega
  refine bQ (z := 5) J kR <| aJ (aO (l := lvQ s) J J gG J J) J ?_
  refine aJ (bL (b := lvQ 1) (aN J (mN 1 (by unfold I64; omega)) dD) J) J <| aJ (aN J (nrcmp_run s 1 (by rw [hs]; exact hsb.mono om) (Bd1.mono (by decide))) dD) J <| aJ (bL (b := .v (.bool (decide (psum c.2.2 c.2.2.length = 1)))) (eR J J) (congrArg (fun z => LV.v (.bool z)) (decide_eq_decide.2 (by rw [hs, hil]; exact sign_one)))) J <| aJ (kU J) J <| bK (aV kR) J <| aM <| post (n := 0) (.inr J) J ?_ dD
  exact congrArg (fun z => LV.v (.bool z)) (show decide (psum c.2.2 c.2.2.length = 1) = VC m c from (VC_yes h10 om om hok').symm)
 refine Wn <| aP J <| aD <| aL ?_
 have hIb := hI.2.2 _ (bO (us := c.2.2) (i := i) om)
 have hlo := okB_lo i hok
 have hl0 : 0 < i → lastB c.2.2 i = (c.2.2.getD (i - 1) default).1 := lastB_pos
 have hl1 : ¬ 0 < i → lastB c.2.2 i = -1 := fun h => by rw [show i = 0 by omega]; rfl
 refine Rg 6 J <| Um J J <| aA (bS J J J J J om J) J <| aA (dB (l := .agg [_, _, _]) J J J) J <| bD (dX J) J <| Ua J J <| aY (cH (cs' := [_, _, _]) J J J gG J J J J) ?_
 refine Wn <| aB <| bQ (z := 37) J kR <| aJ (bB J J J J J) J <| aJ (aO J J gG J J) J ?_
 refine aJ (bP J J) J <| lZ (fun h35 => ?_) (fun h35 => ?_)
 ·refine Dm J J <| cA J J <| cA J J <| cA J J <| cA J J <| aJ (bG J J) J <| Dm J J <| cA J J <| cA J J <| cA J J <| cA J J <| cA J J <| cA J J <| cA J J <| cA J J <| cA J J <| cA J J <| cA J J <| cA J J <| cA J J <| cA J J <| aJ (bG J J) J <| Dm J J <| cA J J ?_
  refine cA J J <| cA J J <| cA J J <| aJ (bG J J) J <| Dm J J <| cA J J <| cA J J <| cA J J <| cA J J <| aJ (bG J J) J <| bK (aV kR) J <| Ck [1,2,5,7,26,27,28,37,38,39,40,43,44,45,46,47,48,49,50,51,52,53,54,55,56,59,60,61,62,65,66,67,68,69] J <| aP J <| aB <| Rg 1 J <| Ua J J <| Nk [4] J <| aU <| aK <| bE <| aK <| post (n := 0) (.inr J) J ?_ dD
  exact congrArg (fun z => LV.v (.bool z)) (show false = VC m c from (iE (i := i) om (iM (.inl om))).symm)
 refine Dm J J <| cC J (bB J J J J J) J <| cC J (aO J J gG J J) J ?_
 refine cC J (dU J) J <| cC J (fJ J J) J <| lZ (fun h40 => ?_) (fun h40 => ?_)
 ·refine aJ (bF J J) J <| Dm J J <| cA J J <| cA J J <| cA J J <| cA J J <| cA J J <| cA J J <| cA J J <| cA J J <| cA J J <| cA J J <| cA J J <| cA J J <| cA J J <| cA J J <| aJ (bG J J) J <| Dm J J <| cA J J <| cA J J <| cA J J <| cA J J <| aJ (bG J J) J <| Dm J J ?_
  refine cA J J <| cA J J <| cA J J <| cA J J <| aJ (bG J J) J <| bK (aV kR) J <| Ck [1,2,5,7,26,27,28,37,38,39,40,43,44,45,46,47,48,49,50,51,52,53,54,55,56,59,60,61,62,65,66,67,68,69] J <| aP J <| aB <| Rg 1 J <| Ua J J <| Nk [4] J <| aU <| aK <| bE <| aK <| post (n := 0) (.inr J) J ?_ dD
  exact congrArg (fun z => LV.v (.bool z)) (show false = VC m c from (iE (i := i) om (iM (.inr (.inl om)))).symm)
 refine aJ (bF J J) J <| Dm J J <| cC J (dU J) J <| cC J (dG J J) J <| lZ (fun h44 => ?_) (fun h44 => ?_)
 rotate_left
 ·refine cC J (dU J) J <| cA J J <| cA J J <| cA J J <| cA J J <| cA J J <| cA J J <| cA J J <| cA J J <| cA J J <| cA J J <| cC J (bF J J) J <| aJ (bF J J) J <| Dm J J <| cC J (bB J J J J J) J <| cC J (aO (l := lvM (c.2.2.getD i default).2) J J gG J J) J ?_
  refine cC J (aN J (iV (c.2.2.getD i default).2 hIb.2.1 hIb.2.2) dD) J <| WD.B (fun h61 => ?_) (fun h61 => ?_)
  rotate_left
  ·refine cC J (cW J) J <| aJ (bF J J) J <| Dm J J <| cA J J <| cA J J <| cA J J <| cA J J <| aJ (bG J J) J <| bK (aV kR) J <| Ck [1,2,5,7,26,27,28,37,38,39,40,43,44,45,46,47,48,49,50,51,52,53,54,55,56,59,60,61,62,65,66,67,68,69] J <| aP J <| aB <| Rg 1 J <| Ua J J <| Nk [4] J <| aU <| aK <| bE <| aK <| post (n := 0) (.inr J) J ?_ dD
   exact congrArg (fun z => LV.v (.bool z)) (show false = VC m c from (iE (i := i) om (iM (.inr (.inr (.inl h61))))).symm)
  refine cC J (cW J) J <| aJ (bF J J) J <| Dm J J <| cC J (bB J J J J J) J <| cC J (bB J J J J J) J <| cC J (aO J J gG J J) J ?_
  refine cC J (mO J J) J <| lZ (fun h68 => ?_) (fun h68 => ?_)
  ·refine aJ (bF J J) J <| bK (aV kR) J <| Ck [1,2,5,7,26,27,28,37,38,39,40,43,44,45,46,47,48,49,50,51,52,53,54,55,56,59,60,61,62,65,66,67,68,69] J <| aP J <| aB <| Rg 1 J <| Ua J J <| Nk [4] J <| aU <| aK <| bE <| aK <| post (n := 0) (.inr J) J ?_ dD
   exact congrArg (fun z => LV.v (.bool z)) (show false = VC m c from (iE (i := i) om (iM (.inr (.inr (.inr om))))).symm)
  refine aJ (bF J J) J <| bK (aV kR) J <| Ck [1,2,5,7,26,27,28,37,38,39,40,43,44,45,46,47,48,49,50,51,52,53,54,55,56,59,60,61,62,65,66,67,68,69] J <| aT J <| aD ?_
  have hvb : VN (c.2.2.getD i default).2 := of_decide_eq_true h61
  have hokI : okB m c.2.2 i = true := okB_yes om om h61 om
  have hsb := hO (bs := c.2.2) i om (fun j hj => (mP (hok j hj)).1)
  refine dQ (z := 6) J kR <| aJ (aO (l := lvQ s) J J gG J J) J ?_
  refine aJ (bB J J J J J) J <| aJ (aO (l := lvM (c.2.2.getD i default).2) J J gG J J) J ?_
  refine aJ (bL (b := lvQ (nq (c.2.2.getD i default).2)) (aN J (nto_run (c.2.2.getD i default).2 hIb.2.1 hIb.2.2 hvb) dD) J) J <| aJ (aN J (lL s (nq (c.2.2.getD i default).2) (by rw [hs]; exact hsb.mono om) (hvb.bd.mono (by decide))) dD) J <| cU (cH (cs' := qc (s + nq (c.2.2.getD i default).2)) J J J gG J J J J) ?_
  refine bK (aV kR) J <| aF <| Ck [1,2,5,26,27,28,37,38,39,40,43,44,45,46,47,48,49,50,51,52,53,54,55,56,59,60,61,62,65,66,67,68] J <| aH (z := 2) J <| aA (cI (((i + 1 : Nat) : Int)) (aR J J om) om) J <| Um J J <| Wn <| aG <| ⟨⟨i + 1, s + nq (c.2.2.getD i default).2⟩, ⟨J, J, J, J, J, J, trivial⟩, ⟨gG, gG, trivial⟩, ⟨om, by rw [psum, ← hs], fun j hj => ?_, om⟩, by show c.2.2.length - (i + 1) < c.2.2.length - i; omega⟩
  by_cases e : j = i
  ·rw [e]; exact hokI
  ·exact hok j om
 refine cC J (dU J) J <| cC J (bB J J J J J) J <| cC J (aO J J gG J J) J ?_
 refine cC J (bB J J J J J) J <| cC J (aO J J gG J J) J ?_
 refine cC J (dU J) J <| cC J (cI (((i - 1 : Nat) : Int)) (bV J J om) om) J <| cC J (bS (j := i - 1) J J J J om om J) J <| cC J (oFa J J J J J) J <| cC J (dB J J J) J <| cC J (mO J J) J <| lZ (fun h55 => ?_) (fun h55 => ?_)
 ·refine cC J (bG J J) J <| aJ (bF J J) J <| Dm J J <| cA J J <| cA J J <| cA J J <| cA J J <| aJ (bG J J) J <| Dm J J <| cA J J <| cA J J <| cA J J <| cA J J <| aJ (bG J J) J <| bK (aV kR) J <| Ck [1,2,5,7,26,27,28,37,38,39,40,43,44,45,46,47,48,49,50,51,52,53,54,55,56,59,60,61,62,65,66,67,68,69] J <| aP J <| aB <| Rg 1 J <| Ua J J <| Nk [4] J <| aU <| aK ?_
  refine bE <| aK <| post (n := 0) (.inr J) J ?_ dD
  exact congrArg (fun z => LV.v (.bool z)) (show false = VC m c from (iE (i := i) om (iM (.inl (by rw [hl0 om]; omega)))).symm)
 refine cC J (bG J J) J <| aJ (bF J J) J <| Dm J J <| cC J (bB J J J J J) J <| cC J (aO (l := lvM (c.2.2.getD i default).2) J J gG J J) J ?_
 refine cC J (aN J (iV (c.2.2.getD i default).2 hIb.2.1 hIb.2.2) dD) J <| WD.B (fun h61 => ?_) (fun h61 => ?_)
 rotate_left
 ·refine cC J (cW J) J <| aJ (bF J J) J <| Dm J J <| cA J J <| cA J J <| cA J J <| cA J J <| aJ (bG J J) J <| bK (aV kR) J <| Ck [1,2,5,7,26,27,28,37,38,39,40,43,44,45,46,47,48,49,50,51,52,53,54,55,56,59,60,61,62,65,66,67,68,69] J <| aP J <| aB <| Rg 1 J <| Ua J J <| Nk [4] J <| aU <| aK <| bE <| aK <| post (n := 0) (.inr J) J ?_ dD
  exact congrArg (fun z => LV.v (.bool z)) (show false = VC m c from (iE (i := i) om (iM (.inr (.inr (.inl h61))))).symm)
 refine cC J (cW J) J <| aJ (bF J J) J <| Dm J J <| cC J (bB J J J J J) J <| cC J (bB J J J J J) J <| cC J (aO J J gG J J) J ?_
 refine cC J (mO J J) J <| lZ (fun h68 => ?_) (fun h68 => ?_)
 ·refine aJ (bF J J) J <| bK (aV kR) J <| Ck [1,2,5,7,26,27,28,37,38,39,40,43,44,45,46,47,48,49,50,51,52,53,54,55,56,59,60,61,62,65,66,67,68,69] J <| aP J <| aB <| Rg 1 J <| Ua J J <| Nk [4] J <| aU <| aK <| bE <| aK <| post (n := 0) (.inr J) J ?_ dD
  exact congrArg (fun z => LV.v (.bool z)) (show false = VC m c from (iE (i := i) om (iM (.inr (.inr (.inr om))))).symm)
 refine aJ (bF J J) J <| bK (aV kR) J <| Ck [1,2,5,7,26,27,28,37,38,39,40,43,44,45,46,47,48,49,50,51,52,53,54,55,56,59,60,61,62,65,66,67,68,69] J <| aT J <| aD ?_
 have hvb : VN (c.2.2.getD i default).2 := of_decide_eq_true h61
 have hokI : okB m c.2.2 i = true := okB_yes om om h61 om
 have hsb := hO (bs := c.2.2) i om (fun j hj => (mP (hok j hj)).1)
 refine dQ (z := 6) J kR <| aJ (aO (l := lvQ s) J J gG J J) J ?_
 refine aJ (bB J J J J J) J <| aJ (aO (l := lvM (c.2.2.getD i default).2) J J gG J J) J ?_
 refine aJ (bL (b := lvQ (nq (c.2.2.getD i default).2)) (aN J (nto_run (c.2.2.getD i default).2 hIb.2.1 hIb.2.2 hvb) dD) J) J <| aJ (aN J (lL s (nq (c.2.2.getD i default).2) (by rw [hs]; exact hsb.mono om) (hvb.bd.mono (by decide))) dD) J <| cU (cH (cs' := qc (s + nq (c.2.2.getD i default).2)) J J J gG J J J J) ?_
 refine bK (aV kR) J <| aF <| Ck [1,2,5,26,27,28,37,38,39,40,43,44,45,46,47,48,49,50,51,52,53,54,55,56,59,60,61,62,65,66,67,68] J <| aH (z := 2) J <| aA (cI (((i + 1 : Nat) : Int)) (aR J J om) om) J <| Um J J <| Wn <| aG <| ⟨⟨i + 1, s + nq (c.2.2.getD i default).2⟩, ⟨J, J, J, J, J, J, trivial⟩, ⟨gG, gG, trivial⟩, ⟨om, by rw [psum, ← hs], fun j hj => ?_, om⟩, by show c.2.2.length - (i + 1) < c.2.2.length - i; omega⟩
 by_cases e : j = i
 ·rw [e]; exact hokI
 ·exact hok j om
theorem mvmodel_run (k : Nat) (ss : List ST) (hI : ∀ s, s ∈ ss → IS s) : Run Tryz.prog T E0 (.call 100 [lvMo k ss] (.v (.bool (VMo ss)))) := by
 refine bC Tryz.func100 J J (cX J) <| Rg 2 J <| bD (dY J J) J <| Ua J J <| Wn <| Rg 4 J <| aA (bB J J J J J) J <| aA (aO J J (by repeat (first | exact g0 | refine g1 (by decide) ?_)) J J) J ?_
 refine aA (aX J J) J <| Ua J J <| Wn <| aB <| Rg 6 J <| Um J J <| aA (bP J J) J <| aW (fun h12 => ?_) (fun h12 => ?_)
 ·refine Um J J <| K1 J J <| K1 J J <| aA (bG J J) J <| Wn <| aP J <| aB <| Rg 1 J <| Ua J J <| Wn <| aU <| post (n := 0) (.inr J) J ?_ dD
  exact congrArg (fun z => LV.v (.bool z)) (show false = VMo ss from (VMo_no om).symm)
 refine Um J J <| aE J (dU J) J <| aE J (dG J J) J <| aW (fun h15 => ?_) (fun h15 => ?_)
 ·refine aA (bF J J) J <| Wn <| aP J <| aB <| Rg 1 J <| Ua J J <| Wn <| aU <| post (n := 0) (.inr J) J ?_ dD
  exact congrArg (fun z => LV.v (.bool z)) (show false = VMo ss from (VMo_no om).symm)
 refine aA (bF J J) J <| Wn <| aT J <| aD <| aB <| Rg 4 J <| aA (bB J J J J J) J <| aA (aO J J (by repeat (first | exact g0 | refine g1 (by decide) ?_)) J J) J ?_
 refine aA (aX J J) J <| Um J J <| Nk [3,18,19,20] J <| aL <| bA (α := Nat) (fun i => [(3, .v (.int .i64 (ss.length : Int))), (18, .sl k (ss.map stc)), (19, .v (.int .i64 (ss.length : Int))), (20, .v (.int .i64 (i : Int)))]) (fun i => []) (fun i n => i ≤ ss.length ∧ (ss.take i).all (VS ss.length) = true ∧ 0 < n) (fun i => ss.length - i) (0) ⟨J, J, J, J, trivial⟩ trivial ⟨Nat.zero_le _, by simp, om⟩ ?_
 rintro i n hF
 change WC _ _ _ _ _ (_ :: _) ([]) n _
 obtain ⟨hi, ha, hn0⟩ := hF
 refine Rg 1 J <| aA (bP J J) J <| aW (fun h21 => ?_) (fun h21 => ?_)
 rotate_left
 ·refine Wn <| aT J <| aZ <| aQ <| aS J <| Rg 1 J <| Ua J J <| Wn <| aM <| post (n := 0) (.inr J) J ?_ dD
  exact congrArg (fun z => LV.v (.bool z)) (show true = VMo ss from (VMo_yes om om (gC ha om)).symm)
 refine Wn <| aP J <| aD <| aL ?_
 have hIs := hI _ (bO (us := ss) (i := i) om)
 refine Rg 4 J <| aA (bS J J J J J om J) J <| aA (dB (l := .agg [_, _, _]) J J J) J <| bD (dX J) J <| aY (cH (cs' := [_, _, _]) J J J gG J J J J) ?_
 refine Wn <| aB <| Rg 30 J <| aA (bB J J J J J) J <| aA (aO J J gG J J) J ?_
 refine aA (bP J J) J <| aW (fun h26 => ?_) (fun h26 => ?_)
 ·refine Um J J <| K1 J J <| K1 J J <| K1 J J <| aA (bG J J) J <| Um J J <| K1 J J <| K1 J J <| K1 J J <| aA (bG J J) J <| Um J J <| K1 J J <| K1 J J <| K1 J J <| aA (bG J J) J <| Um J J <| K1 J J <| K1 J J <| K1 J J <| K1 J J <| aA (bG J J) J <| Um J J <| K1 J J <| K1 J J ?_
  refine K1 J J <| K1 J J <| aA (bG J J) J <| Nk [3,5,18,19,20,28,29,30,33,34,35,38,39,40,43,44,45,46,49,50,51,52,53] J <| aP J <| aB <| Rg 1 J <| Ua J J <| Nk [2] J <| aU <| aK <| bE <| aK <| post (n := 0) (.inr J) J ?_ dD
  exact congrArg (fun z => LV.v (.bool z)) (show false = VMo ss from (eT (i := i) om (kD (.inl om))).symm)
 refine Um J J <| aE J (bB J J J J J) J <| aE J (aO J J gG J J) J ?_
 refine aE J (dG J J) J <| aW (fun h30 => ?_) (fun h30 => ?_)
 ·refine aA (bF J J) J <| Um J J <| K1 J J <| K1 J J <| K1 J J <| aA (bG J J) J <| Um J J <| K1 J J <| K1 J J <| K1 J J <| aA (bG J J) J <| Um J J <| K1 J J <| K1 J J <| K1 J J <| K1 J J <| aA (bG J J) J <| Um J J <| K1 J J <| K1 J J <| K1 J J <| K1 J J <| aA (bG J J) J <| cR ?_
  refine Ck [3,5,18,19,20,28,29,30,33,34,35,38,39,40,43,44,45,46,49,50,51,52,53] J <| aP J <| aB <| Rg 1 J <| Ua J J <| Nk [2] J <| aU <| aK <| bE <| aK <| post (n := 0) (.inr J) J ?_ dD
  exact congrArg (fun z => LV.v (.bool z)) (show false = VMo ss from (eT (i := i) om (kD (.inr (.inl om)))).symm)
 refine aA (bF J J) J <| Um J J <| aE J (bB J J J J J) J <| aE J (aO J J gG J J) J ?_
 refine aE J (bP J J) J <| aW (fun h35 => ?_) (fun h35 => ?_)
 ·refine aA (bF J J) J <| Um J J <| K1 J J <| K1 J J <| K1 J J <| aA (bG J J) J <| Um J J <| K1 J J <| K1 J J <| K1 J J <| K1 J J <| aA (bG J J) J <| Um J J <| K1 J J <| K1 J J <| K1 J J <| K1 J J <| aA (bG J J) J <| Nk [3,5,18,19,20,28,29,30,33,34,35,38,39,40,43,44,45,46,49,50,51,52,53] J <| aP J <| aB <| Rg 1 J <| Ua J J ?_
  refine Nk [2] J <| aU <| aK <| bE <| aK <| post (n := 0) (.inr J) J ?_ dD
  exact congrArg (fun z => LV.v (.bool z)) (show false = VMo ss from (eT (i := i) om (kD (.inr (.inr (.inl om))))).symm)
 refine aA (bF J J) J <| Um J J <| aE J (bB J J J J J) J <| aE J (aO J J gG J J) J ?_
 refine aE J (dG J J) J <| aW (fun h40 => ?_) (fun h40 => ?_)
 ·refine aA (bF J J) J <| Um J J <| K1 J J <| K1 J J <| K1 J J <| K1 J J <| aA (bG J J) J <| Um J J <| K1 J J <| K1 J J <| K1 J J <| K1 J J <| aA (bG J J) J <| Nk [3,5,18,19,20,28,29,30,33,34,35,38,39,40,43,44,45,46,49,50,51,52,53] J <| aP J <| aB <| Rg 1 J <| Ua J J <| Nk [2] J <| aU <| aK <| bE ?_
  refine aK <| post (n := 0) (.inr J) J ?_ dD
  exact congrArg (fun z => LV.v (.bool z)) (show false = VMo ss from (eT (i := i) om (kD (.inr (.inr (.inr (.inl om)))))).symm)
 refine aA (bF J J) J <| Um J J <| aE J (bB J J J J J) J <| aE J (aO J J gG J J) J ?_
 refine aE J (aX J J) J <| aE J (bP J J) J <| aW (fun h46 => ?_) (fun h46 => ?_)
 ·refine aA (bF J J) J <| Um J J <| K1 J J <| K1 J J <| K1 J J <| K1 J J <| aA (bG J J) J <| Nk [3,5,18,19,20,28,29,30,33,34,35,38,39,40,43,44,45,46,49,50,51,52,53] J <| aP J <| aB <| Rg 1 J <| Ua J J <| Nk [2] J <| aU <| aK <| bE <| aK <| post (n := 0) (.inr J) J ?_ dD
  exact congrArg (fun z => LV.v (.bool z)) (show false = VMo ss from (eT (i := i) om (kD (.inr (.inr (.inr (.inr (.inl om))))))).symm)
 refine aA (bF J J) J <| Um J J <| aE J (bB J J J J J) J <| aE J (aO J J gG J J) J ?_
 refine aE J (aX J J) J <| aE J (dG J J) J <| aW (fun h52 => ?_) (fun h52 => ?_)
 ·refine aA (bF J J) J <| Nk [3,5,18,19,20,28,29,30,33,34,35,38,39,40,43,44,45,46,49,50,51,52,53] J <| aP J <| aB <| Rg 1 J <| Ua J J <| Nk [2] J <| aU <| aK <| bE <| aK <| post (n := 0) (.inr J) J ?_ dD
  exact congrArg (fun z => LV.v (.bool z)) (show false = VMo ss from (eT (i := i) om (kD (.inr (.inr (.inr (.inr (.inr om))))))).symm)
 refine aA (bF J J) J <| Nk [3,5,18,19,20,28,29,30,33,34,35,38,39,40,43,44,45,46,49,50,51,52,53] J <| aT J <| aD <| Rg 4 J <| aA (bB J J J J J) J <| aA (aO J J gG J J) J ?_
 refine aA (aX J J) J <| Um J J <| Nk [3,18,19,20,28,29,30,33,34,35,38,39,40,43,44,45,46,49,50,51,52,55,56,57] J <| cO <| bA (α := Nat) (fun j => [(3, .v (.int .i64 (ss.length : Int))), (18, .sl k (ss.map stc)), (19, .v (.int .i64 (ss.length : Int))), (20, .v (.int .i64 (i : Int))), (55, .sl (ss.getD i default).2.1 ((ss.getD i default).2.2.map chc)), (56, .v (.int .i64 ((ss.getD i default).2.2.length : Int))), (57, .v (.int .i64 (j : Int)))]) (fun j => []) (fun j n => j ≤ (ss.getD i default).2.2.length ∧ ((ss.getD i default).2.2.take j).all (VC ss.length) = true ∧ 0 < n) (fun j => (ss.getD i default).2.2.length - j) (0) ⟨J, J, J, J, J, J, J, trivial⟩ trivial ⟨Nat.zero_le _, by simp, om⟩ ?_
 rintro j n hF
 change WC _ _ _ _ _ (_ :: _) ([]) n _
 obtain ⟨hj, hb, hn2⟩ := hF
 refine Rg 1 J <| aA (bP J J) J <| aW (fun h58 => ?_) (fun h58 => ?_)
 rotate_left
 ·refine Wn <| aT J <| aZ <| aQ <| fP J <| aF <| aH (z := 2) J <| aA (cI (((i + 1 : Nat) : Int)) (aR J J om) om) J <| Um J J <| Wn <| aG <| ⟨i + 1, ⟨J, J, J, J, trivial⟩, trivial, ⟨om, fK ha om (VS_yes om om om om om om (gC hb om)), om⟩, by show ss.length - (i + 1) < ss.length - i; omega⟩
 refine Wn <| aP J <| aD <| aL ?_
 have hIc := hIs.2.2 _ (bO (us := (ss.getD i default).2.2) (i := j) om)
 refine Rg 4 J <| aA (bS J J J J J om J) J <| aA (dB (l := .agg [_, _, _]) J J J) J <| bD (dX J) J <| aY (cH (cs' := [_, _, _]) J J J gG J J J J) ?_
 refine Wn <| Rg 4 J <| Um J J <| aA (aO (l := lvC ((ss.getD i default).2.2.getD j default)) J J gG J J) J ?_
 refine aA (aN J (mchoice_run ss.length ((ss.getD i default).2.2.getD j default) hIc om) dD) J <| dC (fun h63 => ?_) (fun h63 => ?_)
 ·refine aA (cW J) J <| Nk [3,18,19,20,55,56,57,64] J <| bZ J <| cE <| aF <| aH (z := 2) J <| aA (cI (((j + 1 : Nat) : Int)) (aR J J om) om) J <| Um J J <| Wn <| aG <| ⟨j + 1, ⟨J, J, J, J, J, J, J, trivial⟩, trivial, ⟨om, fK hb om h63, om⟩, by show (ss.getD i default).2.2.length - (j + 1) < (ss.getD i default).2.2.length - j; omega⟩
 refine aA (cW J) J <| Nk [3,18,19,20,55,56,57,64] J <| bU J <| Rg 1 J <| Ua J J <| Wn <| aM <| aK <| bE <| iF <| aK <| bE <| aK <| post (n := 0) (.inr J) J ?_ dD
 exact congrArg (fun z => LV.v (.bool z)) (show false = VMo ss from (eT (i := i) om (VS_no2 (j := j) om h63)).symm)
theorem qvmodel_run (k : Nat) (ss : List ST) (hI : ∀ s, s ∈ ss → IS s) : Run Tryz.prog T E0 (.call 45 [lvMo k ss] (.v (.bool (VMo ss)))) := by
 refine bC Tryz.func45 J J (cX J) <| Rg 2 J <| bD (dY J J) J <| Ua J J <| Wn <| aB <| Rg 10 J <| aA (bB J J J J J) J <| aA (aO J J (by repeat (first | exact g0 | refine g1 (by decide) ?_)) J J) J ?_
 refine aA (aX J J) J <| aA (bP J J) J <| aW (fun h10 => ?_) (fun h10 => ?_)
 ·refine Um J J <| K1 J J <| K1 J J <| K1 J J <| K1 J J <| aA (bG J J) J <| Wn <| aP J <| aB <| Rg 1 J <| Ua J J <| Wn <| aU <| post (n := 0) (.inr J) J ?_ dD
  exact congrArg (fun z => LV.v (.bool z)) (show false = VMo ss from (VMo_no om).symm)
 refine Um J J <| aE J (bB J J J J J) J <| aE J (aO J J (by repeat (first | exact g0 | refine g1 (by decide) ?_)) J J) J ?_
 refine aE J (aX J J) J <| aE J (dG J J) J <| aW (fun h15 => ?_) (fun h15 => ?_)
 ·refine aA (bF J J) J <| Wn <| aP J <| aB <| Rg 1 J <| Ua J J <| Wn <| aU <| post (n := 0) (.inr J) J ?_ dD
  exact congrArg (fun z => LV.v (.bool z)) (show false = VMo ss from (VMo_no om).symm)
 refine aA (bF J J) J <| Wn <| aT J <| aD <| aB <| Rg 4 J <| aA (bB J J J J J) J <| aA (aO J J (by repeat (first | exact g0 | refine g1 (by decide) ?_)) J J) J ?_
 refine aA (aX J J) J <| Um J J <| Nk [1,18,19,20] J <| aL <| bA (α := Nat) (fun i => [(1, .ptr 0 0), (18, .sl k (ss.map stc)), (19, .v (.int .i64 (ss.length : Int))), (20, .v (.int .i64 (i : Int)))]) (fun i => [(0, { cells := [.sl k (ss.map stc)], sz := 1, elem := (24), st := 0 })]) (fun i n => i ≤ ss.length ∧ (ss.take i).all (VS ss.length) = true ∧ 0 < n) (fun i => ss.length - i) (0) ⟨J, J, J, J, trivial⟩ ⟨(by repeat (first | exact g0 | refine g1 (by decide) ?_)), trivial⟩ ⟨Nat.zero_le _, by simp, om⟩ ?_
 rintro i n hF
 change WC _ _ _ _ _ (_ :: _) (_ :: _) n _
 obtain ⟨hi, ha, hn0⟩ := hF
 refine Rg 1 J <| aA (bP J J) J <| aW (fun h21 => ?_) (fun h21 => ?_)
 rotate_left
 ·refine Wn <| aT J <| aZ <| aQ <| aS J <| Rg 1 J <| Ua J J <| Wn <| aM <| post (n := 0) (.inr J) J ?_ dD
  exact congrArg (fun z => LV.v (.bool z)) (show true = VMo ss from (VMo_yes om om (gC ha om)).symm)
 refine Wn <| aP J <| aD <| aL ?_
 have hIs := hI _ (bO (us := ss) (i := i) om)
 refine Rg 4 J <| aA (bS J J J J J om J) J <| aA (dB (l := .agg [_, _, _]) J J J) J <| bD (dX J) J <| aY (cH (cs' := [_, _, _]) J J J gG J J J J) ?_
 refine Wn <| aB <| Rg 30 J <| aA (bB J J J J J) J <| aA (aO J J gG J J) J ?_
 refine aA (bP J J) J <| aW (fun h26 => ?_) (fun h26 => ?_)
 ·refine Um J J <| K1 J J <| K1 J J <| K1 J J <| aA (bG J J) J <| Um J J <| K1 J J <| K1 J J <| K1 J J <| aA (bG J J) J <| Um J J <| K1 J J <| K1 J J <| K1 J J <| aA (bG J J) J <| Um J J <| K1 J J <| K1 J J <| K1 J J <| K1 J J <| aA (bG J J) J <| Um J J <| K1 J J <| K1 J J ?_
  refine K1 J J <| K1 J J <| aA (bG J J) J <| Nk [1,4,18,19,20,28,29,30,33,34,35,38,39,40,43,44,45,46,49,50,51,52,53] J <| aP J <| aB <| Rg 1 J <| Ua J J <| Nk [2] J <| aU <| aK <| bE <| aK <| post (n := 0) (.inr J) J ?_ dD
  exact congrArg (fun z => LV.v (.bool z)) (show false = VMo ss from (eT (i := i) om (kD (.inl om))).symm)
 refine Um J J <| aE J (bB J J J J J) J <| aE J (aO J J gG J J) J ?_
 refine aE J (dG J J) J <| aW (fun h30 => ?_) (fun h30 => ?_)
 ·refine aA (bF J J) J <| Um J J <| K1 J J <| K1 J J <| K1 J J <| aA (bG J J) J <| Um J J <| K1 J J <| K1 J J <| K1 J J <| aA (bG J J) J <| Um J J <| K1 J J <| K1 J J <| K1 J J <| K1 J J <| aA (bG J J) J <| Um J J <| K1 J J <| K1 J J <| K1 J J <| K1 J J <| aA (bG J J) J <| cR ?_
  refine Ck [1,4,18,19,20,28,29,30,33,34,35,38,39,40,43,44,45,46,49,50,51,52,53] J <| aP J <| aB <| Rg 1 J <| Ua J J <| Nk [2] J <| aU <| aK <| bE <| aK <| post (n := 0) (.inr J) J ?_ dD
  exact congrArg (fun z => LV.v (.bool z)) (show false = VMo ss from (eT (i := i) om (kD (.inr (.inl om)))).symm)
 refine aA (bF J J) J <| Um J J <| aE J (bB J J J J J) J <| aE J (aO J J gG J J) J ?_
 refine aE J (bP J J) J <| aW (fun h35 => ?_) (fun h35 => ?_)
 ·refine aA (bF J J) J <| Um J J <| K1 J J <| K1 J J <| K1 J J <| aA (bG J J) J <| Um J J <| K1 J J <| K1 J J <| K1 J J <| K1 J J <| aA (bG J J) J <| Um J J <| K1 J J <| K1 J J <| K1 J J <| K1 J J <| aA (bG J J) J <| Nk [1,4,18,19,20,28,29,30,33,34,35,38,39,40,43,44,45,46,49,50,51,52,53] J <| aP J <| aB <| Rg 1 J <| Ua J J ?_
  refine Nk [2] J <| aU <| aK <| bE <| aK <| post (n := 0) (.inr J) J ?_ dD
  exact congrArg (fun z => LV.v (.bool z)) (show false = VMo ss from (eT (i := i) om (kD (.inr (.inr (.inl om))))).symm)
 refine aA (bF J J) J <| Um J J <| aE J (bB J J J J J) J <| aE J (aO J J gG J J) J ?_
 refine aE J (dG J J) J <| aW (fun h40 => ?_) (fun h40 => ?_)
 ·refine aA (bF J J) J <| Um J J <| K1 J J <| K1 J J <| K1 J J <| K1 J J <| aA (bG J J) J <| Um J J <| K1 J J <| K1 J J <| K1 J J <| K1 J J <| aA (bG J J) J <| Nk [1,4,18,19,20,28,29,30,33,34,35,38,39,40,43,44,45,46,49,50,51,52,53] J <| aP J <| aB <| Rg 1 J <| Ua J J <| Nk [2] J <| aU <| aK <| bE ?_
  refine aK <| post (n := 0) (.inr J) J ?_ dD
  exact congrArg (fun z => LV.v (.bool z)) (show false = VMo ss from (eT (i := i) om (kD (.inr (.inr (.inr (.inl om)))))).symm)
 refine aA (bF J J) J <| Um J J <| aE J (bB J J J J J) J <| aE J (aO J J gG J J) J ?_
 refine aE J (aX J J) J <| aE J (bP J J) J <| aW (fun h46 => ?_) (fun h46 => ?_)
 ·refine aA (bF J J) J <| Um J J <| K1 J J <| K1 J J <| K1 J J <| K1 J J <| aA (bG J J) J <| Nk [1,4,18,19,20,28,29,30,33,34,35,38,39,40,43,44,45,46,49,50,51,52,53] J <| aP J <| aB <| Rg 1 J <| Ua J J <| Nk [2] J <| aU <| aK <| bE <| aK <| post (n := 0) (.inr J) J ?_ dD
  exact congrArg (fun z => LV.v (.bool z)) (show false = VMo ss from (eT (i := i) om (kD (.inr (.inr (.inr (.inr (.inl om))))))).symm)
 refine aA (bF J J) J <| Um J J <| aE J (bB J J J J J) J <| aE J (aO J J gG J J) J ?_
 refine aE J (aX J J) J <| aE J (dG J J) J <| aW (fun h52 => ?_) (fun h52 => ?_)
 ·refine aA (bF J J) J <| Nk [1,4,18,19,20,28,29,30,33,34,35,38,39,40,43,44,45,46,49,50,51,52,53] J <| aP J <| aB <| Rg 1 J <| Ua J J <| Nk [2] J <| aU <| aK <| bE <| aK <| post (n := 0) (.inr J) J ?_ dD
  exact congrArg (fun z => LV.v (.bool z)) (show false = VMo ss from (eT (i := i) om (kD (.inr (.inr (.inr (.inr (.inr om))))))).symm)
 refine aA (bF J J) J <| Nk [1,4,18,19,20,28,29,30,33,34,35,38,39,40,43,44,45,46,49,50,51,52,53] J <| aT J <| aD <| Rg 4 J <| aA (bB J J J J J) J <| aA (aO J J gG J J) J ?_
 refine aA (aX J J) J <| Um J J <| Nk [1,18,19,20,28,29,30,33,34,35,38,39,40,43,44,45,46,49,50,51,52,55,56,57] J <| cO <| bA (α := Nat) (fun j => [(1, .ptr 0 0), (18, .sl k (ss.map stc)), (19, .v (.int .i64 (ss.length : Int))), (20, .v (.int .i64 (i : Int))), (55, .sl (ss.getD i default).2.1 ((ss.getD i default).2.2.map chc)), (56, .v (.int .i64 ((ss.getD i default).2.2.length : Int))), (57, .v (.int .i64 (j : Int)))]) (fun j => [(0, { cells := [.sl k (ss.map stc)], sz := 1, elem := (24), st := 0 })]) (fun j n => j ≤ (ss.getD i default).2.2.length ∧ ((ss.getD i default).2.2.take j).all (VC ss.length) = true ∧ 0 < n) (fun j => (ss.getD i default).2.2.length - j) (0) ⟨J, J, J, J, J, J, J, trivial⟩ ⟨gG, trivial⟩ ⟨Nat.zero_le _, by simp, om⟩ ?_
 rintro j n hF
 change WC _ _ _ _ _ (_ :: _) (_ :: _) n _
 obtain ⟨hj, hb, hn2⟩ := hF
 refine Rg 1 J <| aA (bP J J) J <| aW (fun h58 => ?_) (fun h58 => ?_)
 rotate_left
 ·refine Wn <| aT J <| aZ <| aQ <| fP J <| aF <| aH (z := 2) J <| aA (cI (((i + 1 : Nat) : Int)) (aR J J om) om) J <| Um J J <| Wn <| aG <| ⟨i + 1, ⟨J, J, J, J, trivial⟩, ⟨gG, trivial⟩, ⟨om, fK ha om (VS_yes om om om om om om (gC hb om)), om⟩, by show ss.length - (i + 1) < ss.length - i; omega⟩
 refine Wn <| aP J <| aD <| aL ?_
 have hIc := hIs.2.2 _ (bO (us := (ss.getD i default).2.2) (i := j) om)
 refine Rg 4 J <| aA (bS J J J J J om J) J <| aA (dB (l := .agg [_, _, _]) J J J) J <| bD (dX J) J <| aY (cH (cs' := [_, _, _]) J J J gG J J J J) ?_
 refine Wn <| Rg 6 J <| aA (aO (l := lvC ((ss.getD i default).2.2.getD j default)) J J gG J J) J ?_
 refine aA (bB J J J J J) J <| aA (aO J J gG J J) J ?_
 refine aA (cI ((ss.length : Int)) (aX J J) (by simp)) J <| aA (aN J (qchoice_run ss.length ((ss.getD i default).2.2.getD j default) hIc om) dD) J <| dC (fun h65 => ?_) (fun h65 => ?_)
 ·refine aA (cW J) J <| Nk [1,18,19,20,55,56,57,66] J <| bZ J <| cE <| aF <| aH (z := 2) J <| aA (cI (((j + 1 : Nat) : Int)) (aR J J om) om) J <| Um J J <| Wn <| aG <| ⟨j + 1, ⟨J, J, J, J, J, J, J, trivial⟩, ⟨gG, trivial⟩, ⟨om, fK hb om h65, om⟩, by show (ss.getD i default).2.2.length - (j + 1) < (ss.getD i default).2.2.length - j; omega⟩
 refine aA (cW J) J <| Nk [1,18,19,20,55,56,57,66] J <| bU J <| Rg 1 J <| Ua J J <| Wn <| aM <| aK <| bE <| iF <| aK <| bE <| aK <| post (n := 0) (.inr J) J ?_ dD
 exact congrArg (fun z => LV.v (.bool z)) (show false = VMo ss from (eT (i := i) om (VS_no2 (j := j) om h65)).symm)
end Go.Proofs.YtcblgjaomljikaaGreat
set_option maxHeartbeats 16000000
namespace Go.Proofs.YtcblgjaomljikaaGreat
open Go.Ab Go.RowKit
theorem mset_run (k kl : Nat) (ss : List ST) (l : List Int) (ll : l.length < 1099511627776) : Run Tryz.prog T E0 (.call 101 [lvMo k ss, lvL kl l] (.v (.bool (VSet ss.length l)))) := by
 refine bC Tryz.func101 J J (cX J) <| Rg 2 J <| bD (dY J J) J <| Ua J J <| Wn <| Rg 1 J <| Ua J J <| Wn <| aB <| Rg 3 J <| Um J J <| aA (aX J J) J <| Um J J <| Wn <| aL <| bA (α := Nat) (fun i => [(2, .ptr 0 0), (5, .v (.int .i64 (lastI l i : Int))), (8, lvL kl l), (9, .v (.int .i64 (l.length : Int))), (10, .v (.int .i64 (i : Int)))]) (fun i => [(0, { cells := [.sl k (ss.map stc)], sz := 1, elem := (24), st := 0 })]) (fun i n => i ≤ l.length ∧ (∀ j, j < i → okI ss.length l j = true) ∧ 0 < n) (fun i => l.length - i) (0) ⟨J, J, J, J, J, trivial⟩ ⟨(by repeat (first | exact g0 | refine g1 (by decide) ?_)), trivial⟩ ⟨Nat.zero_le _, fun j hj => absurd hj om, om⟩ ?_
 rintro i n hF
 change WC _ _ _ _ _ (_ :: _) (_ :: _) n _
 obtain ⟨hi, hok, hn⟩ := hF
 refine Rg 1 J <| aA (bP J J) J <| aW (fun h11 => ?_) (fun h11 => ?_)
 rotate_left
 ·refine Wn <| aT J <| aZ <| aQ <| aS J <| Rg 1 J <| Ua J J <| Wn <| aM <| post (n := 0) (.inr J) J ?_ dD
  exact congrArg (fun z => LV.v (.bool z)) (show true = VSet ss.length l from (iY fun j hj => hok j om).symm)
 refine Wn <| aP J <| aD <| aL <| Rg 3 J <| aA (bS J J J J J om J) J <| aA (dB J J J) J <| Ua J J <| Wn <| aB <| Rg 10 J <| Um J J <| Um J J <| aA (mO J J) J <| aW (fun h16 => ?_) (fun h16 => ?_)
 ·refine Um J J <| K1 J J <| K1 J J <| K1 J J <| K1 J J <| K1 J J <| aA (bG J J) J <| Nk [2,7,8,9,10,18,19,20,21,22,23] J <| aP J <| aB <| Rg 1 J <| Ua J J <| Wn <| aU <| aK <| bE <| aK <| post (n := 0) (.inr J) J ?_ dD
  exact congrArg (fun z => LV.v (.bool z)) (show false = VSet ss.length l from (fE (i := i) om (rG (.inl om))).symm)
 refine Um J J <| aE J (dU J) J <| aE J (bB J J J J J) J <| aE J (aO J J gG J J) J ?_
 refine aE J (aX J J) J <| aE J (fJ J J) J <| aW (fun h22 => ?_) (fun h22 => ?_)
 ·refine aA (bF J J) J <| Nk [2,7,8,9,10,18,19,20,21,22,23] J <| aP J <| aB <| Rg 1 J <| Ua J J <| Wn <| aU <| aK <| bE <| aK <| post (n := 0) (.inr J) J ?_ dD
  exact congrArg (fun z => LV.v (.bool z)) (show false = VSet ss.length l from (fE (i := i) om (rG (.inr om))).symm)
 refine aA (bF J J) J <| Nk [2,7,8,9,10,18,19,20,21,22,23] J <| aT J <| aD <| aH (z := 2) J <| Um J J <| Ua J J <| Wn <| aF <| aH (z := 2) J <| aA (cI (((i + 1 : Nat) : Int)) (aR J J om) om) J <| Um J J <| Wn <| aG <| ⟨i + 1, ⟨J, J, J, J, J, trivial⟩, ⟨gG, trivial⟩, ⟨om, fun j hj => ?_, om⟩, by show l.length - (i + 1) < l.length - i; omega⟩
 by_cases e : j = i
 ·rw [e]; exact okI_yes om om
 ·exact hok j om
theorem qset_run (k kl : Nat) (ss : List ST) (l : List Int) (ll : l.length < 1099511627776) : Run Tryz.prog T E0 (.call 46 [lvMo k ss, lvL kl l] (.v (.bool (VSet ss.length l)))) := by
 refine bC Tryz.func46 J J (cX J) <| Rg 2 J <| bD (dY J J) J <| Ua J J <| Wn <| aB <| Rg 3 J <| Um J J <| aA (aX J J) J <| Um J J <| Wn <| aL <| bA (α := Nat) (fun i => [(1, lvL kl l), (2, .ptr 0 0), (7, lvL kl l), (8, .v (.int .i64 (l.length : Int))), (9, .v (.int .i64 (i : Int)))]) (fun i => [(0, { cells := [.sl k (ss.map stc)], sz := 1, elem := (24), st := 0 })]) (fun i n => i ≤ l.length ∧ (∀ j, j < i → okI ss.length l j = true) ∧ 0 < n) (fun i => l.length - i) (0) ⟨J, J, J, J, J, trivial⟩ ⟨(by repeat (first | exact g0 | refine g1 (by decide) ?_)), trivial⟩ ⟨Nat.zero_le _, fun j hj => absurd hj om, om⟩ ?_
 rintro i n hF
 change WC _ _ _ _ _ (_ :: _) (_ :: _) n _
 obtain ⟨hi, hok, hn⟩ := hF
 refine Rg 1 J <| aA (bP J J) J <| aW (fun h10 => ?_) (fun h10 => ?_)
 rotate_left
 ·refine Wn <| aT J <| aZ <| aQ <| aS J <| Rg 1 J <| Ua J J <| Wn <| aM <| post (n := 0) (.inr J) J ?_ dD
  exact congrArg (fun z => LV.v (.bool z)) (show true = VSet ss.length l from (iY fun j hj => hok j om).symm)
 refine Wn <| aP J <| aD <| aL <| Rg 5 J <| Um J J <| aA (bS J J J J J om J) J <| aA (dB J J J) J <| Ua J J <| Ua J J <| cR ?_
 have hlo := okI_lo i hok
 have hl0 : 0 < i → lastI l i = l.getD (i - 1) default := lastI_pos
 refine Rg 22 J <| Um J J <| aA (bP J J) J <| aW (fun h15 => ?_) (fun h15 => ?_)
 ·refine Um J J <| K1 J J <| K1 J J <| K1 J J <| K1 J J <| K1 J J <| aA (bG J J) J <| Um J J <| K1 J J <| K1 J J <| K1 J J <| K1 J J <| K1 J J <| K1 J J <| K1 J J <| K1 J J <| K1 J J <| K1 J J <| K1 J J <| aA (bG J J) J <| Nk [1,2,7,8,9,17,18,19,20,21,24,25,26,27,28,29,30,31,32,33,34,35] J <| bU J <| Rg 1 J ?_
  refine Ua J J <| Nk [4] J <| aM <| aK <| bE <| aK <| post (n := 0) (.inr J) J ?_ dD
  exact congrArg (fun z => LV.v (.bool z)) (show false = VSet ss.length l from (fE (i := i) om (rG (.inl om))).symm)
 refine Um J J <| aE J (dU J) J <| aE J (bB J J J J J) J <| aE J (aO J J gG J J) J ?_
 refine aE J (aX J J) J <| aE J (fJ J J) J <| aW (fun h21 => ?_) (fun h21 => ?_)
 ·refine aA (bF J J) J <| Um J J <| K1 J J <| K1 J J <| K1 J J <| K1 J J <| K1 J J <| K1 J J <| K1 J J <| K1 J J <| K1 J J <| K1 J J <| K1 J J <| aA (bG J J) J <| Nk [1,2,7,8,9,17,18,19,20,21,24,25,26,27,28,29,30,31,32,33,34,35] J <| bU J <| Rg 1 J <| Ua J J <| Nk [4] J <| aM <| aK <| bE ?_
  refine aK <| post (n := 0) (.inr J) J ?_ dD
  exact congrArg (fun z => LV.v (.bool z)) (show false = VSet ss.length l from (fE (i := i) om (rG (.inr om))).symm)
 refine aA (bF J J) J <| Um J J <| aE J (dU J) J <| aE J (dG J J) J <| aW (fun h25 => ?_) (fun h25 => ?_)
 rotate_left
 ·refine aE J (dU J) J <| K1 J J <| K1 J J <| K1 J J <| K1 J J <| K1 J J <| K1 J J <| K1 J J <| aE J (bF J J) J <| aA (bF J J) J <| Nk [1,2,7,8,9,17,18,19,20,21,24,25,26,27,28,29,30,31,32,33,34,35] J <| bZ J <| cE <| aF <| Ck [1,2,7,8,9,17,18,19,20,21,24,25,26,27,28,29,30,31,32,33,34] J <| aH (z := 2) J <| aA (cI (((i + 1 : Nat) : Int)) (aR J J om) om) J <| Um J J <| Wn <| aG ?_
  have hl2 : lastI l i < (l.getD i default) := by
   rcases Nat.eq_zero_or_pos i with e | e
   ·subst e; show (-1 : Int) < _; omega
   ·rw [hl0 e]; omega
  refine ⟨i + 1, ⟨J, J, J, J, J, trivial⟩, ⟨gG, trivial⟩, ⟨om, fun j hj => ?_, om⟩, by show l.length - (i + 1) < l.length - i; omega⟩
  by_cases e : j = i
  ·rw [e]; exact okI_yes hl2 om
  ·exact hok j om
 refine aE J (dU J) J <| aE J (dU J) J <| aE J (dU J) J <| aE J (dU J) J <| aE J (cI (((i - 1 : Nat) : Int)) (bV J J om) om) J <| aE J (bS (j := i - 1) J J J J om om J) J <| aE J (dB J J J) J <| aE J (mO J J) J <| aW (fun h33 => ?_) (fun h33 => ?_)
 ·refine aE J (bG J J) J <| aA (bF J J) J <| Nk [1,2,7,8,9,17,18,19,20,21,24,25,26,27,28,29,30,31,32,33,34,35] J <| bU J <| Rg 1 J <| Ua J J <| Nk [4] J <| aM <| aK <| bE <| aK <| post (n := 0) (.inr J) J ?_ dD
  exact congrArg (fun z => LV.v (.bool z)) (show false = VSet ss.length l from (fE (i := i) om (rG (.inl (by rw [hl0 om]; omega)))).symm)
 refine aE J (bG J J) J <| aA (bF J J) J <| Nk [1,2,7,8,9,17,18,19,20,21,24,25,26,27,28,29,30,31,32,33,34,35] J <| bZ J <| cE <| aF <| Ck [1,2,7,8,9,17,18,19,20,21,24,25,26,27,28,29,30,31,32,33,34] J <| aH (z := 2) J <| aA (cI (((i + 1 : Nat) : Int)) (aR J J om) om) J <| Um J J <| Wn <| aG ?_
 have hl2 : lastI l i < (l.getD i default) := by
  rcases Nat.eq_zero_or_pos i with e | e
  ·subst e; show (-1 : Int) < _; omega
  ·rw [hl0 e]; omega
 refine ⟨i + 1, ⟨J, J, J, J, J, trivial⟩, ⟨gG, trivial⟩, ⟨om, fun j hj => ?_, om⟩, by show l.length - (i + 1) < l.length - i; omega⟩
 by_cases e : j = i
 ·rw [e]; exact okI_yes hl2 om
 ·exact hok j om
end Go.Proofs.YtcblgjaomljikaaGreat
namespace Go.Proofs.YtcblgjaomljikaaGreat
open Go.Ab Go.RowKit
theorem succ_round (n : Nat) (H : Hp) (u ac nxt : X) (t t0 : Int) (hn : 14 < n) (hu : getH H 1 = some { cells := xc (u), sz := 4, elem := (103), st := 0 }) (ht : getH H 4 = some { cells := [.v (.int .i64 (t0))], sz := 1, elem := (3), st := 0 }) (hub : Bd 34359738368 u.1) (hnb : Bd 34359738368 nxt.1) : WC Tryz.prog T E0 Tryz.f110.ntmps (rfA (codeOf Tryz.f110)) [(15, .agg (xc ac ++ xc nxt)), (14, .v (.int .i64 (t : Int))), (3, .ptr 0 0), (5, .ptr 1 0), (7, .ptr 4 0)] H n (fun x e1 h1 n1 => x = .normal ∧ WC Tryz.prog T E0 Tryz.f110.ntmps (rfB (codeOf Tryz.f110)) e1 h1 n1 (fun x _ h2 n2 => SucR u.1 nxt.1 x ∧ n ≤ n2 ∧ getH h2 4 = some { cells := [.v (.int .i64 (t))], sz := 1, elem := (3), st := 0 } ∧ ∀ r o, r ≠ 4 → r < n → getH H r = some o → getH h2 r = some o)) := by
 refine Rg 1 J <| Ua J J <| Wn <| aH (z := 2) J <| bD (dX J) J <| aY (cH (cs' := xc ac ++ xc nxt) J J J g0 J J J J) <| Wn <| ⟨rfl, ?_⟩
 refine cO <| Rg 2 J <| Um J J <| aY (cH (cs' := [.v (.int .i64 (t : Int))]) J J J (by repeat (first | exact g0 | exact hu | exact ht | refine g1 om ?_)) J J J J) ?_
 refine Wn <| Rg 5 J <| aA (aO (l := lvX u) J J (by repeat (first | exact g0 | exact hu | exact ht | refine g1 om ?_)) J J) J ?_
 refine aA (bB J J J J J) J <| aA (aO (l := lvX nxt) J J (by repeat (first | exact g0 | exact hu | exact ht | refine g1 om ?_)) J J) J ?_
 refine aA (aN J (rcmp_run u nxt hub hnb) (bM (by intro c hc; simp only [List.mem_cons, List.not_mem_nil, or_false] at hc; rcases hc with rfl | rfl; exact pN; exact pN))) J <| aA (bP J J) J <| aW (fun h21 => ?_) (fun h21 => ?_)
 ·refine Wn <| bU J <| lH <| gV J ?_
  have hlt : u.1 < nxt.1 := by have := nN.1 h21; rw [Rat.sub_eq_add_neg] at this; grind
  exact ⟨.inl ⟨hlt, rfl⟩, om, (by repeat (first | exact g0 | exact hu | exact ht | refine g1 om ?_)), (fun r o hr hn h => by repeat (first | exact h | refine g1 om ?_))⟩
 refine Wn <| bZ J <| cE <| cD ?_
 have hlt : ¬ u.1 < nxt.1 := fun h => h21 (nN.2 (by rw [Rat.sub_eq_add_neg]; grind))
 exact ⟨.inr ⟨hlt, rfl⟩, om, (by repeat (first | exact g0 | exact hu | exact ht | refine g1 om ?_)), (fun r o hr hn h => by repeat (first | exact h | refine g1 om ?_))⟩
theorem shares_it (k s : Nat) (ss : List Go.Ab.ST) (u : X) (C : RC) (hps : C.ps = #[14, 15]) (hasg : C.asg = rfA (codeOf Tryz.f110)) (hbody : C.body = rfB (codeOf Tryz.f110)) (hfit : Fits Tryz.f110.ntmps [(3, .ptr 0 0), (5, .ptr 1 0), (7, .ptr 4 0)] C.s0) (hs : s < ss.length) (hc : 1 ≤ (ss.getD s default).2.2.length) (hb8 : (brs ss s).length ≤ 1000) (hbn : ∀ b, b ∈ (brs ss s) → VN b.2) (hub : Bd 34359738368 u.1) : WIt Tryz.prog T E0 C Tryz.f108.ntmps (codeOf Tryz.f108) (argsEnv 0 [.fn (.yield (C.d + 1)) [] [], .ptr 9 0, .ptr 10 0]) [(10, { cells := [.v (.int .i64 (s))], sz := 1, elem := (3), st := 0 }), (9, { cells := [.sl k (ss.map stc)], sz := 1, elem := (24), st := 0 }), (4, { cells := [.v (.int .i64 (s))], sz := 1, elem := (3), st := 0 }), (1, { cells := xc (u), sz := 4, elem := (103), st := 0 }), (0, { cells := [.sl k (ss.map stc)], sz := 1, elem := (24), st := 0 })] 14 none (fun p' x e' h' n' => (x = .normal ∨ x = .ret) ∧ (∃ ls, resE e' T h' Tryz.f108.results.toList = some ls) ∧ (p' = none ∨ p' = some (.exit 0)) ∧ getH h' 4 = some { cells := [.v (.int .i64 (sucF (brs ss s) u.1 s))], sz := 1, elem := (3), st := 0 }) := by
 change WIt _ _ _ _ _ _ [(0, .fn (.yield (C.d + 1)) [] []), (1, .ptr 9 0), (2, .ptr 10 0)] _ _ _ _
 refine WIt.reg (z := 1) J <| bD (dX J) J <| Wn <| WIt.reg (z := 11) J <| aA (bB J J J J J) J <| aA (aO J J gG J J) J ?_
 refine aA (aO J J gG J J) J ?_
 refine aA (bS (j := s) J J J J om om J) J <| aA (oFa J J J J J) J <| aA (dB J J J) J <| aA (bS (j := 0) J J J J om om J) J <| aA (oFa J J J J J) J <| aA (bL (b := .sl ((ss.getD s default).2.2.getD 0 default).2.1 ((brs ss s).map brc)) (dB J J J) J) J <| aA (aX J J) J <| Um J J <| Wn <| WIt.weak [(0, _), (4, _), (16, _), (17, _), (18, _)] ⟨J, J, J, J, J, trivial⟩ <| WIt.block1 <| WIt.loopV (α := Nat × X × Int) (fun ⟨i, ac, t⟩ => [(0, .fn (.yield (C.d + 1)) [] []), (4, .ptr 14 0), (16, .sl ((ss.getD s default).2.2.getD 0 default).2.1 ((brs ss s).map brc)), (17, .v (.int .i64 ((brs ss s).length : Int))), (18, .v (.int .i64 (i : Int)))]) (fun ⟨i, ac, t⟩ => [(14, { cells := xc (ac), sz := 4, elem := (103), st := 0 }), (4, { cells := [.v (.int .i64 (t))], sz := 1, elem := (3), st := 0 }), (1, { cells := xc (u), sz := 4, elem := (103), st := 0 })]) (fun ⟨i, ac, t⟩ n => i ≤ (brs ss s).length ∧ ac.1 = psum (brs ss s) i ∧ sucG (brs ss s) u.1 ((brs ss s).length - i) i t = sucF (brs ss s) u.1 s ∧ 14 < n) (fun ⟨i, ac, t⟩ => (brs ss s).length - i) (0, x0, (s : Int)) ⟨J, J, J, J, J, trivial⟩ ⟨gG, gG, gG, trivial⟩ ⟨Nat.zero_le _, rfl, rfl, om⟩ ?_
 rintro ⟨i, ac, t⟩ n hF
 change WIt _ _ _ _ _ _ [(0, .fn (.yield (C.d + 1)) [] []), (4, .ptr 14 0), (16, .sl ((ss.getD s default).2.2.getD 0 default).2.1 ((brs ss s).map brc)), (17, .v (.int .i64 ((brs ss s).length : Int))), (18, .v (.int .i64 (i : Int)))] ([(14, { cells := xc (ac), sz := 4, elem := (103), st := 0 }), (4, { cells := [.v (.int .i64 (t))], sz := 1, elem := (3), st := 0 }), (1, { cells := xc (u), sz := 4, elem := (103), st := 0 })]) n _ _
 obtain ⟨hi, hac, hsu, hn⟩ := hF
 refine WIt.reg (z := 1) J <| aA (bP J J) J <| aW (fun h19 => ?_) (fun h19 => ?_)
 rotate_left
 ·refine Wn <| WIt.cF J <| WIt.exits <| rA <| mV J ?_
  exact ⟨.inl J, ⟨_, rfl⟩, .inl J, by rw [← hsu, sucG_end om]; exact gG⟩
 refine Wn <| WIt.cT J <| WIt.skips <| WIt.block ?_
 have hm := bO (us := (brs ss s)) (i := i) om
 have hvb := hbn _ hm
 have hpb := hO (bs := (brs ss s)) i om (fun j hj => decide_eq_true (hbn _ (bO (us := (brs ss s)) (i := j) om)))
 rw [← hac] at hpb
 have hnv : (xadd ac (nx ((brs ss s).getD i default).2)).1 = psum (brs ss s) (i + 1) := by show ac.1 + nq ((brs ss s).getD i default).2 = _; rw [hac]; rfl
 have hnb : Bd 34359738368 (xadd ac (nx ((brs ss s).getD i default).2)).1 := (hpb.add hvb.bd).mono om
 refine WIt.reg (z := 4) J <| aA (bS J J J J J om J) J <| aA (dB (l := .agg (brc ((brs ss s).getD i default))) J J J) J <| bD (dX J) J <| aY (cH (cs' := brc ((brs ss s).getD i default)) J J J g0 J J J J) <| Wn <| WIt.draw (z := 7) J kR <| aJ (aO (l := lvX ac) J J gG J J) J ?_
 refine aJ (bB J J J J J) J <| aJ (aO (l := lvM ((brs ss s).getD i default).2) J J gG J J) J ?_
 refine aJ (bL (b := lvX (nx ((brs ss s).getD i default).2)) (aN J (nI ((brs ss s).getD i default).2 hvb.i64.1 hvb.i64.2 hvb.all3.2.2) (bM (by intro c hc; simp only [List.mem_cons, List.not_mem_nil, or_false] at hc; rcases hc with rfl; exact pN))) J) J <| aJ (bL (b := lvX (xadd ac (nx ((brs ss s).getD i default).2))) (aN J (nS ac (nx ((brs ss s).getD i default).2) (hpb.mono om) (hvb.bd.mono om)) (bM (by intro c hc; simp only [List.mem_cons, List.not_mem_nil, or_false] at hc; rcases hc with rfl | rfl; exact pN; exact pN))) J) J <| WD.S (dX J) J <| cU (cH (cs' := xc (xadd ac (nx ((brs ss s).getD i default).2))) J J J g0 J J J J) <| bK (dZ (rn n) (by simp only [List.reverse_cons, List.reverse_nil, List.nil_append, List.cons_append, List.map_cons, List.map_nil, ren, keys, Nat.add_assoc, kY, show rn n 14 = 0 from mG om]; kernel_rfl)) J <| WIt.weak [(0, _), (4, _), (6, _), (7, _), (16, _), (17, _), (18, _)] ⟨J, J, J, J, J, J, J, trivial⟩ <| WIt.assoc <| WIt.regy (z := 8) J <| WYd.U (dU J) J <| WYd.U (bB J J J J J) J <| WYd.U (aO J J gG J J) J ?_
 refine WYd.U (aO (l := lvX ac) J J gG J J) J ?_
 refine WYd.U (aO (l := lvX (xadd ac (nx ((brs ss s).getD i default).2))) J J gG J J) J ?_
 refine WYd.U (fH (cs := xc ac ++ xc (xadd ac (nx ((brs ss s).getD i default).2))) J J J J J) J <| WYd.weakH (((n + 1 + 4 + 5), { cells := xc ((xadd ac (nx ((brs ss s).getD i default).2))), sz := 4, elem := (103), st := 0 }) :: ((n + 1 + 2), { cells := brc ((brs ss s).getD i default), sz := 3, elem := (90), st := 0 }) :: [(14, { cells := xc (ac), sz := 4, elem := (103), st := 0 }), (4, { cells := [.v (.int .i64 (t))], sz := 1, elem := (3), st := 0 }), (1, { cells := xc (u), sz := 4, elem := (103), st := 0 })]) (subsM.get ⟨gG, gG, gG, gG, gG, trivial⟩) ?_
 refine WYd.Y (x1 := .v (.int .i64 ((brs ss s).getD i default).1)) (x2 := .agg (xc ac ++ xc (xadd ac (nx ((brs ss s).getD i default).2)))) (p1 := 14) (p2 := 15) (asg := rfA (codeOf Tryz.f110)) (body := rfB (codeOf Tryz.f110)) (e0 := [(3, .ptr 0 0), (5, .ptr 1 0), (7, .ptr 4 0)]) (N0 := Tryz.f110.ntmps) J J J hps hasg hbody J hfit J J (succ_round ((n + 1 + 4 + 7) + 8) (((n + 1 + 4 + 5), { cells := xc ((xadd ac (nx ((brs ss s).getD i default).2))), sz := 4, elem := (103), st := 0 }) :: ((n + 1 + 2), { cells := brc ((brs ss s).getD i default), sz := 3, elem := (90), st := 0 }) :: [(14, { cells := xc (ac), sz := 4, elem := (103), st := 0 }), (4, { cells := [.v (.int .i64 (t))], sz := 1, elem := (3), st := 0 }), (1, { cells := xc (u), sz := 4, elem := (103), st := 0 })]) u ac (xadd ac (nx ((brs ss s).getD i default).2)) ((brs ss s).getD i default).1 t om gG gG hub hnb) ?_
 rintro x h' n' ⟨hsr, hn', h4, hkk⟩
 refine WN.O <| dC (fun h33 => ?_) (fun h33 => ?_)
 rotate_left
 ·obtain ⟨hlt, rfl⟩ := sucR_stop hsr h33
  refine aA (cW J) J <| Wn <| WIt.weak [(0, _), (4, _), (7, _), (16, _), (17, _), (18, _), (34, _)] ⟨J, J, J, J, J, J, J, trivial⟩ <| WIt.cT J <| WIt.rets <| afterY_ret <| loopY_ret <| afterY0_ret ?_
  exact ⟨.inr J, ⟨_, rfl⟩, .inr J, by rw [← hsu, sucG_stop om (by rw [← hnv]; exact hlt)]; exact h4⟩
 obtain ⟨hlt, rfl⟩ := sucR_go hsr h33
 refine aA (cW J) J <| Wn <| WIt.weak [(0, _), (4, _), (7, _), (16, _), (17, _), (18, _), (34, _)] ⟨J, J, J, J, J, J, J, trivial⟩ <| WIt.cF J <| WIt.skips <| WIt.reg1z (z := 2) J <| aA (aO (l := lvX (xadd ac (nx ((brs ss s).getD i default).2))) J J (hkk _ _ om om gG) J J) J ?_
 refine aY (cH (cs' := xc (xadd ac (nx ((brs ss s).getD i default).2))) J J J (hkk _ _ om om gG) J J J J) ?_
 refine Wn <| mD <| WIt.reg1z (z := 2) J <| aA (cI (((i + 1 : Nat) : Int)) (aR J J om) om) J <| Um J J <| Wn <| nD <| ⟨⟨i + 1, (xadd ac (nx ((brs ss s).getD i default).2)), ((brs ss s).getD i default).1⟩, ⟨J, J, J, J, J, trivial⟩, ⟨g0, g1 om h4, g1 om (hkk _ _ om om gG), trivial⟩, ⟨om, by show ac.1 + nq ((brs ss s).getD i default).2 = _; rw [hac]; rfl, (sucG_go (i := i) (t := t) om (by rw [← hnv]; exact hlt)).symm.trans hsu, om⟩, by show (brs ss s).length - (i + 1) < (brs ss s).length - i; omega⟩
end Go.Proofs.YtcblgjaomljikaaGreat
namespace Go.Proofs.YtcblgjaomljikaaGreat
open Go.Ab Go.RowKit
theorem eqOkS : ∀ t, E0 t = true → EqOk Tryz.prog t := by
 intro t ht
 have h : t = 58 := by simpa [E0] using ht
 subst h
 exact eqOk_pair kR Tryz.underlying58 kR (by decide) (by decide) Tryz.underlying3 Tryz.underlying3 kR kR J J kR
theorem shares_mk (k s : Nat) (ss : List Go.Ab.ST) (H : Hp) (n : Nat) : WC Tryz.prog T E0 Tryz.f55.ntmps (codeOf Tryz.f55) (argsEnv 0 [lvMo k ss, .v (.int .i64 (s : Int))]) H n (fun x e' h' n' => (x = .normal ∨ x = .ret) ∧ ∃ ls', resE e' T h' Tryz.f55.results.toList = some ls' ∧ resultLV ls' = .fn (.func 108) [] [.ptr n 0, .ptr (n + 1) 0] ∧ h' = (n + 1, { cells := [.v (.int .i64 (s))], sz := 1, elem := (3), st := 0 }) :: (n, { cells := [.sl k (ss.map stc)], sz := 1, elem := (24), st := 0 }) :: H ∧ n' = n + 5) := by
 change WC _ _ _ _ _ [(0, _), (1, _)] _ _ _
 refine Rg 3 J <| bD (dY J J) J <| bD (dY J J) J <| Ua J J <| Wn <| Rg 2 J <| aA (oMf J) J <| Ua J J <| Wn <| aM ?_
 exact ⟨.inr J, _, rfl, rfl, rfl, rfl⟩
theorem suc_run (k s : Nat) (ss : List Go.Ab.ST) (u : X) (hs : s < ss.length) (hc : 1 ≤ (ss.getD s default).2.2.length) (hb8 : (brs ss s).length ≤ 1000) (hbn : ∀ b, b ∈ (brs ss s) → VN b.2) (hub : Bd 34359738368 u.1) : Run Tryz.prog T E0 (.call 110 [lvMo k ss, .v (.int .i64 (s : Int)), lvX u] (.v (.int .i64 (sucF (brs ss s) u.1 s : Int)))) := by
 refine WLp.call typesOk eqOkS Tryz.checked.mixed Tryz.func110 J J (cX J) ?_ (by simp)
 change WLp _ _ _ _ _ [(0, lvMo k ss), (1, .v (.int .i64 (s : Int))), (2, lvX u)] _ _ _
 refine WLp.reg (z := 3) J <| bD (dY J J) J <| bD (dY J J) J <| Ua J J <| Wn <| WLp.reg (z := 3) J <| Um J J <| bD (dX J) J <| aY (cH (cs' := [_]) J J J J J J J J) <| Wn <| WLp.assoc <| WLp.weakM [(4, { cells := [.v (.int .i64 (s))], sz := 1, elem := (3), st := 0 }), (1, { cells := xc (u), sz := 4, elem := (103), st := 0 }), (0, { cells := [.sl k (ss.map stc)], sz := 1, elem := (24), st := 0 })] ⟨J, J, J, trivial⟩ <| WLp.regn (z := 3) J <| qH (aO (l := .agg [_]) J J J J J) J <| qH (dU J) J <| WN.G (Φ := fun r h' n' => r = .fn (.func 108) [] [.ptr 9 0, .ptr 10 0] ∧ h' = [(10, { cells := [.v (.int .i64 (s))], sz := 1, elem := (3), st := 0 }), (9, { cells := [.sl k (ss.map stc)], sz := 1, elem := (24), st := 0 }), (4, { cells := [.v (.int .i64 (s))], sz := 1, elem := (3), st := 0 }), (1, { cells := xc (u), sz := 4, elem := (103), st := 0 }), (0, { cells := [.sl k (ss.map stc)], sz := 1, elem := (24), st := 0 })] ∧ n' = 14) J J J J (cX J) J (shares_mk k s ss _ 9) ?_
 rintro r h' n' ⟨rfl, rfl, rfl⟩
 refine WN.nil <| WLp.block <| WLp.range (gf := 108) J Tryz.func108 J J (cX J) ?_
 intro C hps hasg hbody hfit
 refine WIt.mono (shares_it k s ss u C hps hasg hbody (hfit.weak ⟨J, J, J, trivial⟩) hs hc hb8 hbn hub) ?_
 rintro p' x e' h' n' ⟨hx, hls, hp, h4⟩
 refine ⟨hx, hls, ?_⟩
 have JJ : WLp Tryz.prog T E0 Tryz.f110.ntmps (codeR (codeR (codeR (codeOf Tryz.f110)))) [(7, .ptr 4 0)] h' n' (fun x e' h' n' => (x = .normal ∨ x = .ret) ∧ ∃ ls, resE e' T h' Tryz.f110.results.toList = some ls ∧ resultLV ls = .v (.int .i64 (sucF (brs ss s) u.1 s : Int))) := by
  refine WLp.reg (z := 2) J <| aA (aO (l := .v (.int .i64 (sucF (brs ss s) u.1 s : Int))) J J h4 J J) J <| Ua J J <| Wn <| WLp.ret ?_
  exact ⟨.inr J, _, rfl, rfl⟩
 rcases hp with rfl | rfl
 ·exact WLp.weak [(7, _)] ⟨J, trivial⟩ JJ
 ·exact WLp.weak [(7, _)] ⟨J, trivial⟩ JJ
end Go.Proofs.YtcblgjaomljikaaGreat
namespace Go.Proofs.YtcblgjaomljikaaGreat
open Go.Ab Go.RowKit
theorem leq_run (k k' : Nat) (l l' : List Int) (ll : l.length < 1099511627776) : Run Tryz.prog T E0 (.call 23 [lvL k l, lvL k' l'] (.v (.bool (decide (l = l'))))) := by
 refine bC Tryz.func23 J J (cX J) <| Rg 1 J <| Ua J J <| Wn <| aB <| Rg 5 J <| Um J J <| aA (aX J J) J <| Um J J <| aA (aX J J) J <| aA (fS J J) J <| aW (fun h10 => ?_) (fun h10 => ?_)
 ·refine Wn <| aP J <| aB <| Rg 1 J <| Ua J J <| Wn <| aU <| post (n := 0) (.inr J) J ?_ dD
  exact congrArg (fun z => LV.v (.bool z)) (show false = decide (l = l') from (decide_eq_false fun h => h10 (by rw [h])).symm)
 refine Wn <| aT J <| aD <| aB <| Rg 3 J <| Um J J <| aA (aX J J) J <| Um J J <| Wn <| aL <| bA (α := Nat) (fun i => [(0, lvL k l), (1, lvL k' l'), (12, .v (.int .i64 (l.length : Int))), (13, .v (.int .i64 (i : Int)))]) (fun i => []) (fun i n => i ≤ l.length ∧ l.take i = l'.take i) (fun i => l.length - i) (0) ⟨J, J, J, J, trivial⟩ trivial ⟨Nat.zero_le _, by simp⟩ ?_
 rintro i n hF
 change WC _ _ _ _ _ (_ :: _) ([]) n _
 obtain ⟨hi, ha⟩ := hF
 refine Rg 1 J <| aA (bP J J) J <| aW (fun h14 => ?_) (fun h14 => ?_)
 rotate_left
 ·refine Wn <| aT J <| aZ <| aQ <| aS J <| Rg 1 J <| Ua J J <| Wn <| aM <| post (n := 0) (.inr J) J ?_ dD
  exact congrArg (fun z => LV.v (.bool z)) (show true = decide (l = l') from (decide_eq_true (by rw [List.take_of_length_le om, List.take_of_length_le om] at ha; exact ha)).symm)
 refine Wn <| aP J <| aD <| aL <| Rg 2 J <| Um J J <| Ua J J <| Wn <| bQ (z := 9) J kR <| Dm J J <| Dm J J <| aJ (bS (j := i) J J J J om om J) J <| aJ (dB J J J) J <| Dm J J <| Dm J J <| aJ (bS (j := i) J J J J om om J) J <| aJ (dB J J J) J <| aJ (fS J J) J <| lZ (fun h24 => ?_) (fun h24 => ?_)
 rotate_left
 ·refine bK (aV kR) J <| Ck [0,1,12,13,24] J <| bZ J <| cE <| aF <| aH (z := 2) J <| aA (cI (((i + 1 : Nat) : Int)) (aR J J om) om) J <| Um J J <| Wn <| aG <| ⟨i + 1, ⟨J, J, J, J, trivial⟩, trivial, ⟨om, eqL_take ha om om om⟩, by show l.length - (i + 1) < l.length - i; omega⟩
 refine bK (aV kR) J <| Ck [0,1,12,13,24] J <| bU J <| Rg 1 J <| Ua J J <| Wn <| aM <| aK <| bE <| aK <| post (n := 0) (.inr J) J ?_ dD
 exact congrArg (fun z => LV.v (.bool z)) (show false = decide (l = l') from (decide_eq_false (eqL_no (i := i) om om om)).symm)
end Go.Proofs.YtcblgjaomljikaaGreat
namespace Go.Proofs.YtcblgjaomljikaaGreat
open Go.Ab Go.RowKit
theorem qloop_run (i : Nat) : Run Tryz.prog T E0 (.call 98 [.v (.int .i64 (i : Int))] (lvC (lpc i))) := by
 refine bC Tryz.func98 J J (cX J) <| Rg 1 J <| bD (dX J) J <| Wn <| Rg 7 J <| aA (fH (cs := [_, _]) J J J J J) J <| Um J J <| aA (fH (cs := [_, _]) J J J J J) J <| aA (fH (cs := [_, _, _]) J J J J J) J <| aA (cS (cs := [_, _, _]) (rows := [[_, _, _]]) J J (by decide) J J J) J <| aA (fH (cs := [_, _, _]) J J J J J) J <| aY (cH (cs' := [_, _, _]) J J J J J J J J) <| Wn <| aM <| post (n := 0) (.inr J) J ?_ dD
 rfl
end Go.Proofs.YtcblgjaomljikaaGreat
namespace Go.Proofs.YtcblgjaomljikaaGreat
open Go.Ab Go.RowKit
theorem idxi_run (k : Nat) (ns : List Int) (g : FuncId) (cap : List LV) (p : Int → Bool) (hcap : ∀ c, c ∈ cap → Go.Ab.Data c) (ln : ns.length < 4611686018427387904) (hp : ∀ a, a ∈ ns → Run Tryz.prog T E0 (.call g ([.v (.int .i64 a)] ++ cap) (.v (.bool (p a))))) : Run Tryz.prog T E0 (.call 107 [lvL k ns, .fn (.func g) [] cap] (.v (.int .i64 (fidx p ns)))) := by
 refine bC Tryz.func107 J J (cX J) <| Rg 1 J <| Ua J J <| Wn <| aB <| Rg 3 J <| Um J J <| aA (aX J J) J <| Um J J <| Wn <| aL <| bA (α := Nat) (fun i => [(0, lvL k ns), (1, .fn (.func g) [] cap), (7, .v (.int .i64 (ns.length : Int))), (8, .v (.int .i64 (i : Int)))]) (fun i => []) (fun i n => i ≤ ns.length ∧ (ns.take i).any p = false) (fun i => ns.length - i) (0) ⟨J, J, J, J, trivial⟩ trivial ⟨Nat.zero_le _, by simp⟩ ?_
 rintro i n hF
 change WC _ _ _ _ _ (_ :: _) ([]) n _
 obtain ⟨hi, ha⟩ := hF
 refine Rg 1 J <| aA (bP J J) J <| aW (fun h9 => ?_) (fun h9 => ?_)
 rotate_left
 ·refine Wn <| aT J <| aZ <| aQ <| aS J <| Rg 1 J <| Ua J J <| Wn <| aM <| post (n := 0) (.inr J) J ?_ dD
  exact congrArg (fun z => LV.v (.int .i64 z)) (oF ha om).symm
 refine Wn <| aP J <| aD <| aL <| Rg 2 J <| Um J J <| Ua J J <| Wn <| Rg 6 J <| Um J J <| Um J J <| Um J J <| aA (bS J J J J J om J) J <| aA (dB J J J) J <| aA (oCallVD J J (hp _ (bO om)) (data3 d0 (dII _) hcap)) J <| dC (fun h16 => ?_) (fun h16 => ?_)
 rotate_left
 ·refine Wn <| bZ J <| cE <| aF <| aH (z := 2) J <| aA (cI (((i + 1 : Nat) : Int)) (aR J J om) om) J <| Um J J <| Wn <| aG <| ⟨i + 1, ⟨J, J, J, J, trivial⟩, trivial, ⟨om, rR ha om h16⟩, by show ns.length - (i + 1) < ns.length - i; omega⟩
 refine Wn <| bU J <| Rg 2 J <| Um J J <| Ua J J <| Nk [4] J <| aM <| aK <| bE <| aK <| post (n := 0) (.inr J) J ?_ dD
 exact congrArg (fun z => LV.v (.int .i64 z)) (qR ha om h16).symm
theorem coni_run (k : Nat) (ns : List Int) (g : FuncId) (cap : List LV) (p : Int → Bool) (hcap : ∀ c, c ∈ cap → Go.Ab.Data c) (ln : ns.length < 4611686018427387904) (hp : ∀ a, a ∈ ns → Run Tryz.prog T E0 (.call g ([.v (.int .i64 a)] ++ cap) (.v (.bool (p a))))) : Run Tryz.prog T E0 (.call 53 [lvL k ns, .fn (.func g) [] cap] (.v (.bool (ns.any p)))) := by
 refine bC Tryz.func53 J J (cX J) <| Rg 1 J <| Ua J J <| Wn <| Rg 5 J <| Um J J <| Um J J <| aA (kV [] [lvL k ns, .fn (.func g) [] cap] J (idxi_run k ns g cap p hcap ln hp) (SnapB.datas (by intro c hc; simp only [List.mem_cons, List.not_mem_nil, or_false] at hc; rcases hc with rfl | rfl; exact mH _ _; exact dfn d0 hcap)) pD) J <| aA (fJ J J) J <| Ua J J <| Wn <| aM <| post (n := 0) (.inr J) J ?_ dD
 exact congrArg (fun z => LV.v (.bool z)) (kL p ns)
end Go.Proofs.YtcblgjaomljikaaGreat
namespace Go.Proofs.YtcblgjaomljikaaGreat
open Go.Ab Go.RowKit
theorem idx5_run (k : Nat) (ns : List Go.Ab.ST) (g : FuncId) (cap : List LV) (p : Go.Ab.ST → Bool) (hcap : ∀ c, c ∈ cap → Go.Ab.Data c) (ln : ns.length < 4611686018427387904) (hp : ∀ a, a ∈ ns → Run Tryz.prog T E0 (.call g ([.agg (stc a)] ++ cap) (.v (.bool (p a))))) : Run Tryz.prog T E0 (.call 151 [.sl k (ns.map stc), .fn (.func g) [] cap] (.v (.int .i64 (fidx p ns)))) := by
 refine bC Tryz.func151 J J (cX J) <| Rg 1 J <| Ua J J <| Wn <| aB <| Rg 3 J <| Um J J <| aA (aX J J) J <| Um J J <| Wn <| aL <| bA (α := Nat) (fun i => [(0, .sl k (ns.map stc)), (1, .fn (.func g) [] cap), (7, .v (.int .i64 (ns.length : Int))), (8, .v (.int .i64 (i : Int)))]) (fun i => []) (fun i n => i ≤ ns.length ∧ (ns.take i).any p = false) (fun i => ns.length - i) (0) ⟨J, J, J, J, trivial⟩ trivial ⟨Nat.zero_le _, by simp⟩ ?_
 rintro i n hF
 change WC _ _ _ _ _ (_ :: _) ([]) n _
 obtain ⟨hi, ha⟩ := hF
 refine Rg 1 J <| aA (bP J J) J <| aW (fun h9 => ?_) (fun h9 => ?_)
 rotate_left
 ·refine Wn <| aT J <| aZ <| aQ <| aS J <| Rg 1 J <| Ua J J <| Wn <| aM <| post (n := 0) (.inr J) J ?_ dD
  exact congrArg (fun z => LV.v (.int .i64 z)) (oF ha om).symm
 refine Wn <| aP J <| aD <| aL <| Rg 2 J <| Um J J <| Ua J J <| Wn <| Rg 6 J <| Um J J <| Um J J <| Um J J <| aA (bS J J J J J om J) J <| aA (dB (l := .agg (stc (ns.getD i default))) J J J) J <| aA (oCallVD J J (hp _ (bO om)) (data3 d0 (by intro c hc; rw [List.mem_singleton] at hc; subst hc; exact .agg _ (mZ _)) hcap)) J <| dC (fun h16 => ?_) (fun h16 => ?_)
 rotate_left
 ·refine Wn <| bZ J <| cE <| aF <| aH (z := 2) J <| aA (cI (((i + 1 : Nat) : Int)) (aR J J om) om) J <| Um J J <| Wn <| aG <| ⟨i + 1, ⟨J, J, J, J, trivial⟩, trivial, ⟨om, rR ha om h16⟩, by show ns.length - (i + 1) < ns.length - i; omega⟩
 refine Wn <| bU J <| Rg 2 J <| Um J J <| Ua J J <| Nk [4] J <| aM <| aK <| bE <| aK <| post (n := 0) (.inr J) J ?_ dD
 exact congrArg (fun z => LV.v (.int .i64 z)) (qR ha om h16).symm
theorem con5_run (k : Nat) (ns : List Go.Ab.ST) (g : FuncId) (cap : List LV) (p : Go.Ab.ST → Bool) (hcap : ∀ c, c ∈ cap → Go.Ab.Data c) (ln : ns.length < 4611686018427387904) (hp : ∀ a, a ∈ ns → Run Tryz.prog T E0 (.call g ([.agg (stc a)] ++ cap) (.v (.bool (p a))))) : Run Tryz.prog T E0 (.call 138 [.sl k (ns.map stc), .fn (.func g) [] cap] (.v (.bool (ns.any p)))) := by
 refine bC Tryz.func138 J J (cX J) <| Rg 1 J <| Ua J J <| Wn <| Rg 5 J <| Um J J <| Um J J <| aA (kV [] [.sl k (ns.map stc), .fn (.func g) [] cap] J (idx5_run k ns g cap p hcap ln hp) (SnapB.datas (by intro c hc; simp only [List.mem_cons, List.not_mem_nil, or_false] at hc; rcases hc with rfl | rfl; exact .sl _ _ (bW mZ); exact dfn d0 hcap)) pD) J <| aA (fJ J J) J <| Ua J J <| Wn <| aM <| post (n := 0) (.inr J) J ?_ dD
 exact congrArg (fun z => LV.v (.bool z)) (kL p ns)
theorem many_run (s : Go.Ab.ST) : Run Tryz.prog T E0 (.call 139 [.agg (stc s)] (.v (.bool (manyC s)))) := by
 refine bC Tryz.func139 J J (cX J) <| Rg 2 J <| bD (dY J J) J <| Ua J J <| Wn <| Rg 5 J <| aA (bB J J J J J) J <| aA (aO (l := .sl s.2.1 (s.2.2.map chc)) J J g0 J J) J <| aA (aX J J) J <| aA (dG J J) J <| Ua J J <| Wn <| aM <| post (n := 0) (.inr J) J ?_ dD
 exact congrArg (fun z => LV.v (.bool z)) (by unfold manyC; exact decide_eq_decide.2 om)
theorem chain_run (k : Nat) (ss : List Go.Ab.ST) (hl : ss.length < 4611686018427387904) : Run Tryz.prog T E0 (.call 106 [lvMo k ss] (.v (.bool (chainB ss)))) := by
 refine bC Tryz.func106 J J (cX J) <| Rg 2 J <| bD (dY J J) J <| Ua J J <| Wn <| Rg 5 J <| aA (bB J J J J J) J <| aA (aO J J g0 J J) J <| aA (kV [] [.sl k (ss.map stc), .fn (.func 139) [] []] J (con5_run k ss 139 [] manyC d0 hl (fun a _ => many_run a)) (SnapB.datas (by intro c hc; simp only [List.mem_cons, List.not_mem_nil, or_false] at hc; rcases hc with rfl | rfl; exact .sl _ _ (bW mZ); exact dfn d0 d0)) pD) J <| aA (cW J) J <| Ua J J <| Wn <| aM <| post (n := 0) (.inr J) J ?_ dD
 rfl
theorem ask1_run (a : NM) (h1 : I64 a.1) (h2 : I64 a.2) : Run Tryz.prog T E0 (.call 103 [lvM a] (.v (.bool (!vn a)))) := by
 refine bC Tryz.func103 J J (cX J) <| Rg 2 J <| bD (dY J J) J <| Ua J J <| Wn <| Rg 4 J <| aA (aO (l := lvM a) J J g0 J J) J <| aA (bL (b := .v (.bool (vn a))) (aN J (mM a h1 h2) dD) J) J <| aA (cW J) J <| Ua J J <| Wn <| aM <| post (n := 0) (.inr J) J ?_ dD
 rfl
theorem ask2_run (k : Nat) (ss : List Go.Ab.ST) (z : Int) : Run Tryz.prog T E0 (.call 105 [.v (.int .i64 (z : Int)), .ro [.sl k (ss.map stc)]] (.v (.bool (offS ss.length z)))) := by
 refine bC Tryz.func105 J J (cX J) <| Rg 1 J <| Ua J J <| Wn <| Rg 10 J <| Um J J <| aA (bP J J) J <| aW (fun h5 => ?_) (fun h5 => ?_)
 ·refine Um J J <| K1 J J <| K1 J J <| K1 J J <| K1 J J <| K1 J J <| aA (bG J J) J <| Ua J J <| Wn <| aM <| post (n := 0) (.inr J) J ?_ dD
  exact congrArg (fun z => LV.v (.bool z)) (by first | (show true = _; unfold offS; rw [decide_eq_true h5]; rfl) | (unfold offS; rw [decide_eq_false h5, Bool.false_or]))
 refine Um J J <| aE J (dU J) J <| aE J (oFa J J J J J) J <| aE J (dB (l := .sl k (ss.map stc)) J J J) J <| aE J (aX J J) J <| aE J (fJ J J) J <| aA (bF J J) J <| Ua J J <| Wn <| aM <| post (n := 0) (.inr J) J ?_ dD
 exact congrArg (fun z => LV.v (.bool z)) (by first | (show true = _; unfold offS; rw [decide_eq_true h5]; rfl) | (unfold offS; rw [decide_eq_false h5, Bool.false_or]))
theorem rM (k kg kn ks : Nat) (ss : List Go.Ab.ST) (goal : List Int) (ns : List NM) (sts : List Int) (hI : ∀ s, s ∈ ss → IS s) (lg : goal.length < 1099511627776) (ln : ns.length < 1099511627776) (hN : IV ns) (ls : sts.length < 1099511627776) : Run Tryz.prog T E0 (.call 52 [lvMo k ss, lvL kg goal, .sl kn (ns.map mc), lvL ks sts] (.v (.int .i64 (askS ss goal ns sts)))) := by
 refine bC Tryz.func52 J J (cX J) <| Rg 2 J <| bD (dY J J) J <| Ua J J <| Wn <| aL <| Rg 14 J <| aA (aO (l := lvMo k ss) J J g0 J J) J <| aA (aN J (mvmodel_run k ss hI) dD) J <| dC (fun h11 => ?_) (fun h11 => ?_)
 rotate_left
 ·refine aA (cW J) J <| Um J J <| K1 J J <| K1 J J <| K1 J J <| K1 J J <| aA (bG J J) J <| Um J J <| K1 J J <| K1 J J <| aA (bG J J) J <| Ua J J <| Nk [3,4,9] J <| bU J <| Rg 1 J <| Ua J J <| Wn <| aM <| aK <| post (n := 0) (.inr J) J ?_ (.v _)
  exact congrArg (fun z => LV.v (.int .i64 z)) (show _ = askS ss goal ns sts by unfold askS; first | rw [if_pos hA, if_pos h26] | rw [if_pos hA, if_neg (by rw [h26]; decide), if_pos h29] | rw [if_pos hA, if_neg (by rw [h26]; decide), if_neg (by rw [h29]; decide)] | rw [if_neg (fun hq => by obtain ⟨q1, q2, q3⟩ := hq; simp_all)])
 refine aA (cW J) J <| Um J J <| aE J (aO (l := lvMo k ss) J J g0 J J) J <| aE J (dU J) J <| aE J (aN J (mset_run k kg ss goal lg) dD) J <| dC (fun h16 => ?_) (fun h16 => ?_)
 rotate_left
 ·refine aE J (cW J) J <| aA (bF J J) J <| Um J J <| K1 J J <| K1 J J <| aA (bG J J) J <| Ua J J <| Nk [3,4,9] J <| bU J <| Rg 1 J <| Ua J J <| Wn <| aM <| aK <| post (n := 0) (.inr J) J ?_ (.v _)
  exact congrArg (fun z => LV.v (.int .i64 z)) (show _ = askS ss goal ns sts by unfold askS; first | rw [if_pos hA, if_pos h26] | rw [if_pos hA, if_neg (by rw [h26]; decide), if_pos h29] | rw [if_pos hA, if_neg (by rw [h26]; decide), if_neg (by rw [h29]; decide)] | rw [if_neg (fun hq => by obtain ⟨q1, q2, q3⟩ := hq; simp_all)])
 refine aE J (cW J) J <| aA (bF J J) J <| Um J J <| aE J (dU J) J <| aE J (kV [] [.sl kn (ns.map mc), .fn (.func 103) [] []] J (con1_run kn ns 103 [] (fun a => !vn a) (by simp) om (fun a ha => ask1_run a (hN a ha).1 (hN a ha).2)) (SnapB.datas (by intro c hc; simp only [List.mem_cons, List.not_mem_nil, or_false] at hc; rcases hc with rfl | rfl; exact .sl _ _ (bW pO); exact dfn d0 d0)) pD) J <| dC (fun h21 => ?_) (fun h21 => ?_)
 ·refine aA (bF J J) J <| Ua J J <| Nk [3,4,9] J <| bU J <| Rg 1 J <| Ua J J <| Wn <| aM <| aK <| post (n := 0) (.inr J) J ?_ (.v _)
  exact congrArg (fun z => LV.v (.int .i64 z)) (show _ = askS ss goal ns sts by unfold askS; first | rw [if_pos hA, if_pos h26] | rw [if_pos hA, if_neg (by rw [h26]; decide), if_pos h29] | rw [if_pos hA, if_neg (by rw [h26]; decide), if_neg (by rw [h29]; decide)] | rw [if_neg (fun hq => by obtain ⟨q1, q2, q3⟩ := hq; simp_all)])
 refine aA (bF J J) J <| Ua J J <| Nk [3,4,9] J <| bZ J ?_
 have hA := show VMo ss = true ∧ VSet ss.length goal = true ∧ ns.any (fun a => !vn a) = false from ⟨h11, h16, by simpa using h21⟩
 refine Rg 4 J <| Um J J <| aA (oMf J) J <| aA (kV [0] [lvL ks sts, .fn (.func 105) [] [.ro [.sl k (ss.map stc)]]] J (coni_run ks sts 105 [.ro [.sl k (ss.map stc)]] (offS ss.length) (by intro c hc; rw [List.mem_singleton] at hc; subst hc; exact .ro _ (by intro c hc; rw [List.mem_singleton] at hc; subst hc; exact .sl _ _ (bW mZ))) om (fun a ha => ask2_run k ss a)) (.data (mH _ _) (.fn .nil (.box (ob := { cells := [.sl k (ss.map stc)], sz := 1, elem := (24), st := 0 }) g0 (by simp) (by show (0 : Nat) ≠ 2; decide) (by intro c hc; rw [List.mem_singleton] at hc; subst hc; exact .sl _ _ (bW mZ)) .nil) .nil)) (.cons g0 (by show (0 : Nat) ≠ 2; decide) pD)) J <| dC (fun h26 => ?_) (fun h26 => ?_)
 ·refine Ua J J <| Wn <| bU J <| Rg 1 J <| Ua J J <| Wn <| aM <| aK <| post (n := 0) (.inr J) J ?_ (.v _)
  exact congrArg (fun z => LV.v (.int .i64 z)) (show _ = askS ss goal ns sts by unfold askS; first | rw [if_pos hA, if_pos h26] | rw [if_pos hA, if_neg (by rw [h26]; decide), if_pos h29] | rw [if_pos hA, if_neg (by rw [h26]; decide), if_neg (by rw [h29]; decide)] | rw [if_neg (fun hq => by obtain ⟨q1, q2, q3⟩ := hq; simp_all)])
 refine Ua J J <| Wn <| bZ J <| Rg 4 J <| aA (aO (l := lvMo k ss) J J g0 J J) J <| aA (aN J (chain_run k ss (by have := (qG h11).wt.len; omega)) dD) J <| dC (fun h29 => ?_) (fun h29 => ?_)
 rotate_left
 ·refine aA (cW J) J <| Ua J J <| Wn <| bU J <| Rg 1 J <| Ua J J <| Wn <| aM <| aK <| post (n := 0) (.inr J) J ?_ (.v _)
  exact congrArg (fun z => LV.v (.int .i64 z)) (show _ = askS ss goal ns sts by unfold askS; first | rw [if_pos hA, if_pos h26] | rw [if_pos hA, if_neg (by rw [h26]; decide), if_pos h29] | rw [if_pos hA, if_neg (by rw [h26]; decide), if_neg (by rw [h29]; decide)] | rw [if_neg (fun hq => by obtain ⟨q1, q2, q3⟩ := hq; simp_all)])
 refine aA (cW J) J <| Ua J J <| Wn <| bZ J <| cE <| aF <| Rg 1 J <| Ua J J <| Wn <| aM <| post (n := 0) (.inr J) J ?_ (.v _)
 exact congrArg (fun z => LV.v (.int .i64 z)) (show _ = askS ss goal ns sts by unfold askS; first | rw [if_pos hA, if_pos h26] | rw [if_pos hA, if_neg (by rw [h26]; decide), if_pos h29] | rw [if_pos hA, if_neg (by rw [h26]; decide), if_neg (by rw [h29]; decide)] | rw [if_neg (fun hq => by obtain ⟨q1, q2, q3⟩ := hq; simp_all)])
end Go.Proofs.YtcblgjaomljikaaGreat
namespace Go.Proofs.YtcblgjaomljikaaGreat
open Go.Ab Go.RowKit
theorem suct_run (k : Nat) (ss : List Go.Ab.ST) (z : Int) (u : X) (hC : Chn ss) (h0 : 0 ≤ z) (h1 : z < ss.length) (hub : Bd 34359738368 u.1) : Run Tryz.prog T E0 (.call 110 [lvMo k ss, .v (.int .i64 z), lvX u] (.v (.int .i64 (sucS ss u.1 z)))) := by
 have := suc_run k z.toNat ss u om (hC.one _ om) (hC.few _ om) (hC.num _ om) hub
 rw [Int.toNat_of_nonneg h0] at this
 exact this
theorem drawn1_run (a : NM) : Run Tryz.prog T E0 (.call 109 [lvM a] (.v (.bool (offD a)))) := by
 refine bC Tryz.func109 J J (cX J) <| Rg 2 J <| bD (dY J J) J <| Ua J J <| Wn <| Rg 11 J <| aA (bB J J J J J) J <| aA (aO J J J J J) J <| aA (bP J J) J <| aW (fun h5 => ?_) (fun h5 => ?_)
 ·refine Um J J <| K1 J J <| K1 J J <| K1 J J <| K1 J J <| K1 J J <| aA (bG J J) J <| Ua J J <| Wn <| aM <| post (n := 0) (.inr J) J ?_ dD
  exact congrArg (fun z => LV.v (.bool z)) (by first | (show true = _; unfold offD; rw [decide_eq_true h5]; rfl) | (unfold offD; rw [decide_eq_false h5, Bool.false_or]))
 refine Um J J <| aE J (bB J J J J J) J <| aE J (aO J J J J J) J <| aE J (bB J J J J J) J <| aE J (aO J J J J J) J <| aE J (fJ J J) J <| aA (bF J J) J <| Ua J J <| Wn <| aM <| post (n := 0) (.inr J) J ?_ dD
 exact congrArg (fun z => LV.v (.bool z)) (by first | (show true = _; unfold offD; rw [decide_eq_true h5]; rfl) | (unfold offD; rw [decide_eq_false h5, Bool.false_or]))
theorem drawn_run (kn : Nat) (ns : List NM) (ln : ns.length < 1099511627776) : Run Tryz.prog T E0 (.call 60 [.sl kn (ns.map mc)] (.v (.int .i64 (drawS ns)))) := by
 refine bC Tryz.func60 J J (cX J) <| Rg 1 J <| Ua J J <| Wn <| aB <| Rg 7 J <| Um J J <| aA (aX J J) J <| aA (dG J J) J <| aW (fun h5 => ?_) (fun h5 => ?_)
 ·refine Um J J <| K1 J J <| K1 J J <| aA (bG J J) J <| Wn <| aP J <| aB <| Rg 1 J <| Ua J J <| Wn <| aU <| post (n := 0) (.inr J) J ?_ dD
  exact congrArg (fun z => LV.v (.int .i64 z)) (show _ = drawS ns by first | exact drawS_2 h8 | exact drawS_1 h5 h8 | exact drawS_3 h5)
 refine Um J J <| aE J (dU J) J <| aE J (kV [] [.sl kn (ns.map mc), .fn (.func 109) [] []] J (con1_run kn ns 109 [] offD (by simp) om (fun a ha => drawn1_run a)) (SnapB.datas (by intro c hc; simp only [List.mem_cons, List.not_mem_nil, or_false] at hc; rcases hc with rfl | rfl; exact .sl _ _ (bW pO); exact dfn d0 d0)) pD) J <| dC (fun h8 => ?_) (fun h8 => ?_)
 ·refine aA (bF J J) J <| Wn <| aP J <| aB <| Rg 1 J <| Ua J J <| Wn <| aU <| post (n := 0) (.inr J) J ?_ dD
  exact congrArg (fun z => LV.v (.int .i64 z)) (show _ = drawS ns by first | exact drawS_2 h8 | exact drawS_1 h5 h8 | exact drawS_3 h5)
 refine aA (bF J J) J <| Wn <| aT J <| aD <| Rg 1 J <| Ua J J <| Wn <| aM <| post (n := 0) (.inr J) J ?_ dD
 exact congrArg (fun z => LV.v (.int .i64 z)) (show _ = drawS ns by first | exact drawS_2 h8 | exact drawS_1 h5 h8 | exact drawS_3 h5)
theorem both_run (z r : Int) (g : FuncId) (cap : List LV) (hcap : ∀ c, c ∈ cap → Go.Ab.Data c) (hr : z = 0 → Run Tryz.prog T E0 (.call g cap (.v (.int .i64 r)))) : Run Tryz.prog T E0 (.call 58 [.v (.int .i64 (z : Int)), .fn (.func g) [] cap] (.v (.int .i64 (bothS z r)))) := by
 refine bC Tryz.func58 J J (cX J) <| Rg 1 J <| Ua J J <| Wn <| aB <| Rg 2 J <| Um J J <| aA (fS J J) J <| aW (fun h6 => ?_) (fun h6 => ?_)
 ·refine Wn <| aP J <| aB <| Rg 2 J <| Um J J <| Ua J J <| Wn <| aU <| post (n := 0) (.inr J) J ?_ dD
  exact congrArg (fun z => LV.v (.int .i64 z)) (show _ = bothS z r by unfold bothS; first | rw [if_neg om] | rw [if_pos om])
 refine Wn <| aT J <| aD <| Rg 3 J <| Um J J <| aA (oCallVD J J (hr om) (data3 d0 d0 hcap)) J <| Ua J J <| Wn <| aM <| post (n := 0) (.inr J) J ?_ dD
 exact congrArg (fun z => LV.v (.int .i64 z)) (show _ = bothS z r by unfold bothS; first | rw [if_neg om] | rw [if_pos om])
theorem runc_run (kn : Nat) (ns : List NM) (ln : ns.length < 1099511627776) : Run Tryz.prog T E0 (.call 59 [.ro [.sl kn (ns.map mc)]] (.v (.int .i64 (drawS ns)))) := by
 refine bC Tryz.func59 J J (cX J) <| Rg 1 J <| Ua J J <| Wn <| Rg 3 J <| aA (dB (l := .sl kn (ns.map mc)) J J J) J <| aA (aN J (drawn_run kn ns ln) (bM (by intro c hc; simp only [List.mem_cons, List.not_mem_nil, or_false] at hc; rcases hc with rfl; exact (.sl _ _ (bW pO))))) J <| Ua J J <| Wn <| aM ?_
 exact post (n := 0) (.inr J) J J (by simp)
theorem run1_run (k ku : Nat) (ss : List Go.Ab.ST) (s : Int) (xs : List X) (hC : Chn ss) (h0 : 0 ≤ s) (h1 : s < ss.length) (lx : xs.length ≤ 200) (hxb : ∀ x, x ∈ xs → Bd 34359738368 x.1) : Run Tryz.prog T E0 (.call 61 [lvMo k ss, .v (.int .i64 (s : Int)), .sl ku (xs.map xc)] (lvL (kd2 xs.length) (runL ss s (rvs xs)))) := by
 refine bC Tryz.func61 J J (cX J) <| Rg 2 J <| bD (dY J J) J <| Ua J J <| Wn <| Rg 3 J <| Um J J <| aA (cS (cs := [_]) (rows := [[_]]) J J (by decide) J J J) J <| Ua J J <| Wn <| aB <| Rg 3 J <| Um J J <| aA (aX J J) J <| Um J J <| Wn <| aL <| bA (α := Nat × Nat × Int × (List Int)) (fun ⟨i, q, z, out⟩ => [(1, .v (.int .i64 (z : Int))), (3, .ptr 0 0), (7, outW i q 1 (out.map ic)), (12, .sl ku (xs.map xc)), (13, .v (.int .i64 (xs.length : Int))), (14, .v (.int .i64 (i : Int)))]) (fun ⟨i, q, z, out⟩ => outWH i q 1 (3) (out.map ic) [(0, { cells := [.sl k (ss.map stc)], sz := 1, elem := (24), st := 0 })]) (fun ⟨i, q, z, out⟩ n => i ≤ xs.length ∧ out = runL ss s ((rvs xs).take i) ∧ z = runS ss s ((rvs xs).take i) ∧ 0 < q ∧ q < n) (fun ⟨i, q, z, out⟩ => xs.length - i) (0, 1, s, [s]) ⟨J, J, J, J, J, J, trivial⟩ ⟨g0, trivial⟩ ⟨Nat.zero_le _, rfl, rfl, om, om⟩ ?_
 rintro ⟨i, q, z, out⟩ n hF
 change WC _ _ _ _ _ [(1, .v (.int .i64 (z : Int))), (3, .ptr 0 0), (7, outW i q 1 (out.map ic)), (12, .sl ku (xs.map xc)), (13, .v (.int .i64 (xs.length : Int))), (14, .v (.int .i64 (i : Int)))] (outWH i q 1 (3) (out.map ic) [(0, { cells := [.sl k (ss.map stc)], sz := 1, elem := (24), st := 0 })]) n _
 obtain ⟨hi, hout, hz, hq, hqn⟩ := hF
 have hol : out.length = i + 1 := by rw [hout, runL_len, List.length_take, gF]; omega
 have hzb := hC.run h0 h1 ((rvs xs).take i)
 rw [← hz] at hzb
 refine Rg 1 J <| aA (bP J J) J <| aW (fun h15 => ?_) (fun h15 => ?_)
 rotate_left
 ·refine Wn <| aT J <| aZ <| aQ <| aS J <| Rg 2 J <| Um J J <| Ua J J <| Wn <| aM ?_
  have hin : i = xs.length := by omega
  subst hin
  rw [List.take_of_length_le (by rw [gF]; omega)] at hout
  subst hout
  exact postWs (n := 0) (m := xs.length) (us := (runL ss s (rvs xs)).map ic) (.inr J) J (by decide) (fN (n := 1) (fun _ => rfl)) (bW dic1)
 refine Wn <| aP J <| aD <| aL ?_
 have hm := bO (us := xs) (i := i) om
 refine Rg 4 J <| aA (bS J J J J J om J) J <| aA (dB (l := .agg (xc (xs.getD i default))) J J J) J <| bD (dX J) J <| aY (cH (cs' := xc (xs.getD i default)) J J J g0 J J J J) <| Wn <| Rg 5 J <| aA (aO (l := lvMo k ss) J J (by repeat (first | exact g0 | refine g1 om ?_ | refine oP om ?_)) J J) J ?_
 refine Um J J <| aA (aO (l := lvX (xs.getD i default)) J J g0 J J) J <| aA (aN J (suct_run k ss z (xs.getD i default) hC hzb.1 hzb.2 (hxb _ hm)) (bM (by intro c hc; simp only [List.mem_cons, List.not_mem_nil, or_false] at hc; rcases hc with rfl | rfl | rfl; exact pN; exact (.v _); exact pN))) J <| Ua J J <| Wn <| aH (z := 5) J <| Um J J <| Um J J <| aA (cS (cs := [_]) (rows := [[_]]) J J (by decide) J J J) J ?_
 have hne : out ≠ [] := fun h => by rw [h] at hol; simp at hol
 refine jA (outWH i q 1 (3) (out.map ic) [(0, { cells := [.sl k (ss.map stc)], sz := 1, elem := (24), st := 0 })]) (Hp.le_skip (oP om (gN om J)) (Hp.le_skip (oP om (gN om J)) (Hp.le_refl _))) <| WO.apW (te := ti3) (f := ic) (m := i) (q := q) (us := out) (u := (sucS ss (xs.getD i default).1 z)) hne J J J J J (fun _ => rfl) (by decide) (by show (2 * (out.length + 1) + 256) * 8 ≤ _; omega) om (gN om J) (gN om J) J <| Ua J J <| Wn <| aF <| Ck [1,3,7,12,13,14] J <| aH (z := 2) J <| aA (cI (((i + 1 : Nat) : Int)) (aR J J om) om) J <| Um J J <| Wn <| aG <| ⟨⟨i + 1, _, (sucS ss (xs.getD i default).1 z), out ++ [(sucS ss (xs.getD i default).1 z)]⟩, ⟨J, J, J, J, J, J, trivial⟩, ?_, ⟨om, ?_, ?_, ?_, ?_⟩, by show xs.length - (i + 1) < xs.length - i; omega⟩
 ·exact ⟨g0, g1 om g0, trivial⟩
 ·rw [runL_succ ss s _ (by rw [gF]; omega), ← hout, ← hz, rvs_get om]
 ·rw [iO (by rw [gF]; omega), runS_succ, ← hz, rvs_get om]
 ·omega
 ·omega
end Go.Proofs.YtcblgjaomljikaaGreat
namespace Go.Proofs.YtcblgjaomljikaaGreat
open Go.Ab Go.RowKit
theorem rP (k kn : Nat) (ss : List Go.Ab.ST) (s : Int) (ns : List NM) (hI : ∀ s, s ∈ ss → IS s) (ln : ns.length < 1099511627776) (hN : IV ns) : Run Tryz.prog T E0 (.call 19 [lvMo k ss, .v (.int .i64 (s : Int)), .sl kn (ns.map mc)] (runO ss ns s)) := by
 refine bC Tryz.func19 J J (cX J) <| Rg 4 J <| bD (dY J J) J <| bD (dY J J) J <| Ua J J <| Ua J J <| Wn <| aB <| Rg 8 J <| aA (aO (l := lvMo k ss) J J gG J J) J ?_
 refine aA (aO (l := .sl kn (ns.map mc)) J J gG J J) J ?_
 refine Um J J <| aA (cS (cs := [_]) (rows := [[_]]) J J (by decide) J J J) J <| aA (aN J (rM k 0 kn 2 ss [] ns [s] hI (by show 0 < _; omega) ln hN (by show 1 < _; omega)) (bM (by intro c hc; simp only [List.mem_cons, List.not_mem_nil, or_false] at hc; rcases hc with rfl | rfl | rfl | rfl; exact pN; exact (.sl _ _ (by simp)); exact (.sl _ _ (bW pO)); exact (.sl _ _ (by intro r hr c hc; rw [List.mem_singleton] at hr; subst hr; exact dic1 _ c hc))))) J <| aA (oMf J) J <| aA (kV [0 + 1] [.v (.int .i64 (askS ss [] ns [s])), .fn (.func 59) [] [.ro [.sl kn (ns.map mc)]]] J (both_run (askS ss [] ns [s]) (drawS ns) 59 [.ro [.sl kn (ns.map mc)]] (by intro c hc; rw [List.mem_singleton] at hc; subst hc; exact .ro _ (by intro c hc; rw [List.mem_singleton] at hc; subst hc; exact .sl _ _ (bW pO))) (fun _ => runc_run kn ns om)) (.data (.v _) (.fn .nil (.box (ob := { cells := [.sl kn (ns.map mc)], sz := 1, elem := (30), st := 0 }) gG (by simp) (by show (0 : Nat) ≠ 2; decide) (by intro c hc; rw [List.mem_singleton] at hc; subst hc; exact .sl _ _ (bW pO)) .nil) .nil)) (.cons gG (by show (0 : Nat) ≠ 2; decide) pD)) J ?_
 refine Ua J J <| Nk [1,3,5,8] J <| aB <| Rg 2 J <| Um J J <| aA (fS J J) J <| aW (fun h17 => ?_) (fun h17 => ?_)
 ·refine Wn <| aP J <| aB <| Rg 3 J <| Um J J <| Ua J J <| Ua J J <| Wn <| aU <| post (n := 0) (.inr J) J ?_ runO_data
  show _ = runO ss ns s
  unfold runO
  rw [if_neg h17]
  rfl
 refine Wn <| aT J <| aD ?_
 obtain ⟨ha, hd⟩ := both0' h17
 obtain ⟨hV, _, hvn, hst, _⟩ := ask0 ha
 obtain ⟨hnl, hdr⟩ := draw0 hd
 have hC := Chn.of hV
 have hbz : bothS (askS ss [] ns [s]) (drawS ns) = 0 := Classical.not_not.1 h17
 refine bQ (z := 7) J kR <| aJ (aO (l := lvMo k ss) J J gG J J) J ?_
 refine Dm J J <| aJ (aO (l := .sl kn (ns.map mc)) J J gG J J) J ?_
 refine aJ (aN J (nrats_run kn ns ln hN (fun a ha => (hvn a ha).all3.2.2)) (bM (by intro c hc; simp only [List.mem_cons, List.not_mem_nil, or_false] at hc; rcases hc with rfl; exact (.sl _ _ (bW pO))))) J <| aJ (aN J (run1_run k (kd (ns.map nx).length) ss s (ns.map nx) hC (hst s (by simp)).1 (hst s (by simp)).2 (by rw [List.length_map]; exact hnl) (nxs_bd hvn)) (bM (by intro c hc; simp only [List.mem_cons, List.not_mem_nil, or_false] at hc; rcases hc with rfl | rfl | rfl; exact pN; exact (.v _); exact (.sl _ _ (bW dxc))))) J <| aJ (kU J) J <| aJ (kU J) J <| bK (aV kR) J <| aM <| post (n := 0) (.inr J) J ?_ runO_data
 show _ = runO ss ns s
 unfold runO
 rw [if_pos hbz, ← rvs_nx, List.length_map]
 rfl
end Go.Proofs.YtcblgjaomljikaaGreat
namespace Go.Proofs.YtcblgjaomljikaaGreat
open Go.Ab Go.RowKit
theorem shares_run (k s : Nat) (ss : List Go.Ab.ST) : Run Tryz.prog T E0 (.call 55 [lvMo k ss, .v (.int .i64 (s : Int))] (.fn (.func 108) [] [.ro [.sl k (ss.map stc)], .ro [.v (.int .i64 (s : Int))]])) := by
 refine bC Tryz.func55 J J (cX J) <| Rg 3 J <| bD (dY J J) J <| bD (dY J J) J <| Ua J J <| Wn <| Rg 2 J <| aA (oMf J) J <| Ua J J <| Wn <| aM ?_
 exact postFn2 (n := 0) (oa := { cells := [.sl k (ss.map stc)], sz := 1, elem := (24), st := 0 }) (ob := { cells := [.v (.int .i64 ((s : Int)))], sz := 1, elem := (3), st := 0 }) (.inr J) J gG gG (by show (0 : Nat) ≠ 2; decide) (by show (0 : Nat) ≠ 2; decide) (by intro c hc; rw [List.mem_singleton] at hc; subst hc; exact .sl _ _ (bW mZ)) (by intro c hc; rw [List.mem_singleton] at hc; subst hc; exact .v _)
theorem shr_round (k n a4 a6 a7 p11 p12 lq hq : Nat) (ss : List Go.Ab.ST) (b : BR) (ac nxt : X) (l hh : List X) (f : Bool) (t : Int) (hp : 23 < p11 ∧ p11 < p12 ∧ p12 < a4 ∧ a4 < a6 ∧ a6 < a7 ∧ a7 < n) (hids : (23 < lq ∧ 23 < hq ∧ lq ≠ hq ∧ lq ≠ p11 ∧ lq ≠ p12 ∧ hq ≠ p11 ∧ hq ≠ p12 ∧ lq < n ∧ hq < n)) (hid2 : lq ≠ a4 ∧ lq ≠ a6 ∧ lq ≠ a7 ∧ hq ≠ a4 ∧ hq ≠ a6 ∧ hq ≠ a7) (hll : l.length < 1000000) (hhl : hh.length < 1000000) : WC Tryz.prog T E0 Tryz.f12.ntmps (rfA (codeOf Tryz.f12)) [(48, .agg (xc ac ++ xc nxt)), (47, .v (.int .i64 (b.1 : Int))), (8, .ptr 22 0), (9, .ptr 23 0), (11, .ptr p11 0), (12, .ptr p12 0)] (outH lq 4 (103) (l.map xc) (outH hq 4 (103) (hh.map xc) ((a7, { cells := xc (nxt), sz := 4, elem := (103), st := 0 }) :: (a6, { cells := brc b, sz := 3, elem := (90), st := 0 }) :: (a4, { cells := xc (ac), sz := 4, elem := (103), st := 0 }) :: [(p12, { cells := [.v (.bool f)], sz := 1, elem := (4), st := 0 }), (p11, { cells := [.v (.int .i64 (t))], sz := 1, elem := (3), st := 0 }), (23, { cells := [outV hq 4 (hh.map xc)], sz := 1, elem := (95), st := 0 }), (22, { cells := [outV lq 4 (l.map xc)], sz := 1, elem := (95), st := 0 }), (0, { cells := [.sl k (ss.map stc)], sz := 1, elem := (24), st := 0 })]))) n (fun x e1 h1 n1 => x = .normal ∧ WC Tryz.prog T E0 Tryz.f12.ntmps (rfB (codeOf Tryz.f12)) e1 h1 n1 (fun x _ h2 n2 => x = .normal ∧ n ≤ n2 ∧ ∃ lq' hq', (23 < lq' ∧ 23 < hq' ∧ lq' ≠ hq' ∧ lq' ≠ p11 ∧ lq' ≠ p12 ∧ hq' ≠ p11 ∧ hq' ≠ p12 ∧ lq' < n2 ∧ hq' < n2) ∧ lq' ≠ a4 ∧ lq' ≠ a6 ∧ lq' ≠ a7 ∧ hq' ≠ a4 ∧ hq' ≠ a6 ∧ hq' ≠ a7 ∧ subsM (outH lq' 4 (103) ((if b.1 = t then l ++ [ac] else l).map xc) (outH hq' 4 (103) ((if b.1 = t then hh ++ [nxt] else hh).map xc) ((a7, { cells := xc (nxt), sz := 4, elem := (103), st := 0 }) :: (a6, { cells := brc b, sz := 3, elem := (90), st := 0 }) :: (a4, { cells := xc (ac), sz := 4, elem := (103), st := 0 }) :: [(p12, { cells := [.v (.bool (if b.1 = t then true else f))], sz := 1, elem := (4), st := 0 }), (p11, { cells := [.v (.int .i64 (t))], sz := 1, elem := (3), st := 0 }), (23, { cells := [outV hq' 4 ((if b.1 = t then hh ++ [nxt] else hh).map xc)], sz := 1, elem := (95), st := 0 }), (22, { cells := [outV lq' 4 ((if b.1 = t then l ++ [ac] else l).map xc)], sz := 1, elem := (95), st := 0 }), (0, { cells := [.sl k (ss.map stc)], sz := 1, elem := (24), st := 0 })]))) h2)) := by
 obtain ⟨p1, p2, p3, p4, p5, p6⟩ := hp
 obtain ⟨i1, i2, i3, i4, i5, i6, i7, i8, i9⟩ := hids
 obtain ⟨j1, j2, j3, j4, j5, j6⟩ := hid2
 refine Rg 1 J <| Ua J J <| Wn <| aH (z := 2) J <| bD (dX J) J <| aY (cH (cs' := xc ac ++ xc nxt) J J J g0 J J J J) <| Wn <| ⟨rfl, ?_⟩
 refine cO <| Rg 3 J <| Um J J <| aA (aO J J (by repeat (first | exact g0 | refine g1 om ?_ | refine aI om ?_)) J J) J ?_
 refine aA (eR J J) J <| aW (fun h51 => ?_) (fun h51 => ?_)
 rotate_left
 ·refine Wn <| bZ J <| cE <| cD <| ⟨rfl, om, lq, hq, ⟨om, om, om, om, om, om, om, om, om⟩, j1, j2, j3, j4, j5, j6, ?_⟩
  rw [if_neg h51, if_neg h51, if_neg h51]
  exact (bJ (q := lq) (sz := 4) (el := (103)) (us := l.map xc) (fun hne => by rw [bX hne]; repeat (first | exact g0 | refine g1 om ?_ | refine aI om ?_)) (bJ (q := hq) (sz := 4) (el := (103)) (us := hh.map xc) (fun hne => by rw [bX hne]; repeat (first | exact g0 | refine g1 om ?_ | refine aI om ?_)) ⟨(by repeat (first | exact g0 | refine g1 om ?_ | refine aI om ?_)), (by repeat (first | exact g0 | refine g1 om ?_ | refine aI om ?_)), (by repeat (first | exact g0 | refine g1 om ?_ | refine aI om ?_)), (by repeat (first | exact g0 | refine g1 om ?_ | refine aI om ?_)), (by repeat (first | exact g0 | refine g1 om ?_ | refine aI om ?_)), (by repeat (first | exact g0 | refine g1 om ?_ | refine aI om ?_)), (by repeat (first | exact g0 | refine g1 om ?_ | refine aI om ?_)), (by repeat (first | exact g0 | refine g1 om ?_ | refine aI om ?_)), trivial⟩))
 refine Wn <| bU J ?_
 have hra : ∀ k, rn2 22 23 n (n + k) = k + 3 := fun k => rn2_add om om
 have hr22 : rn2 22 23 n 22 = 1 := rfl
 have hr23 : rn2 22 23 n 23 = 2 := rfl
 have hrl : rn2 22 23 n lq = 0 := rn2_lt om om om
 have hrh : rn2 22 23 n hq = 0 := rn2_lt om om om
 have hrp : rn2 22 23 n p12 = 0 := rn2_lt om om om
 refine dQ (z := 13) J kR <| aJ (aO J J (by repeat (first | exact g0 | refine g1 om ?_ | refine aI om ?_)) J J) J ?_
 refine aJ (bB J J J J J) J <| aJ (aO (l := lvX ac) J J (by repeat (first | exact g0 | refine g1 om ?_ | refine aI om ?_)) J J) J ?_
 refine aJ (cS (cs := [_, _, _, _]) (rows := [[_, _, _, _]]) J J (by decide) J J J) J <| kF (outH lq 4 (103) (l.map xc) (outH hq 4 (103) (hh.map xc) ((n + 1 + 0, { cells := xc ac ++ xc nxt, sz := 8, elem := (105), st := 0 }) :: (a7, { cells := xc (nxt), sz := 4, elem := (103), st := 0 }) :: (a6, { cells := brc b, sz := 3, elem := (90), st := 0 }) :: (a4, { cells := xc (ac), sz := 4, elem := (103), st := 0 }) :: [(p12, { cells := [.v (.bool f)], sz := 1, elem := (4), st := 0 }), (p11, { cells := [.v (.int .i64 (t))], sz := 1, elem := (3), st := 0 }), (23, { cells := [outV hq 4 (hh.map xc)], sz := 1, elem := (95), st := 0 }), (22, { cells := [outV lq 4 (l.map xc)], sz := 1, elem := (95), st := 0 }), (0, { cells := [.sl k (ss.map stc)], sz := 1, elem := (24), st := 0 })]))) (subsM.get (bJ (q := lq) (sz := 4) (el := (103)) (us := l.map xc) (fun hne => by rw [bX hne]; repeat (first | exact g0 | refine g1 om ?_ | refine aI om ?_)) (bJ (q := hq) (sz := 4) (el := (103)) (us := hh.map xc) (fun hne => by rw [bX hne]; repeat (first | exact g0 | refine g1 om ?_ | refine aI om ?_)) ⟨(by repeat (first | exact g0 | refine g1 om ?_ | refine aI om ?_)), (by repeat (first | exact g0 | refine g1 om ?_ | refine aI om ?_)), (by repeat (first | exact g0 | refine g1 om ?_ | refine aI om ?_)), (by repeat (first | exact g0 | refine g1 om ?_ | refine aI om ?_)), (by repeat (first | exact g0 | refine g1 om ?_ | refine aI om ?_)), (by repeat (first | exact g0 | refine g1 om ?_ | refine aI om ?_)), (by repeat (first | exact g0 | refine g1 om ?_ | refine aI om ?_)), (by repeat (first | exact g0 | refine g1 om ?_ | refine aI om ?_)), (by repeat (first | exact g0 | refine g1 om ?_ | refine aI om ?_)), trivial⟩))) ?_
 refine WD.apM (te := ti103) (f := xc) (q := lq) (us := l) (u := ac) J J J J J (fun _ => rfl) (by decide) (by show (2 * (l.length + 1) + 256) * 64 ≤ _; omega) om (by repeat (first | rfl | refine gN om ?_ | refine cZ om ?_)) J ?_
 refine aJ (aO J J (by repeat (first | exact g0 | refine g1 om ?_ | refine aI om ?_)) J J) J ?_
 refine aJ (bB J J J J J) J <| aJ (aO (l := lvX nxt) J J (by repeat (first | exact g0 | refine g1 om ?_ | refine aI om ?_)) J J) J ?_
 refine aJ (cS (cs := [_, _, _, _]) (rows := [[_, _, _, _]]) J J (by decide) J J J) J <| kF (outH hq 4 (103) (hh.map xc) (outH (n + 1 + 2 + 3 + 4) 4 (103) ((l ++ [ac]).map xc) ((n + 1 + 0, { cells := xc ac ++ xc nxt, sz := 8, elem := (105), st := 0 }) :: (a7, { cells := xc (nxt), sz := 4, elem := (103), st := 0 }) :: (a6, { cells := brc b, sz := 3, elem := (90), st := 0 }) :: (a4, { cells := xc (ac), sz := 4, elem := (103), st := 0 }) :: [(p12, { cells := [.v (.bool f)], sz := 1, elem := (4), st := 0 }), (p11, { cells := [.v (.int .i64 (t))], sz := 1, elem := (3), st := 0 }), (23, { cells := [outV hq 4 (hh.map xc)], sz := 1, elem := (95), st := 0 }), (22, { cells := [outV lq 4 (l.map xc)], sz := 1, elem := (95), st := 0 }), (0, { cells := [.sl k (ss.map stc)], sz := 1, elem := (24), st := 0 })]))) (subsM.get (bJ (q := hq) (sz := 4) (el := (103)) (us := hh.map xc) (fun hne => by rw [bX hne]; repeat (first | exact g0 | refine g1 om ?_ | refine aI om ?_)) (bJ (q := (n + 1 + 2 + 3 + 4)) (sz := 4) (el := (103)) (us := (l ++ [ac]).map xc) (fun hne => by rw [bX hne]; repeat (first | exact g0 | refine g1 om ?_ | refine aI om ?_)) ⟨(by repeat (first | exact g0 | refine g1 om ?_ | refine aI om ?_)), (by repeat (first | exact g0 | refine g1 om ?_ | refine aI om ?_)), (by repeat (first | exact g0 | refine g1 om ?_ | refine aI om ?_)), (by repeat (first | exact g0 | refine g1 om ?_ | refine aI om ?_)), (by repeat (first | exact g0 | refine g1 om ?_ | refine aI om ?_)), (by repeat (first | exact g0 | refine g1 om ?_ | refine aI om ?_)), (by repeat (first | exact g0 | refine g1 om ?_ | refine aI om ?_)), (by repeat (first | exact g0 | refine g1 om ?_ | refine aI om ?_)), (by repeat (first | exact g0 | refine g1 om ?_ | refine aI om ?_)), trivial⟩))) ?_
 refine WD.apM (te := ti103) (f := xc) (q := hq) (us := hh) (u := nxt) J J J J J (fun _ => rfl) (by decide) (by show (2 * (hh.length + 1) + 256) * 64 ≤ _; omega) om (by repeat (first | rfl | refine gN om ?_ | refine cZ om ?_)) J ?_
 refine cU (oStV J J J J J (by repeat (first | exact g0 | refine g1 om ?_ | refine aI om ?_))) ?_
 refine cU (oStV J J J J J (by repeat (first | exact g0 | refine g1 om ?_ | refine aI om ?_))) ?_
 refine cU (cH (cs' := [.v (.bool true)]) J J J (by repeat (first | exact g0 | refine g1 om ?_ | refine aI om ?_)) J J J J) ?_
 refine bK (dZ (rn2 22 23 n) (by simp only [List.reverse_cons, List.reverse_nil, List.nil_append, List.cons_append, List.map_cons, List.map_nil, ren, keys, Nat.add_assoc, hra, hr22, hr23, hrl, hrh, hrp]; kernel_rfl)) J <| cD <| ⟨rfl, om, (n + 1 + 2 + 3 + 4), (n + 1 + 2 + 3 + 9), ⟨om, om, om, om, om, om, om, om, om⟩, om, om, om, om, om, om, ?_⟩
 rw [if_pos h51, if_pos h51, if_pos h51]
 exact (bJ (q := _) (sz := 4) (el := (103)) (us := (l ++ [ac]).map xc) (fun hne => by rw [bX hne]; repeat (first | exact g0 | refine g1 om ?_ | refine aI om ?_)) (bJ (q := _) (sz := 4) (el := (103)) (us := (hh ++ [nxt]).map xc) (fun hne => by rw [bX hne]; repeat (first | exact g0 | refine g1 om ?_ | refine aI om ?_)) ⟨(by repeat (first | exact g0 | refine g1 om ?_ | refine aI om ?_)), (by repeat (first | exact g0 | refine g1 om ?_ | refine aI om ?_)), (by repeat (first | exact g0 | refine g1 om ?_ | refine aI om ?_)), (by repeat (first | exact g0 | refine g1 om ?_ | refine aI om ?_)), (by repeat (first | exact g0 | refine g1 om ?_ | refine aI om ?_)), (by repeat (first | exact g0 | refine g1 om ?_ | refine aI om ?_)), (by repeat (first | exact g0 | refine g1 om ?_ | refine aI om ?_)), (by repeat (first | exact g0 | refine g1 om ?_ | refine aI om ?_)), trivial⟩))
end Go.Proofs.YtcblgjaomljikaaGreat
namespace Go.Proofs.YtcblgjaomljikaaGreat
open Go.Ab Go.RowKit
theorem shr_it (k s n0 p11 p12 lq0 hq0 : Nat) (ss : List Go.Ab.ST) (C : RC) (l0 h0 : List X) (t : Int) (hps : C.ps = #[47, 48]) (hasg : C.asg = rfA (codeOf Tryz.f12)) (hbody : C.body = rfB (codeOf Tryz.f12)) (hfit : Fits Tryz.f12.ntmps [(8, .ptr 22 0), (9, .ptr 23 0), (11, .ptr p11 0), (12, .ptr p12 0)] C.s0) (hs : s < ss.length) (hc : 1 ≤ (ss.getD s default).2.2.length) (hb8 : (brs ss s).length ≤ 1000) (hbn : ∀ b, b ∈ (brs ss s) → VN b.2) (hp : 23 < p11 ∧ p11 < p12 ∧ p12 < n0) (hids0 : (23 < lq0 ∧ 23 < hq0 ∧ lq0 ≠ hq0 ∧ lq0 ≠ p11 ∧ lq0 ≠ p12 ∧ hq0 ≠ p11 ∧ hq0 ≠ p12 ∧ lq0 < n0 ∧ hq0 < n0)) (hll0 : l0.length < 900000) (hhl0 : h0.length < 900000) : WIt Tryz.prog T E0 C Tryz.f108.ntmps (codeOf Tryz.f108) (argsEnv 0 [.fn (.yield (C.d + 1)) [] [], .ro [.sl k (ss.map stc)], .ro [.v (.int .i64 (s : Int))]]) (outH lq0 4 (103) (l0.map xc) (outH hq0 4 (103) (h0.map xc) ([(p12, { cells := [.v (.bool false)], sz := 1, elem := (4), st := 0 }), (p11, { cells := [.v (.int .i64 (t))], sz := 1, elem := (3), st := 0 }), (23, { cells := [outV hq0 4 (h0.map xc)], sz := 1, elem := (95), st := 0 }), (22, { cells := [outV lq0 4 (l0.map xc)], sz := 1, elem := (95), st := 0 }), (0, { cells := [.sl k (ss.map stc)], sz := 1, elem := (24), st := 0 })]))) n0 none (fun p' x e' h' n' => (x = .normal ∨ x = .ret) ∧ (∃ ls, resE e' T h' Tryz.f108.results.toList = some ls) ∧ p' = none ∧ n0 ≤ n' ∧ ∃ lq hq l hh f, (23 < lq ∧ 23 < hq ∧ lq ≠ hq ∧ lq ≠ p11 ∧ lq ≠ p12 ∧ hq ≠ p11 ∧ hq ≠ p12 ∧ lq < n' ∧ hq < n') ∧ rvs l = shrL (brs ss s) t (rvs l0) (brs ss s).length ∧ rvs hh = shrH (brs ss s) t (rvs h0) (brs ss s).length ∧ f = shrF (brs ss s) t (brs ss s).length ∧ subsM (outH lq 4 (103) (l.map xc) (outH hq 4 (103) (hh.map xc) ([(p12, { cells := [.v (.bool f)], sz := 1, elem := (4), st := 0 }), (p11, { cells := [.v (.int .i64 (t))], sz := 1, elem := (3), st := 0 }), (23, { cells := [outV hq 4 (hh.map xc)], sz := 1, elem := (95), st := 0 }), (22, { cells := [outV lq 4 (l.map xc)], sz := 1, elem := (95), st := 0 }), (0, { cells := [.sl k (ss.map stc)], sz := 1, elem := (24), st := 0 })]))) h') := by
 obtain ⟨p1, p2, p3⟩ := hp
 obtain ⟨u1, u2, u3, u4, u5, u6, u7, u8, u9⟩ := hids0
 change WIt _ _ _ _ _ _ [(0, .fn (.yield (C.d + 1)) [] []), (1, .ro [.sl k (ss.map stc)]), (2, .ro [.v (.int .i64 (s : Int))])] _ _ _ _
 refine WIt.reg (z := 1) J <| bD (dX J) J <| Wn <| WIt.reg (z := 11) J <| aA (oFa J J J J J) J <| aA (dB (l := .sl k (ss.map stc)) J J J) J <| aA (dB (l := .v (.int .i64 (s : Int))) J J J) J <| aA (bS (j := s) J J J J om om J) J <| aA (oFa J J J J J) J <| aA (dB J J J) J <| aA (bS (j := 0) J J J J om om J) J <| aA (oFa J J J J J) J <| aA (bL (b := .sl ((ss.getD s default).2.2.getD 0 default).2.1 ((brs ss s).map brc)) (dB J J J) J) J <| aA (aX J J) J <| Um J J <| Wn <| WIt.weak [(0, _), (4, _), (16, _), (17, _), (18, _)] ⟨J, J, J, J, J, trivial⟩ <| WIt.block1 ?_
 refine WIt.loopV (α := Nat × X × Nat × Nat × (List X) × (List X) × Bool) (fun ⟨i, ac, lq, hq, l, hh, f⟩ => [(0, .fn (.yield (C.d + 1)) [] []), (4, .ptr (n0 + 0) 0), (16, .sl ((ss.getD s default).2.2.getD 0 default).2.1 ((brs ss s).map brc)), (17, .v (.int .i64 ((brs ss s).length : Int))), (18, .v (.int .i64 (i : Int)))]) (fun ⟨i, ac, lq, hq, l, hh, f⟩ => outH lq 4 (103) (l.map xc) (outH hq 4 (103) (hh.map xc) (((n0 + 0), { cells := xc (ac), sz := 4, elem := (103), st := 0 }) :: [(p12, { cells := [.v (.bool f)], sz := 1, elem := (4), st := 0 }), (p11, { cells := [.v (.int .i64 (t))], sz := 1, elem := (3), st := 0 }), (23, { cells := [outV hq 4 (hh.map xc)], sz := 1, elem := (95), st := 0 }), (22, { cells := [outV lq 4 (l.map xc)], sz := 1, elem := (95), st := 0 }), (0, { cells := [.sl k (ss.map stc)], sz := 1, elem := (24), st := 0 })]))) (fun ⟨i, ac, lq, hq, l, hh, f⟩ n => i ≤ (brs ss s).length ∧ ac.1 = psum (brs ss s) i ∧ n0 < n ∧ (23 < lq ∧ 23 < hq ∧ lq ≠ hq ∧ lq ≠ p11 ∧ lq ≠ p12 ∧ hq ≠ p11 ∧ hq ≠ p12 ∧ lq < n ∧ hq < n) ∧ (lq ≠ n0 ∧ hq ≠ n0) ∧ rvs l = shrL (brs ss s) t (rvs l0) i ∧ rvs hh = shrH (brs ss s) t (rvs h0) i ∧ f = shrF (brs ss s) t i) (fun ⟨i, ac, lq, hq, l, hh, f⟩ => (brs ss s).length - i) (0, x0, lq0, hq0, l0, h0, false) ⟨J, J, J, J, J, trivial⟩ (bJ (q := lq0) (sz := 4) (el := (103)) (us := l0.map xc) (fun hne => by rw [bX hne]; repeat (first | exact g0 | refine g1 om ?_ | refine aI om ?_)) (bJ (q := hq0) (sz := 4) (el := (103)) (us := h0.map xc) (fun hne => by rw [bX hne]; repeat (first | exact g0 | refine g1 om ?_ | refine aI om ?_)) ⟨(by repeat (first | exact g0 | refine g1 om ?_ | refine aI om ?_)), (by repeat (first | exact g0 | refine g1 om ?_ | refine aI om ?_)), (by repeat (first | exact g0 | refine g1 om ?_ | refine aI om ?_)), (by repeat (first | exact g0 | refine g1 om ?_ | refine aI om ?_)), (by repeat (first | exact g0 | refine g1 om ?_ | refine aI om ?_)), (by repeat (first | exact g0 | refine g1 om ?_ | refine aI om ?_)), trivial⟩)) ⟨Nat.zero_le _, rfl, om, ⟨om, om, om, om, om, om, om, om, om⟩, ⟨om, om⟩, rfl, rfl, rfl⟩ ?_
 rintro ⟨i, ac, lq, hq, l, hh, f⟩ n hF
 change WIt _ _ _ _ _ _ [(0, .fn (.yield (C.d + 1)) [] []), (4, .ptr (n0 + 0) 0), (16, .sl ((ss.getD s default).2.2.getD 0 default).2.1 ((brs ss s).map brc)), (17, .v (.int .i64 ((brs ss s).length : Int))), (18, .v (.int .i64 (i : Int)))] (outH lq 4 (103) (l.map xc) (outH hq 4 (103) (hh.map xc) (((n0 + 0), { cells := xc (ac), sz := 4, elem := (103), st := 0 }) :: [(p12, { cells := [.v (.bool f)], sz := 1, elem := (4), st := 0 }), (p11, { cells := [.v (.int .i64 (t))], sz := 1, elem := (3), st := 0 }), (23, { cells := [outV hq 4 (hh.map xc)], sz := 1, elem := (95), st := 0 }), (22, { cells := [outV lq 4 (l.map xc)], sz := 1, elem := (95), st := 0 }), (0, { cells := [.sl k (ss.map stc)], sz := 1, elem := (24), st := 0 })]))) n _ _
 obtain ⟨hi, hac, hn, ⟨v1, v2, v3, v4, v5, v6, v7, v8, v9⟩, ⟨w1, w2⟩, hL, hH, hf⟩ := hF
 have hlen := jY (bs := (brs ss s)) (t := t) (l := rvs l0) i
 have hlen2 := jY (bs := (brs ss s)) (t := t) (l := rvs h0) i
 rw [← hL, gF, gF] at hlen
 rw [← hH, gF, gF] at hlen2
 refine WIt.reg (z := 1) J <| aA (bP J J) J <| aW (fun h19 => ?_) (fun h19 => ?_)
 rotate_left
 ·refine Wn <| WIt.cF J <| WIt.exits <| rA <| mV J ?_
  have hib : i = (brs ss s).length := by omega
  rw [hib] at hL hH hf
  exact ⟨.inl J, ⟨_, rfl⟩, rfl, om, lq, hq, l, hh, f, ⟨om, om, om, om, om, om, om, om, om⟩, hL, hH, hf, (bJ (q := lq) (sz := 4) (el := (103)) (us := l.map xc) (fun hne => by rw [bX hne]; repeat (first | exact g0 | refine g1 om ?_ | refine aI om ?_)) (bJ (q := hq) (sz := 4) (el := (103)) (us := hh.map xc) (fun hne => by rw [bX hne]; repeat (first | exact g0 | refine g1 om ?_ | refine aI om ?_)) ⟨(by repeat (first | exact g0 | refine g1 om ?_ | refine aI om ?_)), (by repeat (first | exact g0 | refine g1 om ?_ | refine aI om ?_)), (by repeat (first | exact g0 | refine g1 om ?_ | refine aI om ?_)), (by repeat (first | exact g0 | refine g1 om ?_ | refine aI om ?_)), (by repeat (first | exact g0 | refine g1 om ?_ | refine aI om ?_)), trivial⟩))⟩
 refine Wn <| WIt.cT J <| WIt.skips <| WIt.block ?_
 have hm := bO (us := (brs ss s)) (i := i) om
 have hvb := hbn _ hm
 have hpb := hO (bs := (brs ss s)) i om (fun j hj => decide_eq_true (hbn _ (bO (us := (brs ss s)) (i := j) om)))
 rw [← hac] at hpb
 have hnv : (xadd ac (nx ((brs ss s).getD i default).2)).1 = psum (brs ss s) (i + 1) := by show ac.1 + nq ((brs ss s).getD i default).2 = _; rw [hac]; rfl
 refine WIt.reg (z := 4) J <| aA (bS J J J J J om J) J <| aA (dB (l := .agg (brc ((brs ss s).getD i default))) J J J) J <| bD (dX J) J <| aY (cH (cs' := brc ((brs ss s).getD i default)) J J J g0 J J J J) <| Wn <| WIt.draw (z := 7) J kR <| aJ (aO (l := lvX ac) J J (by repeat (first | exact g0 | refine g1 om ?_ | refine aI om ?_)) J J) J ?_
 refine aJ (bB J J J J J) J <| aJ (aO (l := lvM ((brs ss s).getD i default).2) J J (by repeat (first | exact g0 | refine g1 om ?_ | refine aI om ?_)) J J) J ?_
 refine aJ (bL (b := lvX (nx ((brs ss s).getD i default).2)) (aN J (nI ((brs ss s).getD i default).2 hvb.i64.1 hvb.i64.2 hvb.all3.2.2) (bM (by intro c hc; simp only [List.mem_cons, List.not_mem_nil, or_false] at hc; rcases hc with rfl; exact pN))) J) J <| aJ (bL (b := lvX (xadd ac (nx ((brs ss s).getD i default).2))) (aN J (nS ac (nx ((brs ss s).getD i default).2) (hpb.mono om) (hvb.bd.mono om)) (bM (by intro c hc; simp only [List.mem_cons, List.not_mem_nil, or_false] at hc; rcases hc with rfl | rfl; exact pN; exact pN))) J) J <| WD.S (dX J) J <| cU (cH (cs' := xc (xadd ac (nx ((brs ss s).getD i default).2))) J J J g0 J J J J) <| bK (dZ (rn n) (by simp only [List.reverse_cons, List.reverse_nil, List.nil_append, List.cons_append, List.map_cons, List.map_nil, ren, keys, Nat.add_assoc, kY, show rn n (n0 + 0) = 0 from mG om, show rn n n0 = 0 from mG om]; kernel_rfl)) J <| WIt.weak [(0, _), (4, _), (6, _), (7, _), (16, _), (17, _), (18, _)] ⟨J, J, J, J, J, J, J, trivial⟩ <| WIt.assoc <| WIt.regy (z := 8) J <| WYd.U (dU J) J <| WYd.U (bB J J J J J) J <| WYd.U (aO J J (by repeat (first | exact g0 | refine g1 om ?_ | refine aI om ?_)) J J) J ?_
 refine WYd.U (aO (l := lvX ac) J J (by repeat (first | exact g0 | refine g1 om ?_ | refine aI om ?_)) J J) J ?_
 refine WYd.U (aO (l := lvX (xadd ac (nx ((brs ss s).getD i default).2))) J J (by repeat (first | exact g0 | refine g1 om ?_ | refine aI om ?_)) J J) J ?_
 refine WYd.U (fH (cs := xc ac ++ xc (xadd ac (nx ((brs ss s).getD i default).2))) J J J J J) J <| WYd.weakH (outH lq 4 (103) (l.map xc) (outH hq 4 (103) (hh.map xc) (((n + 1 + 4 + 5), { cells := xc ((xadd ac (nx ((brs ss s).getD i default).2))), sz := 4, elem := (103), st := 0 }) :: ((n + 1 + 2), { cells := brc ((brs ss s).getD i default), sz := 3, elem := (90), st := 0 }) :: ((n0 + 0), { cells := xc (ac), sz := 4, elem := (103), st := 0 }) :: [(p12, { cells := [.v (.bool f)], sz := 1, elem := (4), st := 0 }), (p11, { cells := [.v (.int .i64 (t))], sz := 1, elem := (3), st := 0 }), (23, { cells := [outV hq 4 (hh.map xc)], sz := 1, elem := (95), st := 0 }), (22, { cells := [outV lq 4 (l.map xc)], sz := 1, elem := (95), st := 0 }), (0, { cells := [.sl k (ss.map stc)], sz := 1, elem := (24), st := 0 })]))) (subsM.get ((bJ (q := lq) (sz := 4) (el := (103)) (us := l.map xc) (fun hne => by rw [bX hne]; repeat (first | exact g0 | refine g1 om ?_ | refine aI om ?_)) (bJ (q := hq) (sz := 4) (el := (103)) (us := hh.map xc) (fun hne => by rw [bX hne]; repeat (first | exact g0 | refine g1 om ?_ | refine aI om ?_)) ⟨(by repeat (first | exact g0 | refine g1 om ?_ | refine aI om ?_)), (by repeat (first | exact g0 | refine g1 om ?_ | refine aI om ?_)), (by repeat (first | exact g0 | refine g1 om ?_ | refine aI om ?_)), (by repeat (first | exact g0 | refine g1 om ?_ | refine aI om ?_)), (by repeat (first | exact g0 | refine g1 om ?_ | refine aI om ?_)), (by repeat (first | exact g0 | refine g1 om ?_ | refine aI om ?_)), (by repeat (first | exact g0 | refine g1 om ?_ | refine aI om ?_)), (by repeat (first | exact g0 | refine g1 om ?_ | refine aI om ?_)), trivial⟩)))) ?_
 refine WYd.Y (x1 := .v (.int .i64 ((brs ss s).getD i default).1)) (x2 := .agg (xc ac ++ xc (xadd ac (nx ((brs ss s).getD i default).2)))) (p1 := 47) (p2 := 48) (asg := rfA (codeOf Tryz.f12)) (body := rfB (codeOf Tryz.f12)) (e0 := [(8, .ptr 22 0), (9, .ptr 23 0), (11, .ptr p11 0), (12, .ptr p12 0)]) (N0 := Tryz.f12.ntmps) J J J hps hasg hbody J hfit J J (shr_round k ((n + 1 + 4 + 7) + 8) (n0 + 0) (n + 1 + 2) (n + 1 + 4 + 5) p11 p12 lq hq ss ((brs ss s).getD i default) ac (xadd ac (nx ((brs ss s).getD i default).2)) l hh f t ⟨om, om, om, om, om, om⟩ ⟨om, om, om, om, om, om, om, om, om⟩ ⟨om, om, om, om, om, om⟩ om om) ?_
 rintro x h' n' ⟨rfl, hn', lq', hq', ⟨r1, r2, r3, r4, r5, r6, r7, r8, r9⟩, s1, s2, s3, s4, s5, s6, hsub⟩
 refine WN.O <| jA (outH lq' 4 (103) ((if ((brs ss s).getD i default).1 = t then l ++ [ac] else l).map xc) (outH hq' 4 (103) ((if ((brs ss s).getD i default).1 = t then hh ++ [(xadd ac (nx ((brs ss s).getD i default).2))] else hh).map xc) (((n + 1 + 4 + 5), { cells := xc ((xadd ac (nx ((brs ss s).getD i default).2))), sz := 4, elem := (103), st := 0 }) :: ((n + 1 + 2), { cells := brc ((brs ss s).getD i default), sz := 3, elem := (90), st := 0 }) :: ((n0 + 0), { cells := xc (ac), sz := 4, elem := (103), st := 0 }) :: [(p12, { cells := [.v (.bool (if ((brs ss s).getD i default).1 = t then true else f))], sz := 1, elem := (4), st := 0 }), (p11, { cells := [.v (.int .i64 (t))], sz := 1, elem := (3), st := 0 }), (23, { cells := [outV hq' 4 ((if ((brs ss s).getD i default).1 = t then hh ++ [(xadd ac (nx ((brs ss s).getD i default).2))] else hh).map xc)], sz := 1, elem := (95), st := 0 }), (22, { cells := [outV lq' 4 ((if ((brs ss s).getD i default).1 = t then l ++ [ac] else l).map xc)], sz := 1, elem := (95), st := 0 }), (0, { cells := [.sl k (ss.map stc)], sz := 1, elem := (24), st := 0 })]))) (subsM.get hsub) <| aA (cW J) J <| Wn <| WIt.weak [(0, _), (4, _), (7, _), (16, _), (17, _), (18, _), (34, _)] ⟨J, J, J, J, J, J, J, trivial⟩ <| WIt.cF J <| WIt.skips <| WIt.reg1z (z := 2) J <| aA (aO (l := lvX (xadd ac (nx ((brs ss s).getD i default).2))) J J (by repeat (first | exact g0 | refine g1 om ?_ | refine aI om ?_)) J J) J ?_
 refine aY (cH (cs' := xc (xadd ac (nx ((brs ss s).getD i default).2))) J J J (by repeat (first | exact g0 | refine g1 om ?_ | refine aI om ?_)) J J J J) ?_
 refine Wn <| mD <| WIt.reg1z (z := 2) J <| aA (cI (((i + 1 : Nat) : Int)) (aR J J om) om) J <| Um J J <| Wn <| nD <| ⟨⟨i + 1, (xadd ac (nx ((brs ss s).getD i default).2)), lq', hq', (if ((brs ss s).getD i default).1 = t then l ++ [ac] else l), (if ((brs ss s).getD i default).1 = t then hh ++ [(xadd ac (nx ((brs ss s).getD i default).2))] else hh), (if ((brs ss s).getD i default).1 = t then true else f)⟩, ⟨J, J, J, J, J, trivial⟩, (bJ (q := lq') (sz := 4) (el := (103)) (us := (if ((brs ss s).getD i default).1 = t then l ++ [ac] else l).map xc) (fun hne => by rw [bX hne]; repeat (first | exact g0 | refine g1 om ?_ | refine aI om ?_)) (bJ (q := hq') (sz := 4) (el := (103)) (us := (if ((brs ss s).getD i default).1 = t then hh ++ [(xadd ac (nx ((brs ss s).getD i default).2))] else hh).map xc) (fun hne => by rw [bX hne]; repeat (first | exact g0 | refine g1 om ?_ | refine aI om ?_)) ⟨(by repeat (first | exact g0 | refine g1 om ?_ | refine aI om ?_)), (by repeat (first | exact g0 | refine g1 om ?_ | refine aI om ?_)), (by repeat (first | exact g0 | refine g1 om ?_ | refine aI om ?_)), (by repeat (first | exact g0 | refine g1 om ?_ | refine aI om ?_)), (by repeat (first | exact g0 | refine g1 om ?_ | refine aI om ?_)), (by repeat (first | exact g0 | refine g1 om ?_ | refine aI om ?_)), trivial⟩)), ⟨om, by show ac.1 + nq ((brs ss s).getD i default).2 = _; rw [hac]; rfl, om, ⟨om, om, om, om, om, om, om, om, om⟩, ⟨om, om⟩, ?_, ?_, ?_⟩, by show (brs ss s).length - (i + 1) < (brs ss s).length - i; omega⟩
 ·rw [rvs_if, hL, hac]; rfl
 ·rw [rvs_if, hH, hnv]; rfl
 ·rw [hf]; rfl
end Go.Proofs.YtcblgjaomljikaaGreat
namespace Go.Proofs.YtcblgjaomljikaaGreat
open Go.Ab Go.RowKit
theorem shr1_run (k : Nat) (ss : List Go.Ab.ST) (z : Int) : Run Tryz.prog T E0 (.call 54 [.v (.int .i64 (z : Int)), .ro [.sl k (ss.map stc)]] (.v (.bool (offS ss.length z)))) := by
 refine bC Tryz.func54 J J (cX J) <| Rg 1 J <| Ua J J <| Wn <| Rg 10 J <| Um J J <| aA (bP J J) J <| aW (fun h5 => ?_) (fun h5 => ?_)
 ·refine Um J J <| K1 J J <| K1 J J <| K1 J J <| K1 J J <| K1 J J <| aA (bG J J) J <| Ua J J <| Wn <| aM <| post (n := 0) (.inr J) J ?_ dD
  exact congrArg (fun z => LV.v (.bool z)) (by first | (show true = _; unfold offS; rw [decide_eq_true h5]; rfl) | (unfold offS; rw [decide_eq_false h5, Bool.false_or]))
 refine Um J J <| aE J (dU J) J <| aE J (oFa J J J J J) J <| aE J (dB (l := .sl k (ss.map stc)) J J J) J <| aE J (aX J J) J <| aE J (fJ J J) J <| aA (bF J J) J <| Ua J J <| Wn <| aM <| post (n := 0) (.inr J) J ?_ dD
 exact congrArg (fun z => LV.v (.bool z)) (by first | (show true = _; unfold offS; rw [decide_eq_true h5]; rfl) | (unfold offS; rw [decide_eq_false h5, Bool.false_or]))
theorem simshr_run (k kp : Nat) (ss : List Go.Ab.ST) (p : List Int) (hI : ∀ s, s ∈ ss → IS s) (lp : p.length < 1099511627776) : Run Tryz.prog T E0 (.call 12 [lvMo k ss, lvL kp p] (shrO ss p)) := by
 refine WLp.call typesOk eqOkS Tryz.checked.mixed Tryz.func12 J J (cX J) ?_ T3_data
 change WLp _ _ _ _ _ [(0, lvMo k ss), (1, lvL kp p)] _ _ _
 refine WLp.reg (z := 4) J <| bD (dY J J) J <| Ua J J <| Ua J J <| Ua J J <| Wn <| WLp.assoc <| WLp.reg (z := 3) J <| aA (aO (l := lvMo k ss) J J gG J J) J ?_
 refine aA (aN J (rM k 0 0 0 ss [] [] [] hI (by show 0 < _; omega) (by show 0 < _; omega) (by intro a ha; cases ha) (by show 0 < _; omega)) (bM (by intro c hc; simp only [List.mem_cons, List.not_mem_nil, or_false] at hc; rcases hc with rfl | rfl | rfl | rfl; exact pN; exact (.sl _ _ (by simp)); exact (.sl _ _ (by simp)); exact (.sl _ _ (by simp))))) J <| Ua J J <| Wn <| WLp.assoc <| WLp.reg (z := 2) J <| Um J J <| aA (fS J J) J <| aW (fun h18 => ?_) (fun h18 => ?_)
 ·refine Wn <| WLp.cT J <| WLp.assoc <| WLp.reg (z := 4) J <| Um J J <| Ua J J <| Ua J J <| Ua J J <| Wn <| WLp.rets <| ⟨.inr J, _, rfl, ?_⟩
  first | exact lA h18 | exact dO ha (fU h22) | exact dO ha (fV h26) | exact dO ha (gW h31) | exact lB ha (i := i) hil (hf'.symm.trans h62) | exact gQ ha hform hall ho1 h71 | exact gR ha hform hall ho1 h71 ho3 h79 | exact gS ha hform hall ho1 h71 ho3 h79
 refine Wn <| WLp.cF J <| WLp.skips <| WLp.assoc ?_
 have ha := Classical.not_not.1 h18
 obtain ⟨hV, _⟩ := ask0 ha
 have hC := Chn.of hV
 refine WLp.reg (z := 13) J <| Um J J <| aA (aX J J) J <| aA (bP J J) J <| aW (fun h22 => ?_) (fun h22 => ?_)
 ·refine Um J J <| K1 J J <| K1 J J <| K1 J J <| aA (bG J J) J <| Um J J <| K1 J J <| K1 J J <| K1 J J <| aA (bG J J) J <| Wn <| WLp.weak [(1, _), (2, _), (4, _), (5, _), (6, _), (32, _)] ⟨J, J, J, J, J, J, trivial⟩ <| WLp.cT J <| WLp.assoc <| WLp.reg (z := 3) J <| Ua J J <| Ua J J <| Ua J J <| Wn <| WLp.rets <| ⟨.inr J, _, rfl, ?_⟩
  first | exact lA h18 | exact dO ha (fU h22) | exact dO ha (fV h26) | exact dO ha (gW h31) | exact lB ha (i := i) hil (hf'.symm.trans h62) | exact gQ ha hform hall ho1 h71 | exact gR ha hform hall ho1 h71 ho3 h79 | exact gS ha hform hall ho1 h71 ho3 h79
 refine Um J J <| aE J (dU J) J <| aE J (aX J J) J <| aE J (dG J J) J <| aW (fun h26 => ?_) (fun h26 => ?_)
 ·refine aA (bF J J) J <| Um J J <| K1 J J <| K1 J J <| K1 J J <| aA (bG J J) J <| Wn <| WLp.weak [(1, _), (2, _), (4, _), (5, _), (6, _), (32, _)] ⟨J, J, J, J, J, J, trivial⟩ <| WLp.cT J <| WLp.assoc <| WLp.reg (z := 3) J <| Ua J J <| Ua J J <| Ua J J <| Wn <| WLp.rets <| ⟨.inr J, _, rfl, ?_⟩
  first | exact lA h18 | exact dO ha (fU h22) | exact dO ha (fV h26) | exact dO ha (gW h31) | exact lB ha (i := i) hil (hf'.symm.trans h62) | exact gQ ha hform hall ho1 h71 | exact gR ha hform hall ho1 h71 ho3 h79 | exact gS ha hform hall ho1 h71 ho3 h79
 refine aA (bF J J) J <| Um J J <| aE J (dU J) J <| aE J (oMf J) J <| aE J (kV [0] [lvL kp p, .fn (.func 54) [] [.ro [.sl k (ss.map stc)]]] J (coni_run kp p 54 [.ro [.sl k (ss.map stc)]] (offS ss.length) (by intro c hc; rw [List.mem_singleton] at hc; subst hc; exact .ro _ (by intro c hc; rw [List.mem_singleton] at hc; subst hc; exact .sl _ _ (bW mZ))) om (fun a ha => shr1_run k ss a)) (.data (mH _ _) (.fn .nil (.box (ob := { cells := [.sl k (ss.map stc)], sz := 1, elem := (24), st := 0 }) gG (by simp) (by show (0 : Nat) ≠ 2; decide) (by intro c hc; rw [List.mem_singleton] at hc; subst hc; exact .sl _ _ (bW mZ)) .nil) .nil)) (.cons gG (by show (0 : Nat) ≠ 2; decide) pD)) J ?_
 refine dC (fun h31 => ?_) (fun h31 => ?_)
 ·refine aA (bF J J) J <| Wn <| WLp.weak [(1, _), (2, _), (4, _), (5, _), (6, _), (32, _)] ⟨J, J, J, J, J, J, trivial⟩ <| WLp.cT J <| WLp.assoc <| WLp.reg (z := 3) J <| Ua J J <| Ua J J <| Ua J J <| Wn <| WLp.rets <| ⟨.inr J, _, rfl, ?_⟩
  first | exact lA h18 | exact dO ha (fU h22) | exact dO ha (fV h26) | exact dO ha (gW h31) | exact lB ha (i := i) hil (hf'.symm.trans h62) | exact gQ ha hform hall ho1 h71 | exact gR ha hform hall ho1 h71 ho3 h79 | exact gS ha hform hall ho1 h71 ho3 h79
 refine aA (bF J J) J <| Wn <| WLp.weak [(1, _), (2, _), (4, _), (5, _), (6, _), (32, _)] ⟨J, J, J, J, J, J, trivial⟩ <| WLp.cF J <| WLp.skips ?_
 have hdl : (p.drop 1).length = p.length - 1 := List.length_drop
 have hform := formS_4 h22 h26 h31
 have hb8 : ∀ i, i < p.length → (bsAt ss p i).length ≤ 8 := fun i hi => by have := lN h31 hi; exact (kG hV om).len.2
 refine WLp.reg (z := 2) J <| bD (dX J) J <| bD (dX J) J <| Wn <| WLp.assoc <| WLp.reg (z := 4) J <| Um J J <| aA (bL (b := lvL kp (p.drop 1)) (oSlLo (i := 1) J J J (fN (f := ic) (n := 1) (fun _ => rfl)) J J (by rw [List.length_map]; omega)) (by rw [← List.map_drop])) J <| aA (aX J J) J <| Um J J <| Wn <| WLp.block <| WLp.loopV (α := Nat × Nat × Nat × (List X) × (List X)) (fun ⟨i, lq, hq, l, hh⟩ => [(1, lvL kp p), (2, .ptr 0 0), (8, .ptr 22 0), (9, .ptr 23 0), (34, lvL kp (p.drop 1)), (35, .v (.int .i64 ((p.drop 1).length : Int))), (36, .v (.int .i64 (i : Int)))]) (fun ⟨i, lq, hq, l, hh⟩ => outH lq 4 (103) (l.map xc) (outH hq 4 (103) (hh.map xc) ([(23, { cells := [outV hq 4 (hh.map xc)], sz := 1, elem := (95), st := 0 }), (22, { cells := [outV lq 4 (l.map xc)], sz := 1, elem := (95), st := 0 }), (0, { cells := [.sl k (ss.map stc)], sz := 1, elem := (24), st := 0 })]))) (fun ⟨i, lq, hq, l, hh⟩ n => i ≤ (p.drop 1).length ∧ (23 < lq ∧ 23 < hq ∧ lq ≠ hq ∧ lq < n ∧ hq < n) ∧ rvs l = shLs ss p i ∧ rvs hh = shHs ss p i ∧ (∀ a, a < i → okSt ss p a = true)) (fun ⟨i, lq, hq, l, hh⟩ => (p.drop 1).length - i) (0, 24, 25, [], []) ⟨J, J, J, J, J, J, J, trivial⟩ (bJ (q := 24) (sz := 4) (el := (103)) (us := ([] : List X).map xc) (fun hne => absurd J hne) (bJ (q := 25) (sz := 4) (el := (103)) (us := ([] : List X).map xc) (fun hne => absurd J hne) ⟨(by repeat (first | exact g0 | refine g1 om ?_ | refine aI om ?_)), (by repeat (first | exact g0 | refine g1 om ?_ | refine aI om ?_)), (by repeat (first | exact g0 | refine g1 om ?_ | refine aI om ?_)), trivial⟩)) ⟨Nat.zero_le _, ⟨om, om, om, om, om⟩, rfl, rfl, fun a ha => absurd ha om⟩ ?_
 rintro ⟨i, lq, hq, l, hh⟩ n hF
 change WLp _ _ _ _ _ [(1, lvL kp p), (2, .ptr 0 0), (8, .ptr 22 0), (9, .ptr 23 0), (34, lvL kp (p.drop 1)), (35, .v (.int .i64 ((p.drop 1).length : Int))), (36, .v (.int .i64 (i : Int)))] (outH lq 4 (103) (l.map xc) (outH hq 4 (103) (hh.map xc) ([(23, { cells := [outV hq 4 (hh.map xc)], sz := 1, elem := (95), st := 0 }), (22, { cells := [outV lq 4 (l.map xc)], sz := 1, elem := (95), st := 0 }), (0, { cells := [.sl k (ss.map stc)], sz := 1, elem := (24), st := 0 })]))) n _
 obtain ⟨hi, ⟨v1, v2, v3, v4, v5⟩, hL, hH, hok⟩ := hF
 have hlen := kZ ss p hb8 i om
 rw [← hL, ← hH, gF, gF] at hlen
 refine WLp.regF (z := 1) J <| aA (bP J J) J <| aW (fun h37 => ?_) (fun h37 => ?_)
 ·refine Wn <| Fz.same [(1, _), (2, _), (8, _), (9, _), (34, _), (35, _), (36, _), (37, _)] _ ⟨J, J, J, J, J, J, J, J, trivial⟩ (fun _ _ h => h) <| WLp.cT J <| WLp.skips <| WLp.block ?_
  have hpi := lN h31 (i := i) om
  have hil : i < p.length - 1 := by omega
  refine WLp.reg (z := 6) J <| Um J J <| aA (bS J J J J J om J) J <| aA (cI ((p.getD (i + 1) default)) (dB J J J) drop1_get) J <| bD (dX J) J <| Ua J J <| aY (cH (cs' := [.v (.int .i64 ((p.getD (i + 1) default) : Int))]) J J J g0 J J J J) <| Wn <| WLp.reg (z := 2) J <| bD (dX J) J <| aY (cH (cs' := [.v (.bool false)]) J J J g0 J J J J) <| Wn <| WLp.assoc <| WLp.draw (z := 6) J kR <| aJ (aO (l := lvMo k ss) J J (by repeat (first | exact g0 | refine g1 om ?_ | refine aI om ?_)) J J) J ?_
  refine Dm J J <| Dm J J <| aJ (bS (j := i) J J J J om om J) J <| aJ (cI ((((p.getD i default).toNat : Nat) : Int)) (dB J J J) om) J <| aJ (aN J (shares_run k (p.getD i default).toNat ss) (bM (by intro c hc; simp only [List.mem_cons, List.not_mem_nil, or_false] at hc; rcases hc with rfl | rfl; exact pN; exact (.v _)))) J <| bK (aV kR) J <| WLp.weak [(1, _), (2, _), (8, _), (9, _), (11, _), (12, _), (34, _), (35, _), (36, _), (46, _)] ⟨J, J, J, J, J, J, J, J, J, J, trivial⟩ <| WLp.block <| WLp.range (gf := 108) J Tryz.func108 J J (cX J) ?_
  intro C hps hasg hbody hfit
  refine WIt.weakM (outH lq 4 (103) (l.map xc) (outH hq 4 (103) (hh.map xc) ([((n + 1 + 6 + 0), { cells := [.v (.bool false)], sz := 1, elem := (4), st := 0 }), ((n + 1 + (0 + 1 + 1 + 1)), { cells := [.v (.int .i64 ((p.getD (i + 1) default)))], sz := 1, elem := (3), st := 0 }), (23, { cells := [outV hq 4 (hh.map xc)], sz := 1, elem := (95), st := 0 }), (22, { cells := [outV lq 4 (l.map xc)], sz := 1, elem := (95), st := 0 }), (0, { cells := [.sl k (ss.map stc)], sz := 1, elem := (24), st := 0 })]))) ((bJ (q := lq) (sz := 4) (el := (103)) (us := l.map xc) (fun hne => by rw [bX hne]; repeat (first | exact g0 | refine g1 om ?_ | refine aI om ?_)) (bJ (q := hq) (sz := 4) (el := (103)) (us := hh.map xc) (fun hne => by rw [bX hne]; repeat (first | exact g0 | refine g1 om ?_ | refine aI om ?_)) ⟨(by repeat (first | exact g0 | refine g1 om ?_ | refine aI om ?_)), (by repeat (first | exact g0 | refine g1 om ?_ | refine aI om ?_)), (by repeat (first | exact g0 | refine g1 om ?_ | refine aI om ?_)), (by repeat (first | exact g0 | refine g1 om ?_ | refine aI om ?_)), (by repeat (first | exact g0 | refine g1 om ?_ | refine aI om ?_)), trivial⟩))) ?_
  refine WIt.mono (shr_it k (p.getD i default).toNat (n + 1 + 6 + 2 + 6) (n + 1 + (0 + 1 + 1 + 1)) (n + 1 + 6 + 0) lq hq ss C l hh (p.getD (i + 1) default) hps hasg hbody (hfit.weak ⟨J, J, J, J, trivial⟩) om (hC.one _ om) (hC.few _ om) (hC.num _ om) ⟨om, om, om⟩ ⟨om, om, om, om, om, om, om, om, om⟩ om om) ?_
  rintro p' x e' h' n' ⟨hx, hls, rfl, hn', lq', hq', l', hh', f, ⟨r1, r2, r3, r4, r5, r6, r7, r8, r9⟩, hL', hH', hf', hsub⟩
  refine ⟨hx, hls, ?_⟩
  refine mC <| WLp.weakM (outH lq' 4 (103) (l'.map xc) (outH hq' 4 (103) (hh'.map xc) ([((n + 1 + 6 + 0), { cells := [.v (.bool f)], sz := 1, elem := (4), st := 0 }), ((n + 1 + (0 + 1 + 1 + 1)), { cells := [.v (.int .i64 ((p.getD (i + 1) default)))], sz := 1, elem := (3), st := 0 }), (23, { cells := [outV hq' 4 (hh'.map xc)], sz := 1, elem := (95), st := 0 }), (22, { cells := [outV lq' 4 (l'.map xc)], sz := 1, elem := (95), st := 0 }), (0, { cells := [.sl k (ss.map stc)], sz := 1, elem := (24), st := 0 })]))) hsub <| WLp.reg (z := 2) J <| aA (aO J J (by repeat (first | exact g0 | refine g1 om ?_ | refine aI om ?_)) J J) J ?_
  refine dC (fun h62 => ?_) (fun h62 => ?_)
  rotate_left
  ·refine aA (cW J) J <| Wn <| WLp.cT1 J <| WLp.reg (z := 3) J <| Ua J J <| Ua J J <| Ua J J <| Wn <| WLp.weak [(4, _), (5, _), (6, _)] ⟨J, J, J, trivial⟩ <| WLp.ret <| qI <| bE <| qI <| ⟨.inr J, _, rfl, ?_⟩
   first | exact lA h18 | exact dO ha (fU h22) | exact dO ha (fV h26) | exact dO ha (gW h31) | exact lB ha (i := i) hil (hf'.symm.trans h62) | exact gQ ha hform hall ho1 h71 | exact gR ha hform hall ho1 h71 ho3 h79 | exact gS ha hform hall ho1 h71 ho3 h79
  refine aA (cW J) J <| Wn <| WLp.cF1 J <| WLp.skip <| mC <| WLp.reg1z (z := 2) J <| aA (cI (((i + 1 : Nat) : Int)) (aR J J om) om) J <| Um J J <| Wn <| aG <| ⟨⟨i + 1, lq', hq', l', hh'⟩, ⟨J, J, J, J, J, J, J, trivial⟩, (bJ (q := lq') (sz := 4) (el := (103)) (us := l'.map xc) (fun hne => by rw [bX hne]; repeat (first | exact g0 | refine g1 om ?_ | refine aI om ?_)) (bJ (q := hq') (sz := 4) (el := (103)) (us := hh'.map xc) (fun hne => by rw [bX hne]; repeat (first | exact g0 | refine g1 om ?_ | refine aI om ?_)) ⟨(by repeat (first | exact g0 | refine g1 om ?_ | refine aI om ?_)), (by repeat (first | exact g0 | refine g1 om ?_ | refine aI om ?_)), (by repeat (first | exact g0 | refine g1 om ?_ | refine aI om ?_)), trivial⟩)), ⟨om, ⟨om, om, om, om, om⟩, ?_, ?_, fun a ha => ?_⟩, by show (p.drop 1).length - (i + 1) < (p.drop 1).length - i; omega⟩
  ·rw [hL', hL]; rfl
  ·rw [hH', hH]; rfl
  ·by_cases e : a = i
   ·rw [e]; exact hf'.symm.trans h62
   ·exact hok a om
 refine Wn <| Fz.weakH (outH lq 4 (103) (l.map xc) ((22, { cells := [] ++ [outV lq 4 (l.map xc)], sz := 1, elem := (95), st := 0 }) :: outH hq 4 (103) (hh.map xc) [(23, { cells := [outV hq 4 (hh.map xc)], sz := 1, elem := (95), st := 0 })])) (subsM.get (bJ (q := lq) (sz := 4) (el := (103)) (us := l.map xc) (fun hne => by rw [bX hne]; repeat (first | exact g0 | refine g1 om ?_ | refine aI om ?_)) ⟨(by repeat (first | exact g0 | refine g1 om ?_ | refine aI om ?_)), bJ (q := hq) (sz := 4) (el := (103)) (us := hh.map xc) (fun hne => by rw [bX hne]; repeat (first | exact g0 | refine g1 om ?_ | refine aI om ?_)) ⟨(by repeat (first | exact g0 | refine g1 om ?_ | refine aI om ?_)), trivial⟩⟩)) ?_
 refine Fz.cellR (A := []) [(1, _), (2, _), (8, _), (9, _), (34, _), (35, _), (36, _), (37, _)] ⟨J, J, J, J, J, J, J, J, trivial⟩ om (by decide) (fN (f := xc) (n := 4) fun _ => rfl) (bW (f := xc) dxc) (cZ om (gN om J)) ?_
 rw [nP]
 refine WLp.cF J <| WLp.exits <| aQ <| afterT_exit J <| WLp.assoc ?_
 have hie : i = p.length - 1 := by omega
 rw [hie] at hL hH
 have hall := okP_of (ss := ss) (p := p) (fun a ha => hok a om)
 obtain ⟨oo, hoo⟩ : ∃ oo, (l.mapM fun x => outN x.1) = oo := ⟨_, rfl⟩
 have ho1 : (shLs ss p (p.length - 1)).mapM outN = oo := by rw [← hL, ← outs_rvs]; exact hoo
 refine WLp.regF (z := 7) J <| aA (aO (l := .sl (kd l.length) (l.map xc)) J J (by repeat (first | exact g0 | refine g1 om ?_ | refine aI om ?_)) J J) J ?_
 refine aA (bL (b := .tup [.sl (kd (oo.getD []).length) ((oo.getD []).map mc), .v (.int .i64 (if oo.isSome = true then 0 else 3))]) (aN J (nouts_run (kd l.length) l om) (bM (by intro c hc; simp only [List.mem_cons, List.not_mem_nil, or_false] at hc; rcases hc with rfl; exact (.sl _ _ (bW dxc))))) (by rw [← hoo]; rfl)) J <| Um J J <| aA (dN J J) J <| aA (dN J J) J <| Ua J J <| Ua J J <| Wn <| Fz.weakH (outH hq 4 (103) (hh.map xc) ((23, { cells := [] ++ [outV hq 4 (hh.map xc)], sz := 1, elem := (95), st := 0 }) :: [])) (subsM.get (bJ (q := hq) (sz := 4) (el := (103)) (us := hh.map xc) (fun hne => by rw [bX hne]; repeat (first | exact g0 | refine g1 om ?_ | refine aI om ?_)) ⟨(by repeat (first | exact g0 | refine g1 om ?_ | refine aI om ?_)), trivial⟩)) ?_
 refine Fz.cellR (A := []) [(4, _), (6, _), (9, _)] ⟨J, J, J, trivial⟩ om (by decide) (fN (f := xc) (n := 4) fun _ => rfl) (bW (f := xc) dxc) J ?_
 rw [nP]
 refine WLp.assoc <| WLp.reg (z := 2) J <| Um J J <| aA (fS J J) J <| aW (fun h71 => ?_) (fun h71 => ?_)
 ·refine Wn <| WLp.cT J <| WLp.assoc <| WLp.reg (z := 4) J <| Um J J <| Ua J J <| Ua J J <| Ua J J <| Wn <| WLp.rets <| ⟨.inr J, _, rfl, ?_⟩
  first | exact lA h18 | exact dO ha (fU h22) | exact dO ha (fV h26) | exact dO ha (gW h31) | exact lB ha (i := i) hil (hf'.symm.trans h62) | exact gQ ha hform hall ho1 h71 | exact gR ha hform hall ho1 h71 ho3 h79 | exact gS ha hform hall ho1 h71 ho3 h79
 refine Wn <| WLp.cF J <| WLp.skips <| WLp.assoc ?_
 obtain ⟨o2, ho2⟩ : ∃ o2, (hh.mapM fun x => outN x.1) = o2 := ⟨_, rfl⟩
 have ho3 : (shHs ss p (p.length - 1)).mapM outN = o2 := by rw [← hH, ← outs_rvs]; exact ho2
 refine WLp.reg (z := 7) J <| aA (aO (l := .sl (kd hh.length) (hh.map xc)) J J gG J J) J ?_
 refine aA (bL (b := .tup [.sl (kd (o2.getD []).length) ((o2.getD []).map mc), .v (.int .i64 (if o2.isSome = true then 0 else 3))]) (aN J (nouts_run (kd hh.length) hh om) (bM (by intro c hc; simp only [List.mem_cons, List.not_mem_nil, or_false] at hc; rcases hc with rfl; exact (.sl _ _ (bW dxc))))) (by rw [← ho2]; rfl)) J <| Um J J <| aA (dN J J) J <| aA (dN J J) J <| Ua J J <| Ua J J <| Wn <| WLp.assoc <| WLp.reg (z := 2) J <| Um J J <| aA (fS J J) J <| aW (fun h79 => ?_) (fun h79 => ?_)
 ·refine Wn <| WLp.cT J <| WLp.assoc <| WLp.reg (z := 4) J <| Um J J <| Ua J J <| Ua J J <| Ua J J <| Wn <| WLp.rets <| ⟨.inr J, _, rfl, ?_⟩
  first | exact lA h18 | exact dO ha (fU h22) | exact dO ha (fV h26) | exact dO ha (gW h31) | exact lB ha (i := i) hil (hf'.symm.trans h62) | exact gQ ha hform hall ho1 h71 | exact gR ha hform hall ho1 h71 ho3 h79 | exact gS ha hform hall ho1 h71 ho3 h79
 refine Wn <| WLp.cF J <| WLp.skips <| WLp.reg (z := 5) J <| Um J J <| Um J J <| Ua J J <| Ua J J <| Ua J J <| Wn <| WLp.weak [(4, _), (5, _), (6, _)] ⟨J, J, J, trivial⟩ <| WLp.ret <| ⟨.inr J, _, rfl, ?_⟩
 first | exact lA h18 | exact dO ha (fU h22) | exact dO ha (fV h26) | exact dO ha (gW h31) | exact lB ha (i := i) hil (hf'.symm.trans h62) | exact gQ ha hform hall ho1 h71 | exact gR ha hform hall ho1 h71 ho3 h79 | exact gS ha hform hall ho1 h71 ho3 h79
end Go.Proofs.YtcblgjaomljikaaGreat
namespace Go.Proofs.YtcblgjaomljikaaGreat
open Go.Ab Go.RowKit
theorem rI (k : Nat) (ss : List Go.Ab.ST) (z : Int) : Run Tryz.prog T E0 (.call 47 [lvMo k ss, .v (.int .i64 (z : Int))] (.v (.bool (!offS ss.length z)))) := by
 refine bC Tryz.func47 J J (cX J) <| Rg 2 J <| bD (dY J J) J <| Ua J J <| Wn <| Rg 10 J <| Um J J <| aA (fJ J J) J <| aW (fun h6 => ?_) (fun h6 => ?_)
 ·refine Um J J <| aE J (dU J) J <| aE J (bB J J J J J) J <| aE J (aO (l := .sl k (ss.map stc)) J J gG J J) J ?_
  refine aE J (aX J J) J <| aE J (bP J J) J <| aA (bG J J) J <| Ua J J <| Wn <| aM <| post (n := 0) (.inr J) J ?_ dD
  exact congrArg (fun z => LV.v (.bool z)) (by unfold offS; first | (rw [decide_eq_true (show z < 0 by omega)]; rfl) | (rw [decide_eq_false (show ¬ z < 0 by omega), Bool.false_or, ← decide_not]; exact decide_eq_decide.2 om))
 refine Um J J <| K1 J J <| K1 J J <| K1 J J <| K1 J J <| K1 J J <| aA (bF J J) J <| Ua J J <| Wn <| aM <| post (n := 0) (.inr J) J ?_ dD
 exact congrArg (fun z => LV.v (.bool z)) (by unfold offS; first | (rw [decide_eq_true (show z < 0 by omega)]; rfl) | (rw [decide_eq_false (show ¬ z < 0 by omega), Bool.false_or, ← decide_not]; exact decide_eq_decide.2 om))
theorem qonly_run (k s : Nat) (ss : List Go.Ab.ST) (hs : s < ss.length) (hc : 1 ≤ (ss.getD s default).2.2.length) : Run Tryz.prog T E0 (.call 49 [lvMo k ss, .v (.int .i64 (s : Int))] (lvC ((ss.getD s default).2.2.getD 0 default))) := by
 refine bC Tryz.func49 J J (cX J) <| Rg 2 J <| bD (dY J J) J <| bD (dX J) J <| Wn <| Rg 9 J <| aA (bB J J J J J) J <| aA (aO (l := .sl k (ss.map stc)) J J gG J J) J ?_
 refine Um J J <| aA (bS (j := s) J J J J om om J) J <| aA (oFa J J J J J) J <| aA (dB (l := .sl (ss.getD s default).2.1 ((ss.getD s default).2.2.map chc)) J J J) J <| aA (bS (j := 0) J J J J om om J) J <| aA (dB (l := lvC ((ss.getD s default).2.2.getD 0 default)) J J J) J <| aY (cH (cs' := chc ((ss.getD s default).2.2.getD 0 default)) J J J g0 J J J J) <| Wn <| aM ?_
 exact post (n := 0) (.inr J) J J (.agg _ (dchc1 _))
theorem qsingle_run (k : Nat) (ss : List Go.Ab.ST) (hl : ss.length < 1000) : Run Tryz.prog T E0 (.call 48 [lvMo k ss] (.v (.bool (ss.all sglC)))) := by
 refine bC Tryz.func48 J J (cX J) <| Rg 2 J <| bD (dY J J) J <| Ua J J <| Wn <| aB <| Rg 4 J <| aA (bB J J J J J) J <| aA (aO J J gG J J) J ?_
 refine aA (aX J J) J <| Um J J <| Wn <| aL <| bA (α := Nat) (fun i => [(6, .sl k (ss.map stc)), (7, .v (.int .i64 (ss.length : Int))), (8, .v (.int .i64 (i : Int)))]) (fun i => []) (fun i n => i ≤ ss.length ∧ (ss.take i).all sglC = true) (fun i => ss.length - i) (0) ⟨J, J, J, trivial⟩ trivial ⟨Nat.zero_le _, by simp⟩ ?_
 rintro i n hF
 change WC _ _ _ _ _ (_ :: _) ([]) n _
 obtain ⟨hi, ha⟩ := hF
 refine Rg 1 J <| aA (bP J J) J <| aW (fun h9 => ?_) (fun h9 => ?_)
 rotate_left
 ·refine Wn <| aT J <| aZ <| aQ <| aS J <| Rg 1 J <| Ua J J <| Wn <| aM <| post (n := 0) (.inr J) J ?_ dD
  exact congrArg (fun z => LV.v (.bool z)) ((gC ha om).symm)
 refine Wn <| aP J <| aD <| aL <| Rg 4 J <| aA (bS J J J J J om J) J <| aA (dB (l := .agg (stc (ss.getD i default))) J J J) J <| bD (dX J) J <| aY (cH (cs' := stc (ss.getD i default)) J J J g0 J J J J) <| Wn <| Rg 4 J <| aA (bB J J J J J) J <| aA (aO (l := .sl (ss.getD i default).2.1 ((ss.getD i default).2.2.map chc)) J J gG J J) J ?_
 refine aA (aX J J) J <| aA (fS J J) J <| aW (fun h15 => ?_) (fun h15 => ?_)
 rotate_left
 ·refine Wn <| bZ J <| cE <| aF <| aH (z := 2) J <| aA (cI (((i + 1 : Nat) : Int)) (aR J J om) om) J <| Um J J <| Wn <| aG <| ⟨i + 1, ⟨J, J, J, trivial⟩, trivial, ⟨om, fK ha om (decide_eq_true om)⟩, by show ss.length - (i + 1) < ss.length - i; omega⟩
 refine Wn <| bU J <| Rg 1 J <| Ua J J <| Wn <| aM <| aK <| bE <| aK <| post (n := 0) (.inr J) J ?_ dD
 exact congrArg (fun z => LV.v (.bool z)) ((nZ (p := sglC) (us := ss) (i := i) om (by unfold sglC; exact decide_eq_false om)).symm)
theorem qask_run (k kg kn ks : Nat) (ss : List Go.Ab.ST) (goal : List Int) (ns : List NM) (sts : List Int) (hI : ∀ s, s ∈ ss → IS s) (lg : goal.length < 1099511627776) (ln : ns.length < 1099511627776) (hN : IV ns) (ls : sts.length < 1099511627776) : Run Tryz.prog T E0 (.call 9 [lvMo k ss, lvL kg goal, .sl kn (ns.map mc), lvL ks sts] (.v (.int .i64 (askS ss goal ns sts)))) := by
 refine bC Tryz.func9 J J (cX J) <| Rg 2 J <| bD (dY J J) J <| Ua J J <| Wn <| aB <| Rg 14 J <| aA (aO (l := lvMo k ss) J J gG J J) J ?_
 refine aA (aN J (qvmodel_run k ss hI) dD) J <| dC (fun h12 => ?_) (fun h12 => ?_)
 rotate_left
 ·refine aA (cW J) J <| Um J J <| K1 J J <| K1 J J <| K1 J J <| K1 J J <| aA (bG J J) J <| Um J J <| K1 J J <| K1 J J <| K1 J J <| aA (bG J J) J <| Nk [3,4,24] J <| aP J <| aB <| Rg 1 J <| Ua J J <| Wn <| aU <| post (n := 0) (.inr J) J ?_ dD
  refine congrArg (fun z => LV.v (.int .i64 z)) ?_
  first | exact ask_6 h12 h17 h22 (jH (i := i) om (by simpa using h33)) | exact ask_7 h12 h17 h22 (fG fun a hb => ha a om) h37 | exact ask_0 h12 h17 h22 (fG fun a hb => ha a om) h37 | exact ask_1 (by rintro ⟨q1, q2, q3⟩; simp_all)
 refine aA (cW J) J <| Um J J <| aE J (aO (l := lvMo k ss) J J gG J J) J ?_
 refine aE J (dU J) J <| aE J (aN J (qset_run k kg ss goal lg) dD) J <| dC (fun h17 => ?_) (fun h17 => ?_)
 rotate_left
 ·refine aE J (cW J) J <| aA (bF J J) J <| Um J J <| K1 J J <| K1 J J <| K1 J J <| aA (bG J J) J <| Nk [3,4,24] J <| aP J <| aB <| Rg 1 J <| Ua J J <| Wn <| aU <| post (n := 0) (.inr J) J ?_ dD
  refine congrArg (fun z => LV.v (.int .i64 z)) ?_
  first | exact ask_6 h12 h17 h22 (jH (i := i) om (by simpa using h33)) | exact ask_7 h12 h17 h22 (fG fun a hb => ha a om) h37 | exact ask_0 h12 h17 h22 (fG fun a hb => ha a om) h37 | exact ask_1 (by rintro ⟨q1, q2, q3⟩; simp_all)
 refine aE J (cW J) J <| aA (bF J J) J <| Um J J <| aE J (dU J) J <| aE J (aN J (qall_run kn ns hN ln) (bM (by intro c hc; simp only [List.mem_cons, List.not_mem_nil, or_false] at hc; rcases hc with rfl; exact (.sl _ _ (bW pO))))) J <| dC (fun h22 => ?_) (fun h22 => ?_)
 rotate_left
 ·refine aE J (cW J) J <| aA (bF J J) J <| Nk [3,4,24] J <| aP J <| aB <| Rg 1 J <| Ua J J <| Wn <| aU <| post (n := 0) (.inr J) J ?_ dD
  refine congrArg (fun z => LV.v (.int .i64 z)) ?_
  first | exact ask_6 h12 h17 h22 (jH (i := i) om (by simpa using h33)) | exact ask_7 h12 h17 h22 (fG fun a hb => ha a om) h37 | exact ask_0 h12 h17 h22 (fG fun a hb => ha a om) h37 | exact ask_1 (by rintro ⟨q1, q2, q3⟩; simp_all)
 refine aE J (cW J) J <| aA (bF J J) J <| Nk [3,4,24] J <| aT J <| aD <| aB <| Rg 3 J <| Um J J <| aA (aX J J) J <| Um J J <| Wn <| aL <| bA (α := Nat) (fun i => [(4, .ptr 0 0), (25, lvL ks sts), (26, .v (.int .i64 (sts.length : Int))), (27, .v (.int .i64 (i : Int)))]) (fun i => [(0, { cells := [.sl k (ss.map stc)], sz := 1, elem := (24), st := 0 })]) (fun i n => i ≤ sts.length ∧ (∀ a, a < i → offS ss.length (sts.getD a default) = false)) (fun i => sts.length - i) (0) ⟨J, J, J, J, trivial⟩ ⟨gG, trivial⟩ ⟨Nat.zero_le _, fun a ha => absurd ha om⟩ ?_
 rintro i n hF
 change WC _ _ _ _ _ (_ :: _) (_ :: _) n _
 obtain ⟨hi, ha⟩ := hF
 refine Rg 1 J <| aA (bP J J) J <| aW (fun h28 => ?_) (fun h28 => ?_)
 rotate_left
 ·refine Wn <| aT J <| aZ <| aQ <| aS J <| aB <| Rg 3 J <| aA (aO (l := lvMo k ss) J J gG J J) J ?_
  refine aA (aN J (qsingle_run k ss (by have := (qG h12).wt.len; omega)) dD) J <| dC (fun h37 => ?_) (fun h37 => ?_)
  ·refine aA (cW J) J <| Wn <| aT J <| aD <| Rg 1 J <| Ua J J <| Wn <| aM <| post (n := 0) (.inr J) J ?_ dD
   refine congrArg (fun z => LV.v (.int .i64 z)) ?_
   first | exact ask_6 h12 h17 h22 (jH (i := i) om (by simpa using h33)) | exact ask_7 h12 h17 h22 (fG fun a hb => ha a om) h37 | exact ask_0 h12 h17 h22 (fG fun a hb => ha a om) h37 | exact ask_1 (by rintro ⟨q1, q2, q3⟩; simp_all)
  refine aA (cW J) J <| Wn <| aP J <| aB <| Rg 1 J <| Ua J J <| Wn <| aU <| post (n := 0) (.inr J) J ?_ dD
  refine congrArg (fun z => LV.v (.int .i64 z)) ?_
  first | exact ask_6 h12 h17 h22 (jH (i := i) om (by simpa using h33)) | exact ask_7 h12 h17 h22 (fG fun a hb => ha a om) h37 | exact ask_0 h12 h17 h22 (fG fun a hb => ha a om) h37 | exact ask_1 (by rintro ⟨q1, q2, q3⟩; simp_all)
 refine Wn <| aP J <| aD <| aL <| Rg 3 J <| aA (bS J J J J J om J) J <| aA (dB J J J) J <| Ua J J <| Wn <| Rg 4 J <| aA (aO (l := lvMo k ss) J J gG J J) J ?_
 refine Um J J <| aA (aN J (rI k ss (sts.getD i default)) dD) J <| dC (fun h33 => ?_) (fun h33 => ?_)
 rotate_left
 ·refine aA (cW J) J <| Wn <| bU J <| Rg 1 J <| Ua J J <| Wn <| aM <| aK <| bE <| aK <| post (n := 0) (.inr J) J ?_ dD
  refine congrArg (fun z => LV.v (.int .i64 z)) ?_
  first | exact ask_6 h12 h17 h22 (jH (i := i) om (by simpa using h33)) | exact ask_7 h12 h17 h22 (fG fun a hb => ha a om) h37 | exact ask_0 h12 h17 h22 (fG fun a hb => ha a om) h37 | exact ask_1 (by rintro ⟨q1, q2, q3⟩; simp_all)
 refine aA (cW J) J <| Wn <| bZ J <| cE <| aF <| aH (z := 2) J <| aA (cI (((i + 1 : Nat) : Int)) (aR J J om) om) J <| Um J J <| Wn <| aG <| ⟨i + 1, ⟨J, J, J, J, trivial⟩, ⟨gG, trivial⟩, ⟨om, fun a hb => ?_⟩, by show sts.length - (i + 1) < sts.length - i; omega⟩
 by_cases e : a = i
 ·rw [e]; simpa using h33
 ·exact ha a om
end Go.Proofs.YtcblgjaomljikaaGreat
namespace Go.Proofs.YtcblgjaomljikaaGreat
open Go.Ab Go.RowKit
theorem qshr_run (k kp : Nat) (ss : List Go.Ab.ST) (p : List Int) (hV : VMo ss = true) (lp : p.length < 1099511627776) : Run Tryz.prog T E0 (.call 10 [lvMo k ss, lvL kp p] (qshrO ss p)) := by
 have hV1 := qG hV
 have hl40 := hV1.wt.len
 refine bC Tryz.func10 J J (cX J) <| Rg 4 J <| bD (dY J J) J <| Ua J J <| Ua J J <| Ua J J <| Wn <| aB <| Rg 8 J <| Um J J <| aA (aX J J) J <| aA (bP J J) J <| aW (fun h17 => ?_) (fun h17 => ?_)
 ·refine Um J J <| K1 J J <| K1 J J <| K1 J J <| aA (bG J J) J <| Wn <| aP J <| aB <| Rg 3 J <| Ua J J <| Ua J J <| Ua J J <| Wn <| aU <| post (n := 0) (.inr J) J ?_ jF
  first | exact hP (fU h17) | exact hP (fV h21) | exact hP (any_of (i := i) om (by simpa using h31))
 refine Um J J <| aE J (dU J) J <| aE J (aX J J) J <| aE J (dG J J) J <| aW (fun h21 => ?_) (fun h21 => ?_)
 ·refine aA (bF J J) J <| Wn <| aP J <| aB <| Rg 3 J <| Ua J J <| Ua J J <| Ua J J <| Wn <| aU <| post (n := 0) (.inr J) J ?_ jF
  first | exact hP (fU h17) | exact hP (fV h21) | exact hP (any_of (i := i) om (by simpa using h31))
 refine aA (bF J J) J <| Wn <| aT J <| aD <| aB <| Rg 3 J <| Um J J <| aA (aX J J) J <| Um J J <| Nk [1,2,4,5,23,24,25] J <| aL <| bA (α := Nat) (fun i => [(1, lvL kp p), (2, .ptr 0 0), (4, .sl 0 []), (5, .sl 0 []), (23, lvL kp p), (24, .v (.int .i64 (p.length : Int))), (25, .v (.int .i64 (i : Int)))]) (fun i => [(0, { cells := [.sl k (ss.map stc)], sz := 1, elem := (24), st := 0 })]) (fun i n => i ≤ p.length ∧ (∀ a, a < i → offS ss.length (p.getD a default) = false) ∧ 0 < n) (fun i => p.length - i) (0) ⟨J, J, J, J, J, J, J, trivial⟩ ⟨gG, trivial⟩ ⟨Nat.zero_le _, fun a ha => absurd ha om, om⟩ ?_
 rintro i n hF
 change WC _ _ _ _ _ (_ :: _) (_ :: _) n _
 obtain ⟨hi, ha, hn⟩ := hF
 refine Rg 1 J <| aA (bP J J) J <| aW (fun h26 => ?_) (fun h26 => ?_)
 ·refine Wn <| aP J <| aD <| aL <| Rg 3 J <| aA (bS J J J J J om J) J <| aA (dB J J J) J <| Ua J J <| Wn <| Rg 4 J <| aA (aO (l := lvMo k ss) J J (by repeat (first | exact g0 | refine g1 om ?_ | refine aI om ?_)) J J) J ?_
  refine Um J J <| aA (aN J (rI k ss (p.getD i default)) dD) J <| dC (fun h31 => ?_) (fun h31 => ?_)
  ·refine aA (cW J) J <| Nk [1,2,4,5,23,24,25,32] J <| bZ J <| cE <| aF <| aH (z := 2) J <| aA (cI (((i + 1 : Nat) : Int)) (aR J J om) om) J <| Um J J <| Wn <| aG <| ⟨i + 1, ⟨J, J, J, J, J, J, J, trivial⟩, ⟨gG, trivial⟩, ⟨om, fun a hb => ?_, om⟩, by show p.length - (i + 1) < p.length - i; omega⟩
   by_cases e : a = i
   ·rw [e]; simpa using h31
   ·exact ha a om
  refine aA (cW J) J <| Nk [1,2,4,5,23,24,25,32] J <| bU J <| Rg 3 J <| Ua J J <| Ua J J <| Ua J J <| Wn <| aM <| aK <| bE <| aK <| post (n := 0) (.inr J) J ?_ jF
  first | exact hP (fU h17) | exact hP (fV h21) | exact hP (any_of (i := i) om (by simpa using h31))
 refine Wn <| aT J <| aZ <| aQ <| aS J <| aB ?_
 have hoff : p.any (offS ss.length) = false := fG fun a hb => ha a om
 have hform := formS_4 h17 h21 hoff
 have hb8 : ∀ i, i < p.length → (bsAt ss p i).length ≤ 8 := fun i hi => by have := lN hoff hi; exact (kG hV om).len.2
 refine Rg 4 J <| Um J J <| aA (aX J J) J <| aA (cI (((p.length - 1 : Nat) : Int)) (bV J J om) om) J <| Um J J <| Wn <| aL <| bA (α := Nat × Nat × Nat × (List Rat) × (List Rat)) (fun ⟨i, lq, hq, l, hh⟩ => [(1, lvL kp p), (2, .ptr 0 0), (4, outV lq 6 (l.map qc)), (5, outV hq 6 (hh.map qc)), (36, .v (.int .i64 ((p.length - 1 : Nat) : Int))), (37, .v (.int .i64 (i : Int)))]) (fun ⟨i, lq, hq, l, hh⟩ => outH lq 6 (64) (l.map qc) (outH hq 6 (64) (hh.map qc) ([(0, { cells := [.sl k (ss.map stc)], sz := 1, elem := (24), st := 0 })]))) (fun ⟨i, lq, hq, l, hh⟩ n => i ≤ p.length - 1 ∧ (0 < lq ∧ 0 < hq ∧ lq ≠ hq ∧ lq < n ∧ hq < n) ∧ l = shLs ss p i ∧ hh = shHs ss p i ∧ (∀ a, a < i → okSt ss p a = true)) (fun ⟨i, lq, hq, l, hh⟩ => p.length - 1 - i) (0, 1, 2, [], []) ⟨J, J, J, J, J, J, trivial⟩ (bJ (q := 1) (sz := 6) (el := (64)) (us := ([] : List Rat).map qc) (fun hne => absurd J hne) (bJ (q := 2) (sz := 6) (el := (64)) (us := ([] : List Rat).map qc) (fun hne => absurd J hne) ⟨(by repeat (first | exact g0 | refine g1 om ?_ | refine aI om ?_)), trivial⟩)) ⟨Nat.zero_le _, ⟨om, om, om, om, om⟩, rfl, rfl, fun a ha => absurd ha om⟩ ?_
 rintro ⟨i, lq, hq, l, hh⟩ n hF
 change WC _ _ _ _ _ (_ :: _) (outH _ _ _ _ _) n _
 obtain ⟨hi, ⟨v1, v2, v3, v4, v5⟩, hL, hH, hok⟩ := hF
 have hlen := kZ ss p hb8 i om
 rw [← hL, ← hH] at hlen
 refine WC.regF (z := 1) J <| aA (bP J J) J <| aW (fun h38 => ?_) (fun h38 => ?_)
 rotate_left
 ·refine Wn <| Fz.weakH (outH lq 6 (64) (l.map qc) (outH hq 6 (64) (hh.map qc) [])) (subsM.get (bJ (q := lq) (sz := 6) (el := (64)) (us := l.map qc) (fun hne => by rw [bX hne]; repeat (first | exact g0 | refine g1 om ?_ | refine aI om ?_)) (bJ (q := hq) (sz := 6) (el := (64)) (us := hh.map qc) (fun hne => by rw [bX hne]; repeat (first | exact g0 | refine g1 om ?_ | refine aI om ?_)) trivial))) ?_
  refine Fz.env (t := 4) (us := l.map qc) [(1, _), (2, _), (5, _), (36, _), (37, _), (38, _)] ⟨J, J, J, J, J, J, trivial⟩ J (fun _ r o hr e => by rw [e] at hr; have h0 : getH (outH hq 6 (64) (hh.map qc) []) lq = none := cZ om rfl; rw [h0] at hr; cases hr) (by decide) (fN (f := qc) (n := 6) fun _ => rfl) (bW dqc) <| aT J <| aZ <| aQ <| aS J ?_
  have hie : i = p.length - 1 := by omega
  have hall := okP_of (ss := ss) (p := p) (fun a ha => hok a om)
  refine WC.regF (z := 5) J <| Um J J <| Um J J <| Ua J J <| Ua J J <| Ua J J <| Wn <| Fz.env (h := []) (t := 5) (us := hh.map qc) [(4, _), (6, _)] ⟨J, J, trivial⟩ J (fun _ r o hr => by simp [getH] at hr) (by decide) (fN (f := qc) (n := 6) fun _ => rfl) (bW dqc) <| aM <| post (n := 0) (.inr J) J ?_ jF
  rw [hie] at hL hH
  subst hL
  subst hH
  have := qshrO_3 hform hall
  unfold TQ at this
  rw [← this]
  simp only [List.length_map]
  rfl
 refine Wn <| Fz.same [(1, _), (2, _), (4, _), (5, _), (36, _), (37, _), (38, _)] _ ⟨J, J, J, J, J, J, J, trivial⟩ (fun _ _ h => h) <| aP J <| aD <| aL ?_
 have hpi := lN hoff (i := i) om
 have hil : i < p.length - 1 := by omega
 have hvb := kG hV (s := (p.getD i default).toNat) om
 have hcl := ((hV1.cs _ (bO (us := ss) (i := (p.getD i default).toNat) om))).1
 refine Rg 2 J <| Um J J <| Ua J J <| cR ?_
 obtain ⟨nM, hnM⟩ : ∃ z, z = n := ⟨n, rfl⟩
 subst hnM
 refine Rg 4 J <| aA (bL (b := lvQ 0) (aN J (mN 0 (by decide)) dD) J) J <| bD (dX J) J <| aY (cH (cs' := qc 0) J J J g0 J J J J) <| Ua J J <| Wn <| aB <| bQ (z := 9) J kR <| aJ (aO (l := lvMo k ss) J J (by repeat (first | exact g0 | refine g1 om ?_ | refine aI om ?_)) J J) J ?_
 refine Dm J J <| Dm J J <| aJ (bS (j := i) J J J J om om J) J <| aJ (cI ((((p.getD i default).toNat : Nat) : Int)) (dB J J J) om) J <| aJ (aN J (qonly_run k (p.getD i default).toNat ss om hcl) (bM (by intro c hc; simp only [List.mem_cons, List.not_mem_nil, or_false] at hc; rcases hc with rfl | rfl; exact pN; exact (.v _)))) J <| aJ (bL (b := .sl ((ss.getD (p.getD i default).toNat default).2.2.getD 0 default).2.1 ((bsAt ss p i).map brc)) (oFd J J J J J) J) J <| aJ (aX J J) J <| Dm J J <| bK (dZ (rn n) (by simp only [List.reverse_cons, List.reverse_nil, List.nil_append, List.cons_append, List.map_cons, List.map_nil, ren, keys, Nat.add_assoc, kY, show rn n 0 = 0 from mG om]; kernel_rfl)) J <| Ck [1,2,4,5,9,10,11,36,37,47,48,49] J <| aL ?_
 refine bA (α := Nat × Rat × Nat × Nat × (List Rat) × (List Rat) × Bool) (fun ⟨j, sm, q1, q2, l2, h2, f⟩ => [(1, lvL kp p), (2, .ptr 0 0), (4, outV q1 6 (l2.map qc)), (5, outV q2 6 (h2.map qc)), (9, .v (.int .i64 (i : Int))), (10, .ptr (nM + 1 + 2 + (0 + 1)) 0), (11, .v (.bool f)), (36, .v (.int .i64 ((p.length - 1 : Nat) : Int))), (37, .v (.int .i64 (i : Int))), (47, .sl ((ss.getD (p.getD i default).toNat default).2.2.getD 0 default).2.1 ((bsAt ss p i).map brc)), (48, .v (.int .i64 ((bsAt ss p i).length : Int))), (49, .v (.int .i64 (j : Int)))]) (fun ⟨j, sm, q1, q2, l2, h2, f⟩ => outH q1 6 (64) (l2.map qc) (outH q2 6 (64) (h2.map qc) ([((nM + 1 + 2 + (0 + 1)), { cells := qc (sm), sz := 6, elem := (64), st := 0 }), (0, { cells := [.sl k (ss.map stc)], sz := 1, elem := (24), st := 0 })]))) (fun ⟨j, sm, q1, q2, l2, h2, f⟩ n => j ≤ (bsAt ss p i).length ∧ sm = psum (bsAt ss p i) j ∧ (0 < q1 ∧ 0 < q2 ∧ q1 ≠ q2 ∧ q1 ≠ nM + 4 ∧ q2 ≠ nM + 4 ∧ q1 < n ∧ q2 < n ∧ nM + 4 < n) ∧ l2 = shrL (bsAt ss p i) (p.getD (i + 1) default) l j ∧ h2 = shrH (bsAt ss p i) (p.getD (i + 1) default) hh j ∧ f = shrF (bsAt ss p i) (p.getD (i + 1) default) j) (fun ⟨j, sm, q1, q2, l2, h2, f⟩ => (bsAt ss p i).length - j) (0, 0, lq, hq, l, hh, false) ⟨J, J, J, J, J, J, J, J, J, J, J, J, trivial⟩ (bJ (q := lq) (sz := 6) (el := (64)) (us := l.map qc) (fun hne => by rw [bX hne]; repeat (first | exact g0 | refine g1 om ?_ | refine aI om ?_)) (bJ (q := hq) (sz := 6) (el := (64)) (us := hh.map qc) (fun hne => by rw [bX hne]; repeat (first | exact g0 | refine g1 om ?_ | refine aI om ?_)) ⟨(by repeat (first | exact g0 | refine g1 om ?_ | refine aI om ?_)), (by repeat (first | exact g0 | refine g1 om ?_ | refine aI om ?_)), trivial⟩)) ⟨Nat.zero_le _, rfl, ⟨om, om, om, om, om, om, om, om⟩, rfl, rfl, rfl⟩ ?_
 rintro ⟨j, sm, q1, q2, l2, h2, f⟩ n hF
 change WC _ _ _ _ _ (_ :: _) (outH _ _ _ _ _) n _
 obtain ⟨hj, hsm, ⟨w1, w2, w3, w4, w5, w6, w7, w8⟩, hL2, hH2, hf2⟩ := hF
 have hlen2 := jY (bs := (bsAt ss p i)) (t := (p.getD (i + 1) default)) (l := l) j
 have hlen3 := jY (bs := (bsAt ss p i)) (t := (p.getD (i + 1) default)) (l := hh) j
 rw [← hL2] at hlen2
 rw [← hH2] at hlen3
 refine Rg 1 J <| aA (bP J J) J <| aW (fun h50 => ?_) (fun h50 => ?_)
 rotate_left
 ·refine Wn <| aT J <| aZ <| aQ <| aS J ?_
  have hjl : j = (bsAt ss p i).length := by omega
  refine Rg 2 J <| Um J J <| dC (fun h76 => ?_) (fun h76 => ?_)
  rotate_left
  ·refine aA (cW J) J <| Nk [1,2,4,5,36,37,77] J <| bU J <| Rg 3 J <| Ua J J <| Ua J J <| Ua J J <| Wn <| aM <| aK <| bE <| aK <| post (n := 0) (.inr J) J ?_ jF
   rw [hjl] at hf2
   exact qshrO_2 (i := i) hil (hf2.symm.trans h76)
  refine aA (cW J) J <| Nk [1,2,4,5,36,37,77] J <| bZ J <| cE <| aF <| aH (z := 2) J <| aA (cI (((i + 1 : Nat) : Int)) (aR J J om) om) J <| Um J J <| Wn <| aG <| ⟨⟨i + 1, q1, q2, l2, h2⟩, ⟨J, J, J, J, J, J, trivial⟩, (bJ (q := q1) (sz := 6) (el := (64)) (us := l2.map qc) (fun hne => by rw [bX hne]; repeat (first | exact g0 | refine g1 om ?_ | refine aI om ?_)) (bJ (q := q2) (sz := 6) (el := (64)) (us := h2.map qc) (fun hne => by rw [bX hne]; repeat (first | exact g0 | refine g1 om ?_ | refine aI om ?_)) ⟨(by repeat (first | exact g0 | refine g1 om ?_ | refine aI om ?_)), trivial⟩)), ⟨om, ⟨om, om, om, om, om⟩, ?_, ?_, fun a ha => ?_⟩, by show p.length - 1 - (i + 1) < p.length - 1 - i; omega⟩
  ·rw [hL2, hjl, hL]; rfl
  ·rw [hH2, hjl, hH]; rfl
  ·by_cases e : a = i
   ·rw [e]; rw [hjl] at hf2; exact hf2.symm.trans h76
   ·exact hok a om
 refine Wn <| aP J <| aD <| aL <| Rg 4 J <| aA (bS J J J J J om J) J <| aA (dB (l := .agg (brc ((bsAt ss p i).getD j default))) J J J) J <| bD (dX J) J <| aY (cH (cs' := brc ((bsAt ss p i).getD j default)) J J J g0 J J J J) <| Nk [1,2,4,5,9,10,11,13,36,37,47,48,49] J ?_
 have hvn : VN ((bsAt ss p i).getD j default).2 := hvb.vn j (by show j < (bsAt ss p i).length; omega)
 have hpb := hO (bs := (bsAt ss p i)) j om (fun a hj => decide_eq_true (hvb.vn a (by show a < (bsAt ss p i).length; omega)))
 rw [← hsm] at hpb
 have hlb : (bsAt ss p i).length ≤ 8 := hvb.len.2
 refine bQ (z := 7) J kR <| aJ (aO (l := lvQ sm) J J (by repeat (first | exact g0 | refine g1 om ?_ | refine aI om ?_)) J J) J ?_
 refine aJ (bB J J J J J) J <| aJ (aO (l := lvM ((bsAt ss p i).getD j default).2) J J (by repeat (first | exact g0 | refine g1 om ?_ | refine aI om ?_)) J J) J ?_
 refine aJ (bL (b := lvQ (nq ((bsAt ss p i).getD j default).2)) (aN J (nto_run ((bsAt ss p i).getD j default).2 hvn.all3.1 hvn.all3.2.1 hvn) (bM (by intro c hc; simp only [List.mem_cons, List.not_mem_nil, or_false] at hc; rcases hc with rfl; exact (.agg _ (pO _))))) J) J <| aJ (aN J (lL sm (nq ((bsAt ss p i).getD j default).2) (hpb.mono om) (hvn.bd.mono om)) dD) J <| WD.S (dX J) J <| cU (cH (cs' := qc (sm + nq ((bsAt ss p i).getD j default).2)) J J J g0 J J J J) <| bK (dZ (rn n) (by simp only [List.reverse_cons, List.reverse_nil, List.nil_append, List.cons_append, List.map_cons, List.map_nil, ren, keys, Nat.add_assoc, kY, show rn n (nM + 4) = 0 from mG om]; kernel_rfl)) J <| Ck [1,2,4,5,9,10,11,13,14,36,37,47,48,49] J <| aB <| bQ (z := 8) J kR <| aJ (bB J J J J J) J <| aJ (aO J J (by repeat (first | exact g0 | refine g1 om ?_ | refine aI om ?_)) J J) J ?_
 refine Dm J J <| Dm J J <| aJ (cI (((i + 1 : Nat) : Int)) (aR J J om) om) J <| aJ (bS (j := (i + 1)) J J J J om om J) J <| aJ (dB J J J) J <| aJ (eR J J) J <| lZ (fun h65 => ?_) (fun h65 => ?_)
 rotate_left
 ·refine bK (dZ (rn n) (by simp only [List.reverse_cons, List.reverse_nil, List.nil_append, List.cons_append, List.map_cons, List.map_nil, ren, keys, Nat.add_assoc, kY, show rn n 0 = 0 from mG om]; kernel_rfl)) J <| Ck [1,2,4,5,9,10,11,14,36,37,47,48,49,65] J <| aT J <| aD <| aH (z := 2) J <| aA (aO (l := lvQ (sm + nq ((bsAt ss p i).getD j default).2)) J J (by repeat (first | exact g0 | refine g1 om ?_ | refine aI om ?_)) J J) J ?_
  refine aY (cH (cs' := qc (sm + nq ((bsAt ss p i).getD j default).2)) J J J (by repeat (first | exact g0 | refine g1 om ?_ | refine aI om ?_)) J J J J) ?_
  refine Wn <| aF <| Ck [1,2,4,5,9,10,11,36,37,47,48,49] J <| aH (z := 2) J <| aA (cI (((j + 1 : Nat) : Int)) (aR J J om) om) J <| Um J J <| Wn <| aG ?_
  obtain ⟨e1, e2, e3⟩ := shrL_F (bs := (bsAt ss p i)) (t := (p.getD (i + 1) default)) (l := l) h65
  obtain ⟨e4, e5, e6⟩ := shrL_F (bs := (bsAt ss p i)) (t := (p.getD (i + 1) default)) (l := hh) h65
  refine ⟨⟨j + 1, (sm + nq ((bsAt ss p i).getD j default).2), q1, q2, l2, h2, f⟩, ⟨J, J, J, J, J, J, J, J, J, J, J, J, trivial⟩, (bJ (q := q1) (sz := 6) (el := (64)) (us := l2.map qc) (fun hne => by rw [bX hne]; repeat (first | exact g0 | refine g1 om ?_ | refine aI om ?_)) (bJ (q := q2) (sz := 6) (el := (64)) (us := h2.map qc) (fun hne => by rw [bX hne]; repeat (first | exact g0 | refine g1 om ?_ | refine aI om ?_)) ⟨(by repeat (first | exact g0 | refine g1 om ?_ | refine aI om ?_)), (by repeat (first | exact g0 | refine g1 om ?_ | refine aI om ?_)), trivial⟩)), ⟨om, by rw [hsm]; rfl, ⟨om, om, om, om, om, om, om, om⟩, by rw [e1, ← hL2], by rw [e5, ← hH2], by rw [e3]; exact hf2⟩, by show (bsAt ss p i).length - (j + 1) < (bsAt ss p i).length - j; omega⟩
 refine bK (dZ (rn n) (by simp only [List.reverse_cons, List.reverse_nil, List.nil_append, List.cons_append, List.map_cons, List.map_nil, ren, keys, Nat.add_assoc, kY, show rn n 0 = 0 from mG om]; kernel_rfl)) J <| Ck [1,2,4,5,9,10,11,14,36,37,47,48,49,65] J <| aP J ?_
 have hra : ∀ k, rn2 q1 q2 n (n + k) = k + 3 := fun k => rn2_add om om
 have hr1 : rn2 q1 q2 n q1 = 1 := rn2_a
 have hr2 : rn2 q1 q2 n q2 = 2 := rn2_b om
 have hrp : rn2 q1 q2 n (nM + 4) = 0 := rn2_lt om om om
 refine bQ (z := 11) J kR <| Dm J J <| aJ (aO (l := lvQ sm) J J (by repeat (first | exact g0 | refine g1 om ?_ | refine aI om ?_)) J J) J ?_
 refine aJ (cS (cs := [_, _, _, _, _, _]) (rows := [[_, _, _, _, _, _]]) J J (by decide) J J J) J <| kF (outH q1 6 (64) (l2.map qc) (outH q2 6 (64) (h2.map qc) [((n + 1 + 4 + 5), { cells := qc ((sm + nq ((bsAt ss p i).getD j default).2)), sz := 6, elem := (64), st := 0 }), ((n + 1 + 2), { cells := brc ((bsAt ss p i).getD j default), sz := 3, elem := (90), st := 0 }), ((nM + 1 + 2 + (0 + 1)), { cells := qc (sm), sz := 6, elem := (64), st := 0 }), (0, { cells := [.sl k (ss.map stc)], sz := 1, elem := (24), st := 0 })])) (subsM.get (bJ (q := q1) (sz := 6) (el := (64)) (us := l2.map qc) (fun hne => by rw [bX hne]; repeat (first | exact g0 | refine g1 om ?_ | refine aI om ?_)) (bJ (q := q2) (sz := 6) (el := (64)) (us := h2.map qc) (fun hne => by rw [bX hne]; repeat (first | exact g0 | refine g1 om ?_ | refine aI om ?_)) ⟨(by repeat (first | exact g0 | refine g1 om ?_ | refine aI om ?_)), (by repeat (first | exact g0 | refine g1 om ?_ | refine aI om ?_)), (by repeat (first | exact g0 | refine g1 om ?_ | refine aI om ?_)), (by repeat (first | exact g0 | refine g1 om ?_ | refine aI om ?_)), trivial⟩))) ?_
 refine WD.apM (te := ti64) (f := qc) (q := q1) (us := l2) (u := sm) J J J J J (fun _ => rfl) (by decide) (by show (2 * (l2.length + 1) + 256) * 80 ≤ _; omega) om (by repeat (first | rfl | refine gN om ?_ | refine cZ om ?_)) J ?_
 refine Dm J J <| aJ (aO (l := lvQ (sm + nq ((bsAt ss p i).getD j default).2)) J J (by repeat (first | exact g0 | refine g1 om ?_ | refine aI om ?_)) J J) J ?_
 refine aJ (cS (cs := [_, _, _, _, _, _]) (rows := [[_, _, _, _, _, _]]) J J (by decide) J J J) J <| kF (outH q2 6 (64) (h2.map qc) (outH (n + 1 + 4 + 7 + 8 + 3) 6 (64) ((l2 ++ [sm]).map qc) [((n + 1 + 4 + 5), { cells := qc ((sm + nq ((bsAt ss p i).getD j default).2)), sz := 6, elem := (64), st := 0 }), ((n + 1 + 2), { cells := brc ((bsAt ss p i).getD j default), sz := 3, elem := (90), st := 0 }), ((nM + 1 + 2 + (0 + 1)), { cells := qc (sm), sz := 6, elem := (64), st := 0 }), (0, { cells := [.sl k (ss.map stc)], sz := 1, elem := (24), st := 0 })])) (subsM.get (bJ (q := q2) (sz := 6) (el := (64)) (us := h2.map qc) (fun hne => by rw [bX hne]; repeat (first | exact g0 | refine g1 om ?_ | refine aI om ?_)) (bJ (q := (n + 1 + 4 + 7 + 8 + 3)) (sz := 6) (el := (64)) (us := (l2 ++ [sm]).map qc) (fun hne => by rw [bX hne]; repeat (first | exact g0 | refine g1 om ?_ | refine aI om ?_)) ⟨(by repeat (first | exact g0 | refine g1 om ?_ | refine aI om ?_)), (by repeat (first | exact g0 | refine g1 om ?_ | refine aI om ?_)), (by repeat (first | exact g0 | refine g1 om ?_ | refine aI om ?_)), (by repeat (first | exact g0 | refine g1 om ?_ | refine aI om ?_)), trivial⟩))) ?_
 refine WD.apM (te := ti64) (f := qc) (q := q2) (us := h2) (u := (sm + nq ((bsAt ss p i).getD j default).2)) J J J J J (fun _ => rfl) (by decide) (by show (2 * (h2.length + 1) + 256) * 80 ≤ _; omega) om (by repeat (first | rfl | refine gN om ?_ | refine cZ om ?_)) J ?_
 refine aJ (kU J) J <| aJ (kU J) J <| aJ (kU J) J <| bK (dZ (rn2 q1 q2 n) (by simp only [List.reverse_cons, List.reverse_nil, List.nil_append, List.cons_append, List.map_cons, List.map_nil, ren, keys, Nat.add_assoc, hra, hr1, hr2, hrp]; kernel_rfl)) J <| Ck [1,2,4,5,9,10,11,14,36,37,47,48,49] J <| aH (z := 2) J <| aA (aO (l := lvQ (sm + nq ((bsAt ss p i).getD j default).2)) J J (by repeat (first | exact g0 | refine g1 om ?_ | refine aI om ?_)) J J) J ?_
 refine aY (cH (cs' := qc (sm + nq ((bsAt ss p i).getD j default).2)) J J J (by repeat (first | exact g0 | refine g1 om ?_ | refine aI om ?_)) J J J J) ?_
 refine Wn <| aF <| aH (z := 2) J <| aA (cI (((j + 1 : Nat) : Int)) (aR J J om) om) J <| Um J J <| Wn <| aG ?_
 obtain ⟨e1, e2, e3⟩ := shrL_T (bs := (bsAt ss p i)) (t := (p.getD (i + 1) default)) (l := l) h65
 obtain ⟨e4, e5, e6⟩ := shrL_T (bs := (bsAt ss p i)) (t := (p.getD (i + 1) default)) (l := hh) h65
 refine ⟨⟨j + 1, (sm + nq ((bsAt ss p i).getD j default).2), _, _, l2 ++ [sm], h2 ++ [(sm + nq ((bsAt ss p i).getD j default).2)], true⟩, ⟨J, J, J, J, J, J, J, J, J, J, J, J, trivial⟩, (bJ (q := _) (sz := 6) (el := (64)) (us := (l2 ++ [sm]).map qc) (fun hne => by rw [bX hne]; repeat (first | exact g0 | refine g1 om ?_ | refine aI om ?_)) (bJ (q := _) (sz := 6) (el := (64)) (us := (h2 ++ [(sm + nq ((bsAt ss p i).getD j default).2)]).map qc) (fun hne => by rw [bX hne]; repeat (first | exact g0 | refine g1 om ?_ | refine aI om ?_)) ⟨(by repeat (first | exact g0 | refine g1 om ?_ | refine aI om ?_)), (by repeat (first | exact g0 | refine g1 om ?_ | refine aI om ?_)), trivial⟩)), ⟨om, by rw [hsm]; rfl, ⟨om, om, om, om, om, om, om, om⟩, by rw [e1, ← hL2, hsm], by rw [e5, ← hH2, hsm]; rfl, e3.symm⟩, by show (bsAt ss p i).length - (j + 1) < (bsAt ss p i).length - j; omega⟩
end Go.Proofs.YtcblgjaomljikaaGreat
namespace Go.Proofs.YtcblgjaomljikaaGreat
open Go.Ab Go.RowKit
theorem hits_run (k kg : Nat) (ss : List Go.Ab.ST) (s : Int) (goal : List Int) (nn d : Int) (hI : ∀ s, s ∈ ss → IS s) (lg : goal.length < 1099511627776) : Run Tryz.prog T E0 (.call 31 [lvMo k ss, .v (.int .i64 (s : Int)), lvL kg goal, .v (.int .i64 (nn : Int)), .v (.int .i64 (d : Int))] (hitO ss s goal nn d)) := by
 refine bC Tryz.func31 J J (cX J) <| Rg 3 J <| bD (dY J J) J <| Ua J J <| Ua J J <| Wn <| aB <| Rg 6 J <| aA (aO (l := lvMo k ss) J J gG J J) J ?_
 refine Um J J <| Um J J <| aA (cS (cs := [_]) (rows := [[_]]) J J (by decide) J J J) J <| aA (aN J (rM k kg 0 2 ss goal [] [s] hI lg (by show 0 < _; omega) (by intro a ha; cases ha) (by show 1 < _; omega)) (bM (by intro c hc; simp only [List.mem_cons, List.not_mem_nil, or_false] at hc; rcases hc with rfl | rfl | rfl | rfl; exact pN; exact (mH _ _); exact (.sl _ _ (by simp)); exact (.sl _ _ (by intro r hr c hc; rw [List.mem_singleton] at hr; subst hr; exact dic1 _ c hc))))) J <| Ua J J <| Wn <| aB <| Rg 2 J <| Um J J <| aA (fS J J) J <| aW (fun h35 => ?_) (fun h35 => ?_)
 ·refine Nk [1,2,3,4,5,12,35] J <| aP J <| aB <| Rg 3 J <| Um J J <| Ua J J <| Ua J J <| Wn <| aU <| post (n := 0) (.inr J) J ?_ (eO (.v _) (.v _))
  first | exact (bY (kN h35) h35) | exact (bY (kP ha hrg hnev) (show (7 : Int) ≠ 0 by decide)) | exact (bY (kQ ha hrg hevn hul2 h156) (show (3 : Int) ≠ 0 by decide)) | exact iR ha hrg hevn hul2 h156 | (refine (bY (kO ha ?_) (show (6 : Int) ≠ 0 by decide)); omega)
 refine Nk [1,2,3,4,5,12,35] J <| aT J <| aD <| aB ?_
 have ha := Classical.not_not.1 h35
 obtain ⟨hV, hVS, _, hst, _⟩ := ask0 ha
 have hsb := hst s (by simp)
 have hV1 := qG hV
 have hl40 := hV1.wt.len
 refine Rg 14 J <| Um J J <| aA (bP J J) J <| aW (fun h38 => ?_) (fun h38 => ?_)
 ·refine Um J J <| K1 J J <| K1 J J <| aA (bG J J) J <| Um J J <| K1 J J <| K1 J J <| aA (bG J J) J <| Um J J <| K1 J J <| K1 J J <| aA (bG J J) J <| Nk [1,2,3,4,5,50] J <| aP J <| aB <| Rg 2 J <| Ua J J <| Ua J J <| Wn <| aU <| post (n := 0) (.inr J) J ?_ (eO (.v _) (.v _))
  first | exact (bY (kN h35) h35) | exact (bY (kP ha hrg hnev) (show (7 : Int) ≠ 0 by decide)) | exact (bY (kQ ha hrg hevn hul2 h156) (show (3 : Int) ≠ 0 by decide)) | exact iR ha hrg hevn hul2 h156 | (refine (bY (kO ha ?_) (show (6 : Int) ≠ 0 by decide)); omega)
 refine Um J J <| aE J (dU J) J <| aE J (dG J J) J <| aW (fun h41 => ?_) (fun h41 => ?_)
 ·refine aA (bF J J) J <| Um J J <| K1 J J <| K1 J J <| aA (bG J J) J <| Um J J <| K1 J J <| K1 J J <| aA (bG J J) J <| Nk [1,2,3,4,5,50] J <| aP J <| aB <| Rg 2 J <| Ua J J <| Ua J J <| Wn <| aU <| post (n := 0) (.inr J) J ?_ (eO (.v _) (.v _))
  first | exact (bY (kN h35) h35) | exact (bY (kP ha hrg hnev) (show (7 : Int) ≠ 0 by decide)) | exact (bY (kQ ha hrg hevn hul2 h156) (show (3 : Int) ≠ 0 by decide)) | exact iR ha hrg hevn hul2 h156 | (refine (bY (kO ha ?_) (show (6 : Int) ≠ 0 by decide)); omega)
 refine aA (bF J J) J <| Um J J <| aE J (dU J) J <| aE J (bP J J) J <| aW (fun h45 => ?_) (fun h45 => ?_)
 ·refine aA (bF J J) J <| Um J J <| K1 J J <| K1 J J <| aA (bG J J) J <| Nk [1,2,3,4,5,50] J <| aP J <| aB <| Rg 2 J <| Ua J J <| Ua J J <| Wn <| aU <| post (n := 0) (.inr J) J ?_ (eO (.v _) (.v _))
  first | exact (bY (kN h35) h35) | exact (bY (kP ha hrg hnev) (show (7 : Int) ≠ 0 by decide)) | exact (bY (kQ ha hrg hevn hul2 h156) (show (3 : Int) ≠ 0 by decide)) | exact iR ha hrg hevn hul2 h156 | (refine (bY (kO ha ?_) (show (6 : Int) ≠ 0 by decide)); omega)
 refine aA (bF J J) J <| Um J J <| aE J (dU J) J <| aE J (dG J J) J <| aW (fun h49 => ?_) (fun h49 => ?_)
 ·refine aA (bF J J) J <| Nk [1,2,3,4,5,50] J <| aP J <| aB <| Rg 2 J <| Ua J J <| Ua J J <| Wn <| aU <| post (n := 0) (.inr J) J ?_ (eO (.v _) (.v _))
  first | exact (bY (kN h35) h35) | exact (bY (kP ha hrg hnev) (show (7 : Int) ≠ 0 by decide)) | exact (bY (kQ ha hrg hevn hul2 h156) (show (3 : Int) ≠ 0 by decide)) | exact iR ha hrg hevn hul2 h156 | (refine (bY (kO ha ?_) (show (6 : Int) ≠ 0 by decide)); omega)
 refine aA (bF J J) J <| Nk [1,2,3,4,5,50] J <| aT J <| aD <| aB ?_
 have hrg : 0 ≤ nn ∧ nn ≤ 200 ∧ 1 ≤ d ∧ d ≤ 1000 := by omega
 refine Rg 4 J <| aA (bB J J J J J) J <| aA (aO J J gG J J) J ?_
 refine aA (aX J J) J <| Um J J <| Wn <| aL <| bA (α := Nat) (fun i => [(1, .v (.int .i64 (s : Int))), (2, lvL kg goal), (3, .v (.int .i64 (nn : Int))), (4, .v (.int .i64 (d : Int))), (5, .ptr 0 0), (52, .sl k (ss.map stc)), (53, .v (.int .i64 (ss.length : Int))), (54, .v (.int .i64 (i : Int)))]) (fun i => [(0, { cells := [.sl k (ss.map stc)], sz := 1, elem := (24), st := 0 })]) (fun i n => i ≤ ss.length ∧ (∀ a : Nat, a < i → evB d (brs ss a) = true) ∧ 0 < n) (fun i => ss.length - i) (0) ⟨J, J, J, J, J, J, J, J, trivial⟩ ⟨gG, trivial⟩ ⟨Nat.zero_le _, fun a ha => absurd ha om, om⟩ ?_
 rintro i n hF
 change WC _ _ _ _ _ (_ :: _) (_ :: _) n _
 obtain ⟨hi, hev, hn⟩ := hF
 refine Rg 1 J <| aA (bP J J) J <| aW (fun h55 => ?_) (fun h55 => ?_)
 ·refine Wn <| aP J <| aD <| aL ?_
  have hcl := (hV1.cs _ (bO (us := ss) (i := i) om)).1
  have hvb := kG hV (s := i) om
  have hlb := hvb.len
  refine Rg 4 J <| aA (bS J J J J J om J) J <| aA (dB (l := .agg (stc (ss.getD i default))) J J J) J <| bD (dX J) J <| aY (cH (cs' := stc (ss.getD i default)) J J J g0 J J J J) <| Wn <| Rg 7 J <| aA (bB J J J J J) J <| aA (aO (l := .sl (ss.getD i default).2.1 ((ss.getD i default).2.2.map chc)) J J gG J J) J ?_
  refine aA (bS (j := 0) J J J J om om J) J <| aA (oFa J J J J J) J <| aA (bL (b := .sl ((ss.getD i default).2.2.getD 0 default).2.1 ((brs ss i).map brc)) (dB J J J) J) J <| aA (aX J J) J <| Um J J <| Nk [1,2,3,4,5,52,53,54,62,63,64] J <| cO <| bA (α := Nat) (fun j => [(1, .v (.int .i64 (s : Int))), (2, lvL kg goal), (3, .v (.int .i64 (nn : Int))), (4, .v (.int .i64 (d : Int))), (5, .ptr 0 0), (52, .sl k (ss.map stc)), (53, .v (.int .i64 (ss.length : Int))), (54, .v (.int .i64 (i : Int))), (62, .sl ((ss.getD i default).2.2.getD 0 default).2.1 ((brs ss i).map brc)), (63, .v (.int .i64 ((brs ss i).length : Int))), (64, .v (.int .i64 (j : Int)))]) (fun j => [(0, { cells := [.sl k (ss.map stc)], sz := 1, elem := (24), st := 0 })]) (fun j n => j ≤ (brs ss i).length ∧ (∀ b : Nat, b < j → d.tmod ((brs ss i).getD b default).2.2 = 0) ∧ 0 < n) (fun j => (brs ss i).length - j) (0) ⟨J, J, J, J, J, J, J, J, J, J, J, trivial⟩ ⟨gG, trivial⟩ ⟨Nat.zero_le _, fun b hb => absurd hb om, om⟩ ?_
  rintro j n hF
  change WC _ _ _ _ _ (_ :: _) (_ :: _) n _
  obtain ⟨hj, heb, hn2⟩ := hF
  refine Rg 1 J <| aA (bP J J) J <| aW (fun h65 => ?_) (fun h65 => ?_)
  rotate_left
  ·refine Wn <| aT J <| aZ <| aQ <| fP J <| aF <| aH (z := 2) J <| aA (cI (((i + 1 : Nat) : Int)) (aR J J om) om) J <| Um J J <| Wn <| aG <| ⟨i + 1, ⟨J, J, J, J, J, J, J, J, trivial⟩, ⟨gG, trivial⟩, ⟨om, fun a ha => ?_, om⟩, by show ss.length - (i + 1) < ss.length - i; omega⟩
   by_cases e : a = i
   ·rw [e]; exact evB_all (fun b hb => heb b om)
   ·exact hev a om
  refine Wn <| aP J <| aD <| aL <| Rg 4 J <| aA (bS J J J J J om J) J <| aA (dB (l := .agg (brc ((brs ss i).getD j default))) J J J) J <| bD (dX J) J <| aY (cH (cs' := brc ((brs ss i).getD j default)) J J J g0 J J J J) <| Nk [1,2,3,4,5,16,52,53,54,62,63,64] J ?_
  have hb0 : ((brs ss i).getD j default).2.2 ≠ 0 := by have := (hvb.vn j om).1; omega
  refine Rg 6 J <| Um J J <| aA (bB J J J J J) J <| aA (bB J J J J J) J <| aA (aO J J gG J J) J ?_
  refine aA (oRem J J hb0) J <| aA (fS J J) J <| aW (fun h73 => ?_) (fun h73 => ?_)
  rotate_left
  ·refine Nk [1,2,3,4,5,52,53,54,62,63,64,73] J <| bZ J <| cE <| aF <| aH (z := 2) J <| aA (cI (((j + 1 : Nat) : Int)) (aR J J om) om) J <| Um J J <| Wn <| aG <| ⟨j + 1, ⟨J, J, J, J, J, J, J, J, J, J, J, trivial⟩, ⟨gG, trivial⟩, ⟨om, fun b hb => ?_, om⟩, by show (brs ss i).length - (j + 1) < (brs ss i).length - j; omega⟩
   by_cases e : b = j
   ·rw [e]; exact Classical.not_not.1 h73
   ·exact heb b om
  refine Nk [1,2,3,4,5,52,53,54,62,63,64,73] J <| bU J ?_
  have hnev := evenB_no (ss := ss) (d := d) (a := i) (j := j) om om h73
  refine Rg 2 J <| Ua J J <| Ua J J <| Wn <| aM <| aK <| bE <| iF <| aK <| bE <| aK <| post (n := 0) (.inr J) J ?_ (eO (.v _) (.v _))
  first | exact (bY (kN h35) h35) | exact (bY (kP ha hrg hnev) (show (7 : Int) ≠ 0 by decide)) | exact (bY (kQ ha hrg hevn hul2 h156) (show (3 : Int) ≠ 0 by decide)) | exact iR ha hrg hevn hul2 h156 | (refine (bY (kO ha ?_) (show (6 : Int) ≠ 0 by decide)); omega)
 refine Wn <| aT J <| aZ <| aQ <| aS J ?_
 obtain ⟨nK, hnnK⟩ : ∃ z, z = n := ⟨n, rfl⟩
 subst hnnK
 have hevn : evenB ss d = true := List.all_eq_true.2 fun a ha => hev a (by have := List.mem_range.1 ha; omega)
 refine Rg 3 J <| aA (aN J (jW 1 (by decide)) dD) J <| bD (dX J) J <| aY (cH (cs' := ivc 1) J J J g0 J J J J) <| Wn <| Rg 5 J <| aA (bB J J J J J) J <| aA (aO J J gG J J) J ?_
 refine aA (aX J J) J <| bD (oMk (a := ss.length) (b := ss.length) J J J J om om (by decide) om (by show 32 * ss.length ≤ _; omega) om) J <| Ua J J <| Nk [1,2,3,4,5,17,18] J <| aB <| Rg 1 J <| Ua J J <| Wn <| aL <| bA (α := Nat × Nat × (List Int)) (fun ⟨i, q, vs⟩ => [(1, .v (.int .i64 (s : Int))), (2, lvL kg goal), (3, .v (.int .i64 (nn : Int))), (4, .v (.int .i64 (d : Int))), (5, .ptr 0 0), (17, .ptr (nK + 1 + (0 + 1)) 0), (18, .ref q 2 0 ss.length), (19, .v (.int .i64 (i : Int)))]) (fun ⟨i, q, vs⟩ => [(q, { cells := ((vs).map ivc).flatten, sz := 2, elem := (101), st := 0 }), ((nK + 1 + (0 + 1)), { cells := ivc (d ^ i), sz := 2, elem := (101), st := 0 }), (0, { cells := [.sl k (ss.map stc)], sz := 1, elem := (24), st := 0 })]) (fun ⟨i, q, vs⟩ n => (i : Int) ≤ nn ∧ vs = hraw ss goal d i ∧ nK + 2 < q ∧ q < n) (fun ⟨i, q, vs⟩ => nn.toNat - i) (0, (nK + 1 + 3 + (0 + 1 + 1 + 1)), List.replicate ss.length 0) ⟨J, J, J, J, J, J, J, J, trivial⟩ ⟨g0.trans (by rw [List.map_replicate]; rfl), by rw [Int.pow_zero]; exact gG, gG, trivial⟩ ⟨om, rfl, om, om⟩ ?_
 rintro ⟨i, q, vs⟩ n hF
 change WC _ _ _ _ _ (_ :: _) (_ :: _) n _
 obtain ⟨hin, hvs, hq, hqn⟩ := hF
 have hvl : vs.length = ss.length := by rw [hvs]; exact hraw_len _ _ _ _
 refine aL <| aB <| Rg 3 J <| Um J J <| aA (aX J J) J <| Um J J <| Wn <| aL <| bA (α := Nat × (List Int)) (fun ⟨j, us⟩ => [(1, .v (.int .i64 (s : Int))), (2, lvL kg goal), (3, .v (.int .i64 (nn : Int))), (4, .v (.int .i64 (d : Int))), (5, .ptr 0 0), (17, .ptr (nK + 1 + (0 + 1)) 0), (18, .ref q 2 0 ss.length), (19, .v (.int .i64 (i : Int))), (83, lvL kg goal), (84, .v (.int .i64 (goal.length : Int))), (85, .v (.int .i64 (j : Int)))]) (fun ⟨j, us⟩ => [(q, { cells := ((us).map ivc).flatten, sz := 2, elem := (101), st := 0 }), ((nK + 1 + (0 + 1)), { cells := ivc (d ^ i), sz := 2, elem := (101), st := 0 }), (0, { cells := [.sl k (ss.map stc)], sz := 1, elem := (24), st := 0 })]) (fun ⟨j, us⟩ n => j ≤ goal.length ∧ us = hset (goal.take j) (d ^ i) vs ∧ q < n) (fun ⟨j, us⟩ => goal.length - j) (0, vs) ⟨J, J, J, J, J, J, J, J, J, J, J, trivial⟩ ⟨gG, gG, gG, trivial⟩ ⟨Nat.zero_le _, rfl, om⟩ ?_
 rintro ⟨j, us⟩ n hF
 change WC _ _ _ _ _ (_ :: _) (_ :: _) n _
 obtain ⟨hj, hus, hqn2⟩ := hF
 have hul : us.length = ss.length := by rw [hus, hset_len]; exact hvl
 refine Rg 1 J <| aA (bP J J) J <| aW (fun h86 => ?_) (fun h86 => ?_)
 ·refine Wn <| aP J <| aD <| aL ?_
  have hlt := VSet_lt hVS (i := j) om
  refine Rg 3 J <| aA (bS J J J J J om J) J <| aA (dB J J J) J <| Ua J J <| Nk [1,2,3,4,5,17,18,19,21,83,84,85] J <| aH (z := 5) J <| Um J J <| Um J J <| aA (aO (l := lvI (d ^ i)) J J gG J J) J ?_
  refine aA (dF (j := (goal.getD j default).toNat) J J J J om om J) J <| aY (fT (f := ivc) (us := us) (d ^ i) J J J gG (fun _ => rfl) J J om J) ?_
  refine Wn <| aF <| Ck [1,2,3,4,5,17,18,19,83,84,85] J <| aH (z := 2) J <| aA (cI (((j + 1 : Nat) : Int)) (aR J J om) om) J <| Um J J <| Wn <| aG <| ⟨⟨j + 1, us.set (goal.getD j default).toNat (d ^ i)⟩, ⟨J, J, J, J, J, J, J, J, J, J, J, trivial⟩, ⟨gG, gG, gG, trivial⟩, ⟨om, by rw [hset_succ om, ← hus], om⟩, by show goal.length - (j + 1) < goal.length - j; omega⟩
 refine Wn <| aT J <| aZ <| aQ <| aS J <| aB <| Rg 3 J <| Um J J <| Um J J <| aA (eR J J) J <| aW (fun h96 => ?_) (fun h96 => ?_)
 ·refine Nk [1,2,3,4,5,17,18,19,96] J <| aP J <| aZ <| after_exitF J <| aQ <| aS J ?_
  have hul2 : us = hval ss goal d nn.toNat := by rw [hus, hvs, List.take_of_length_le (l := goal) om, show nn.toNat = i by omega]; rfl
  refine Rg 10 J <| Um J J <| Um J J <| aA (dF (j := s.toNat) J J J J om om J) J <| aA (bL (b := lvI (us.getD s.toNat default)) (gL (f := ivc) (us := us) J J gG (fun _ => rfl) J (by decide) om J) J) J ?_
  refine aA (aN J (nB (us.getD s.toNat default) 1152921504606846976 (by decide)) (bM (by intro c hc; simp only [List.mem_cons, List.not_mem_nil, or_false] at hc; rcases hc with rfl | rfl; exact (.agg _ (iJ _)); exact (.v _)))) J <| Um J J <| aA (dN J J) J <| aA (dN J J) J <| dC (fun h156 => ?_) (fun h156 => ?_)
  rotate_left
  ·refine Ua J J <| Ua J J <| Nk [27,28] J <| aB <| Rg 2 J <| Um J J <| aA (cW J) J <| Wn <| aP J <| aB <| Rg 2 J <| Ua J J <| Ua J J <| Wn <| aU <| post (n := 0) (.inr J) J ?_ (eO (.v _) (.v _))
   first | exact (bY (kN h35) h35) | exact (bY (kP ha hrg hnev) (show (7 : Int) ≠ 0 by decide)) | exact (bY (kQ ha hrg hevn hul2 h156) (show (3 : Int) ≠ 0 by decide)) | exact iR ha hrg hevn hul2 h156 | (refine (bY (kO ha ?_) (show (6 : Int) ≠ 0 by decide)); omega)
  refine Ua J J <| Ua J J <| Nk [27,28] J <| aB <| Rg 2 J <| Um J J <| aA (cW J) J <| Wn <| aT J <| aD <| Rg 3 J <| Um J J <| Ua J J <| Ua J J <| Wn <| aM <| post (n := 0) (.inr J) J ?_ (eO (.v _) (.v _))
  first | exact (bY (kN h35) h35) | exact (bY (kP ha hrg hnev) (show (7 : Int) ≠ 0 by decide)) | exact (bY (kQ ha hrg hevn hul2 h156) (show (3 : Int) ≠ 0 by decide)) | exact iR ha hrg hevn hul2 h156 | (refine (bY (kO ha ?_) (show (6 : Int) ≠ 0 by decide)); omega)
 refine Nk [1,2,3,4,5,17,18,19,96] J <| aT J <| aD ?_
 obtain ⟨nJ, hnnJ⟩ : ∃ z, z = n := ⟨n, rfl⟩
 subst hnnJ
 have hub : ∀ x, x ∈ us → 0 ≤ x ∧ x ≤ 8000 ^ i := by rw [hus, hvs, List.take_of_length_le (l := goal) om]; exact hval_bd hV hrg.2.2 i
 refine Rg 4 J <| Um J J <| aA (cI ((ss.length : Int)) (rE J J) om) J <| bD (oMk (a := ss.length) (b := ss.length) J J J J om om (by decide) om (by show 32 * ss.length ≤ _; omega) om) J <| Ua J J <| Wn <| aB <| Rg 4 J <| aA (bB J J J J J) J <| aA (aO J J gG J J) J ?_
 refine aA (aX J J) J <| Um J J <| Nk [1,2,3,4,5,17,18,19,22,101,102,103] J <| aL <| bA (α := Nat × (List Int)) (fun ⟨t, ws⟩ => [(1, .v (.int .i64 (s : Int))), (2, lvL kg goal), (3, .v (.int .i64 (nn : Int))), (4, .v (.int .i64 (d : Int))), (5, .ptr 0 0), (17, .ptr (nK + 1 + (0 + 1)) 0), (18, .ref q 2 0 ss.length), (19, .v (.int .i64 (i : Int))), (22, .ref (nJ + 1 + 3 + (0 + 1 + 1)) 2 0 ss.length), (101, .sl k (ss.map stc)), (102, .v (.int .i64 (ss.length : Int))), (103, .v (.int .i64 (t : Int)))]) (fun ⟨t, ws⟩ => [((nJ + 1 + 3 + (0 + 1 + 1)), { cells := ((ws).map ivc).flatten, sz := 2, elem := (101), st := 0 }), (q, { cells := ((us).map ivc).flatten, sz := 2, elem := (101), st := 0 }), ((nK + 1 + (0 + 1)), { cells := ivc (d ^ i), sz := 2, elem := (101), st := 0 }), (0, { cells := [.sl k (ss.map stc)], sz := 1, elem := (24), st := 0 })]) (fun ⟨t, ws⟩ n => t ≤ ss.length ∧ ws.length = ss.length ∧ (∀ a : Nat, a < t → ws.getD a default = hsum d (brs ss a) us (brs ss a).length) ∧ (∀ a : Nat, t ≤ a → a < ss.length → ws.getD a default = 0) ∧ nJ + 6 < n) (fun ⟨t, ws⟩ => ss.length - t) (0, List.replicate ss.length 0) ⟨J, J, J, J, J, J, J, J, J, J, J, J, trivial⟩ ⟨g0.trans (by rw [List.map_replicate]; rfl), gG, gG, gG, trivial⟩ ⟨Nat.zero_le _, by simp, fun a ha => absurd ha om, fun a _ ha => rep_get0 ha, om⟩ ?_
 rintro ⟨t, ws⟩ n hF
 change WC _ _ _ _ _ (_ :: _) (_ :: _) n _
 obtain ⟨htl, hwl, hws, hw0, hn8⟩ := hF
 refine Rg 1 J <| aA (bP J J) J <| aW (fun h104 => ?_) (fun h104 => ?_)
 rotate_left
 ·refine Wn <| aT J <| aZ <| aQ <| aS J ?_
  have hpl := jE d hrg.2.2 i
  refine dQ (z := 7) J kR <| Dm J J <| aJ (aO (l := lvI (d ^ i)) J J gG J J) J ?_
  refine Dm J J <| aJ (aN J (jW d om) dD) J <| aJ (aN J (iU (d ^ i) d (by have := qZ (i := i) om hpl; omega) (by have := eG (v := d) om; omega)) (bM (by intro c hc; simp only [List.mem_cons, List.not_mem_nil, or_false] at hc; rcases hc with rfl | rfl; exact (.agg _ (iJ _)); exact (.agg _ (iJ _))))) J <| aJ (kU J) J <| cU (cH (cs' := ivc (d ^ i * d)) J J J gG J J J J) ?_
  refine bK (dZ (rn n) (by simp only [List.reverse_cons, List.reverse_nil, List.nil_append, List.cons_append, List.map_cons, List.map_nil, ren, keys, Nat.add_assoc, kY, show rn n (nK + 2) = 0 from mG om]; kernel_rfl)) J <| aF <| Ck [1,2,3,4,5,17,18,19] J <| aH (z := 3) J <| Um J J <| aA (cI (((i + 1 : Nat) : Int)) (aR J J om) om) J <| Ua J J <| Wn <| aG <| ⟨⟨i + 1, _, ws⟩, ⟨J, J, J, J, J, J, J, J, trivial⟩, ⟨gG, by rw [Int.pow_succ]; exact gG, gG, trivial⟩, ⟨om, ?_, om, om⟩, by show nn.toNat - (i + 1) < nn.toNat - i; omega⟩
  rw [hraw_succ, ← hvs, ← List.take_of_length_le (l := goal) (i := j) om, ← hus]
  refine glist_eq (by rw [hwl, hstep_len]) fun a ha => ?_
  rw [hws a om]
  exact (jX (f := fun t => hsum d (brs ss t) us (brs ss t).length) om).symm
 refine Wn <| aP J <| aD <| aL ?_
 have hcl := (hV1.cs _ (bO (us := ss) (i := t) om)).1
 have hvb := kG hV (s := t) om
 refine Rg 6 J <| Um J J <| aA (bS J J J J J om J) J <| aA (dB (l := .agg (stc (ss.getD t default))) J J J) J <| bD (dX J) J <| Ua J J <| aY (cH (cs' := stc (ss.getD t default)) J J J g0 J J J J) <| Nk [1,2,3,4,5,17,18,19,22,23,24,101,102,103] J <| Rg 7 J <| aA (bB J J J J J) J <| aA (aO (l := .sl (ss.getD t default).2.1 ((ss.getD t default).2.2.map chc)) J J gG J J) J ?_
 refine aA (bS (j := 0) J J J J om om J) J <| aA (oFa J J J J J) J <| aA (bL (b := .sl ((ss.getD t default).2.2.getD 0 default).2.1 ((brs ss t).map brc)) (dB J J J) J) J <| aA (aX J J) J <| Um J J <| Nk [1,2,3,4,5,17,18,19,22,23,101,102,103,112,113,114] J <| cO <| bA (α := Nat × (List Int)) (fun ⟨j, w⟩ => [(1, .v (.int .i64 (s : Int))), (2, lvL kg goal), (3, .v (.int .i64 (nn : Int))), (4, .v (.int .i64 (d : Int))), (5, .ptr 0 0), (17, .ptr (nK + 1 + (0 + 1)) 0), (18, .ref q 2 0 ss.length), (19, .v (.int .i64 (i : Int))), (22, .ref (nJ + 1 + 3 + (0 + 1 + 1)) 2 0 ss.length), (23, .v (.int .i64 (t : Int))), (101, .sl k (ss.map stc)), (102, .v (.int .i64 (ss.length : Int))), (103, .v (.int .i64 (t : Int))), (112, .sl ((ss.getD t default).2.2.getD 0 default).2.1 ((brs ss t).map brc)), (113, .v (.int .i64 ((brs ss t).length : Int))), (114, .v (.int .i64 (j : Int)))]) (fun ⟨j, w⟩ => [((nJ + 1 + 3 + (0 + 1 + 1)), { cells := ((w).map ivc).flatten, sz := 2, elem := (101), st := 0 }), (q, { cells := ((us).map ivc).flatten, sz := 2, elem := (101), st := 0 }), ((nK + 1 + (0 + 1)), { cells := ivc (d ^ i), sz := 2, elem := (101), st := 0 }), (0, { cells := [.sl k (ss.map stc)], sz := 1, elem := (24), st := 0 })]) (fun ⟨j, w⟩ n => j ≤ (brs ss t).length ∧ w.length = ss.length ∧ (∀ a : Nat, a < t → w.getD a default = hsum d (brs ss a) us (brs ss a).length) ∧ w.getD t default = hsum d (brs ss t) us j ∧ (∀ a : Nat, t < a → a < ss.length → w.getD a default = 0) ∧ nJ + 6 < n) (fun ⟨j, w⟩ => (brs ss t).length - j) (0, ws) ⟨J, J, J, J, J, J, J, J, J, J, J, J, J, J, J, J, trivial⟩ ⟨gG, gG, gG, gG, trivial⟩ ⟨Nat.zero_le _, hwl, hws, hw0 t om om, fun a ha hb => hw0 a om hb, om⟩ ?_
 rintro ⟨j, w⟩ n hF
 change WC _ _ _ _ _ (_ :: _) (_ :: _) n _
 obtain ⟨hjl, hxl, hxs, hxt, hx0, hn10⟩ := hF
 refine Rg 1 J <| aA (bP J J) J <| aW (fun h115 => ?_) (fun h115 => ?_)
 rotate_left
 ·refine Nk [1,2,3,4,5,17,18,19,22,23,101,102,103,112,113,114,115] J <| aT J <| aZ <| aQ <| fP J <| aF <| Ck [1,2,3,4,5,17,18,19,22,101,102,103] J <| aH (z := 2) J <| aA (cI (((t + 1 : Nat) : Int)) (aR J J om) om) J <| Um J J <| Wn <| aG <| ⟨⟨t + 1, w⟩, ⟨J, J, J, J, J, J, J, J, J, J, J, J, trivial⟩, ⟨gG, gG, gG, gG, trivial⟩, ⟨om, hxl, fun a ha => ?_, fun a ha hb => hx0 a om hb, om⟩, by show ss.length - (t + 1) < ss.length - t; omega⟩
  by_cases e : a = t
  ·rw [e, hxt, show j = (brs ss t).length by omega]
  ·exact hxs a om
 refine Nk [1,2,3,4,5,17,18,19,22,23,101,102,103,112,113,114,115] J <| aP J <| aD <| aL <| Rg 4 J <| aA (bS J J J J J om J) J <| aA (dB (l := .agg (brc ((brs ss t).getD j default))) J J J) J <| bD (dX J) J <| aY (cH (cs' := brc ((brs ss t).getD j default)) J J J g0 J J J J) <| Nk [1,2,3,4,5,17,18,19,22,23,26,101,102,103,112,113,114] J ?_
 have hb0 : ((brs ss t).getD j default).2.2 ≠ 0 := by have := (hvb.vn j om).1; omega
 have hto := hvb.to j om
 obtain ⟨hq8, hw8⟩ := hvb.wgt hrg.2.2 (i := j) om
 have hui := hub _ (bO (us := us) (i := ((brs ss t).getD j default).1.toNat) om)
 have hhs := hsum_bd hvb hrg.2.2 hul hub j om
 have hlb := hvb.len
 obtain ⟨hl1, hl2, hl3⟩ := hits_len (i := i) om hui hw8 hhs om
 rw [← hxt] at hl3
 have hw8' : 0 ≤ d.tdiv ((brs ss t).getD j default).2.2 * ((brs ss t).getD j default).2.1 ∧ d.tdiv ((brs ss t).getD j default).2.2 * ((brs ss t).getD j default).2.1 ≤ 1000 := hw8
 refine dQ (z := 25) J kR <| Dm J J <| Dm J J <| Dm J J <| Dm J J <| aJ (dF (j := t) J J J J om om J) J <| aJ (bL (b := lvI (w.getD t default)) (gL (f := ivc) (us := w) J J gG (fun _ => rfl) J (by decide) om J) J) J ?_
 refine Dm J J <| aJ (bB J J J J J) J <| aJ (aO J J gG J J) J ?_
 refine aJ (dF (j := ((brs ss t).getD j default).1.toNat) J J J J om om J) J <| aJ (bL (b := lvI (us.getD ((brs ss t).getD j default).1.toNat default)) (gL (f := ivc) (us := us) J J gG (fun _ => rfl) J (by decide) om J) J) J ?_
 refine Dm J J <| aJ (bB J J J J J) J <| aJ (bB J J J J J) J <| aJ (aO J J gG J J) J ?_
 refine aJ (jV J J hb0 om) J <| aJ (bB J J J J J) J <| aJ (bB J J J J J) J <| aJ (aO J J gG J J) J ?_
 refine aJ (eS J J om) J <| aJ (bL (b := lvI (wgt d ((brs ss t).getD j default))) (aN J (jW _ om) dD) J) J <| aJ (aN J (iU (us.getD ((brs ss t).getD j default).1.toNat default) (wgt d ((brs ss t).getD j default)) om om) (bM (by intro c hc; simp only [List.mem_cons, List.not_mem_nil, or_false] at hc; rcases hc with rfl | rfl; exact (.agg _ (iJ _)); exact (.agg _ (iJ _))))) J <| aJ (bL (b := lvI ((w.getD t default) + (us.getD ((brs ss t).getD j default).1.toNat default) * wgt d ((brs ss t).getD j default))) (aN J (pS (w.getD t default) ((us.getD ((brs ss t).getD j default).1.toNat default) * wgt d ((brs ss t).getD j default)) om (by have := eD (us.getD ((brs ss t).getD j default).1.toNat default) (wgt d ((brs ss t).getD j default)); omega)) (bM (by intro c hc; simp only [List.mem_cons, List.not_mem_nil, or_false] at hc; rcases hc with rfl | rfl; exact (.agg _ (iJ _)); exact (.agg _ (iJ _))))) J) J <| aJ (dF (j := t) J J J J om om J) J <| cU (fT (f := ivc) (us := w) ((w.getD t default) + (us.getD ((brs ss t).getD j default).1.toNat default) * wgt d ((brs ss t).getD j default)) J J J gG (fun _ => rfl) J J om J) ?_
 refine bK (dZ (rn n) (by simp only [List.reverse_cons, List.reverse_nil, List.nil_append, List.cons_append, List.map_cons, List.map_nil, ren, keys, Nat.add_assoc, kY, show rn n q = 0 from mG om, show rn n (nJ + 6) = 0 from mG om]; kernel_rfl)) J <| aF <| Ck [1,2,3,4,5,17,18,19,22,23,101,102,103,112,113,114] J <| aH (z := 2) J <| aA (cI (((j + 1 : Nat) : Int)) (aR J J om) om) J <| Um J J <| Wn <| aG <| ⟨⟨j + 1, w.set t ((w.getD t default) + (us.getD ((brs ss t).getD j default).1.toNat default) * wgt d ((brs ss t).getD j default))⟩, ⟨J, J, J, J, J, J, J, J, J, J, J, J, J, J, J, J, trivial⟩, ⟨gG, gG, gG, gG, trivial⟩, ⟨om, by rw [List.length_set]; exact hxl, fun a ha => by rw [cM om, if_neg om]; exact hxs a ha, ?_, fun a ha hb => by rw [cM om, if_neg om]; exact hx0 a ha hb, om⟩, by show (brs ss t).length - (j + 1) < (brs ss t).length - j; omega⟩
 rw [cM om, if_pos rfl, hxt]; rfl
end Go.Proofs.YtcblgjaomljikaaGreat
namespace Go.Proofs.YtcblgjaomljikaaGreat
open Go.Ab Go.RowKit
theorem lM (a b : Int) : Run Tryz.prog T E0 (.call 97 [.v (.int .i64 (a : Int)), .v (.int .i64 (b : Int))] (lvM (a, b))) := by
 refine bC Tryz.func97 J J (cX J) <| Rg 1 J <| bD (dX J) J <| Wn <| Rg 4 J <| Um J J <| Um J J <| aA (fH (cs := mc (a, b)) J J J J J) J <| aY (cH (cs' := mc (a, b)) J J J g0 J J J J) <| Wn <| aM ?_
 exact post (n := 0) (.inr J) J J (by simp)
theorem oO (a b : Int) : Run Tryz.prog T E0 (.call 40 [.v (.int .i64 (a : Int)), .v (.int .i64 (b : Int))] (lvM (a, b))) := by
 refine bC Tryz.func40 J J (cX J) <| Rg 1 J <| bD (dX J) J <| Wn <| Rg 4 J <| Um J J <| Um J J <| aA (fH (cs := mc (a, b)) J J J J J) J <| aY (cH (cs' := mc (a, b)) J J J g0 J J J J) <| Wn <| aM ?_
 exact post (n := 0) (.inr J) J J (by simp)
theorem rK  : Run Tryz.prog T E0 (.call 44 [] (lvMo 2 rollS)) := by
 refine bC Tryz.func44 J J (cX J) <| Rg 1 J <| bD (dX J) J <| Wn <| Rg 20 J <| aA (aN J (lM 0 1) dD) J <| aA (aN J (lM 1 2) dD) J <| aA (fH (cs := brc (0, (1, 2))) J J J J J) J <| aA (aN J (lM 1 4) dD) J <| aA (fH (cs := brc (1, (1, 4))) J J J J J) J <| aA (aN J (lM 1 4) dD) J <| aA (fH (cs := brc (2, (1, 4))) J J J J J) J <| aA (bL (b := .sl 2 (rollC.2.2.map brc)) (cS (cs := [_, _, _, _, _, _, _, _, _]) (rows := [[_, _, _], [_, _, _], [_, _, _]]) J J (by decide) J J J) J) J <| aA (fH (cs := chc rollC) J J J J J) J <| aA (bL (b := .sl 2 ([rollC].map chc)) (cS (cs := [_, _, _]) (rows := [[_, _, _]]) J J (by decide) J J J) J) J <| aA (fH (cs := stc ((0, 0), (2, [rollC]))) J J J J J) J <| aA (aN J (qloop_run 1) dD) J <| aA (bL (b := .sl 2 ([lpc 1].map chc)) (cS (cs := [_, _, _]) (rows := [[_, _, _]]) J J (by decide) J J J) J) J <| aA (fH (cs := stc ((0, 0), (2, [lpc 1]))) J J J J J) J <| aA (aN J (qloop_run 2) dD) J <| aA (bL (b := .sl 2 ([lpc 2].map chc)) (cS (cs := [_, _, _]) (rows := [[_, _, _]]) J J (by decide) J J J) J) J <| aA (fH (cs := stc ((0, 1), (2, [lpc 2]))) J J J J J) J <| aA (bL (b := .sl 2 (rollS.map stc)) (cS (cs := [_, _, _, _, _, _, _, _, _]) (rows := [[_, _, _], [_, _, _], [_, _, _]]) J J (by decide) J J J) J) J <| aA (fH (cs := [.sl 2 (rollS.map stc)]) J J J J J) J ?_
 refine aY (cH (cs' := [.sl 2 (rollS.map stc)]) J J J g0 J J J J) <| Nk [0] J <| aM ?_
 exact post (n := 0) (.inr J) J J pN
theorem awk19_run  : Run Tryz.prog T E0 (.call 8 [] (.v (.bool true))) := by
 refine bC Tryz.func8 J J (cX J) <| Rg 1 J <| Ua J J <| Wn <| Rg 10 J <| aA (aN J (rK) dD) J <| aA (aN J (oO 1 3) dD) J <| aA (aN J (oO 1 2) dD) J <| aA (bL (b := .sl 2 (([(1, 3), (1, 2)] : List NM).map mc)) (cS (cs := [_, _, _, _]) (rows := [[_, _], [_, _]]) J J (by decide) J J J) J) J <| aA (bL (b := .tup [lvL (kd2 2) [0, 0, 1], .v (.int .i64 0)]) (aN J (rP 2 2 rollS 0 [(1, 3), (1, 2)] roll_is (by decide) (iv_small _ (by decide))) (bM (by intro c hc; simp only [List.mem_cons, List.not_mem_nil, or_false] at hc; rcases hc with rfl | rfl | rfl; exact pN; exact (.v _); exact (.sl _ _ (bW pO (us := [(1, 3), (1, 2)])))))) roll_run1) J <| Um J J <| aA (dN J J) J <| aA (dN J J) J <| Ua J J <| Ua J J <| Wn <| Rg 9 J <| aA (aN J (rK) dD) J <| aA (aN J (oO 3 4) dD) J <| aA (bL (b := .sl 2 (([(3, 4)] : List NM).map mc)) (cS (cs := [_, _]) (rows := [[_, _]]) J J (by decide) J J J) J) J <| aA (bL (b := .tup [lvL (kd2 1) [0, 2], .v (.int .i64 0)]) (aN J (rP 2 2 rollS 0 [(3, 4)] roll_is (by decide) (iv_small _ (by decide))) (bM (by intro c hc; simp only [List.mem_cons, List.not_mem_nil, or_false] at hc; rcases hc with rfl | rfl | rfl; exact pN; exact (.v _); exact (.sl _ _ (bW pO (us := [(3, 4)])))))) roll_run2) J <| Um J J <| aA (dN J J) J <| aA (dN J J) J ?_
 refine Ua J J <| Ua J J <| Nk [1,2,3,4] J <| Rg 8 J <| aA (aN J (rK) dD) J <| aA (bL (b := lvL 2 [2]) (cS (cs := [_]) (rows := [[_]]) J J (by decide) J J J) J) J <| aA (bL (b := .tup [.v (.int .i64 6), .v (.int .i64 0)]) (aN J (hits_run 2 2 rollS 0 [2] 2 4 roll_is (by decide)) (bM (by intro c hc; simp only [List.mem_cons, List.not_mem_nil, or_false] at hc; rcases hc with rfl | rfl | rfl | rfl | rfl; exact pN; exact (.v _); exact (mH _ _); exact (.v _); exact (.v _)))) roll_hit) J <| Um J J <| aA (dN J J) J <| aA (dN J J) J <| Ua J J <| Ua J J <| Wn <| Rg 25 J <| Um J J <| aA (eR J J) J <| aW (fun h29 => ?_) (fun h29 => ?_)
 rotate_left
 ·refine Um J J <| K1 J J <| K1 J J <| K1 J J <| aA (bF J J) J <| Um J J <| K1 J J <| K1 J J <| aA (bF J J) J <| Um J J <| K1 J J <| K1 J J <| K1 J J <| aA (bF J J) J <| Um J J <| K1 J J <| K1 J J <| aA (bF J J) J <| Um J J <| K1 J J <| K1 J J <| aA (bF J J) J <| Ua J J <| cR ?_
  refine Ck [0] J <| aM ?_
  first | exact post (n := 0) (.inr rfl) rfl rfl (by simp) | (exfalso; omega) | (exfalso; simp_all)
 refine Um J J <| aE J (dU J) J <| aE J (bL (b := lvL 2 [0, 0, 1]) (cS (cs := [_, _, _]) (rows := [[_], [_], [_]]) J J (by decide) J J J) J) J <| aE J (bL (b := .v (.bool true)) (aN J (leq_run (kd2 2) 2 [0, 0, 1] [0, 0, 1] (by decide)) (bM (by intro c hc; simp only [List.mem_cons, List.not_mem_nil, or_false] at hc; rcases hc with rfl | rfl; exact (mH _ _); exact (mH _ _)))) J) J <| aA (bG J J) J <| Um J J <| dC (fun h35 => ?_) (fun h35 => ?_)
 rotate_left
 ·refine K1 J J <| K1 J J <| aA (bF J J) J <| Um J J <| K1 J J <| K1 J J <| K1 J J <| aA (bF J J) J <| Um J J <| K1 J J <| K1 J J <| aA (bF J J) J <| Um J J <| K1 J J <| K1 J J <| aA (bF J J) J <| Ua J J <| Nk [0] J <| aM ?_
  first | exact post (n := 0) (.inr rfl) rfl rfl (by simp) | (exfalso; omega) | (exfalso; simp_all)
 refine aE J (dU J) J <| aE J (eR J J) J <| aW (fun h37 => ?_) (fun h37 => ?_)
 rotate_left
 ·refine aA (bG J J) J <| Um J J <| K1 J J <| K1 J J <| K1 J J <| aA (bF J J) J <| Um J J <| K1 J J <| K1 J J <| aA (bF J J) J <| Um J J <| K1 J J <| K1 J J <| aA (bF J J) J <| Ua J J <| Nk [0] J <| aM ?_
  first | exact post (n := 0) (.inr rfl) rfl rfl (by simp) | (exfalso; omega) | (exfalso; simp_all)
 refine aA (bG J J) J <| Um J J <| aE J (dU J) J <| aE J (bL (b := lvL 2 [0, 2]) (cS (cs := [_, _]) (rows := [[_], [_]]) J J (by decide) J J J) J) J <| aE J (bL (b := .v (.bool true)) (aN J (leq_run (kd2 1) 2 [0, 2] [0, 2] (by decide)) (bM (by intro c hc; simp only [List.mem_cons, List.not_mem_nil, or_false] at hc; rcases hc with rfl | rfl; exact (mH _ _); exact (mH _ _)))) J) J <| aA (bG J J) J <| Um J J <| dC (fun h44 => ?_) (fun h44 => ?_)
 rotate_left
 ·refine K1 J J <| K1 J J <| aA (bF J J) J <| Um J J <| K1 J J <| K1 J J <| aA (bF J J) J <| Ua J J <| Nk [0] J <| aM ?_
  first | exact post (n := 0) (.inr rfl) rfl rfl (by simp) | (exfalso; omega) | (exfalso; simp_all)
 refine aE J (dU J) J <| aE J (eR J J) J <| aW (fun h46 => ?_) (fun h46 => ?_)
 ·refine aA (bG J J) J <| Um J J <| aE J (dU J) J <| aE J (eR J J) J <| aA (bG J J) J <| Ua J J <| Nk [0] J <| aM ?_
  first | exact post (n := 0) (.inr rfl) rfl rfl (by simp) | (exfalso; omega) | (exfalso; simp_all)
 refine aA (bG J J) J <| Um J J <| K1 J J <| K1 J J <| aA (bF J J) J <| Ua J J <| Nk [0] J <| aM ?_
 first | exact post (n := 0) (.inr rfl) rfl rfl (by simp) | (exfalso; omega) | (exfalso; simp_all)
end Go.Proofs.YtcblgjaomljikaaGreat
namespace Go.Proofs.YtcblgjaomljikaaGreat
open Go.Ab Go.RowKit
theorem qfewn_run (m k : Nat) (ss : List Go.Ab.ST) : Run Tryz.prog T E0 (.call 43 [.v (.int .i64 (m : Int)), lvMo k ss] (.v (.bool (fewN m ss)))) := by
 refine bC Tryz.func43 J J (cX J) <| Rg 2 J <| bD (dY J J) J <| Ua J J <| Wn <| aB <| Rg 17 J <| aA (bB J J J J J) J <| aA (aO J J gG J J) J ?_
 refine aA (aX J J) J <| Um J J <| aA (dG J J) J <| aW (fun h13 => ?_) (fun h13 => ?_)
 rotate_left
 ·refine Um J J <| K1 J J <| K1 J J <| K1 J J <| K1 J J <| aA (bF J J) J <| Um J J <| aE J (bB J J J J J) J <| aE J (aO J J gG J J) J ?_
  refine aE J (aX J J) J <| aE J (dG J J) J <| aW (fun h24 => ?_) (fun h24 => ?_)
  ·refine aA (bF J J) J <| Nk [3,25] J <| aP J <| aB <| Rg 1 J <| Ua J J <| Wn <| aU <| post (n := 0) (.inr J) J ?_ dD
   exact congrArg (fun z => LV.v (.bool z)) (show false = fewN m ss by unfold fewN fewM; rw [decide_eq_false (show ¬ ss.length ≤ 45 by omega), Bool.false_and, Bool.and_false])
  refine aA (bF J J) J <| Nk [3,25] J <| aT J <| aD <| aB ?_
  have h6 : (!(decide (m < ss.length) && decide (ss.length ≤ 40))) = true := by first | (rw [decide_eq_false (show ¬ m < ss.length by omega)]; rfl) | (rw [decide_eq_false (show ¬ ss.length ≤ 40 by omega), Bool.and_false]; rfl)
  refine Rg 4 J <| aA (bB J J J J J) J <| aA (aO J J gG J J) J ?_
  refine aA (aX J J) J <| Um J J <| Wn <| aL <| bA (α := Nat) (fun i => [(27, .sl k (ss.map stc)), (28, .v (.int .i64 (ss.length : Int))), (29, .v (.int .i64 (i : Int)))]) (fun i => []) (fun i n => i ≤ ss.length ∧ (ss.take i).all fewS = true) (fun i => ss.length - i) (0) ⟨J, J, J, trivial⟩ trivial ⟨Nat.zero_le _, by simp⟩ ?_
  rintro i n hF
  change WC _ _ _ _ _ (_ :: _) ([]) n _
  obtain ⟨hi, ha⟩ := hF
  refine Rg 1 J <| aA (bP J J) J <| aW (fun h30 => ?_) (fun h30 => ?_)
  rotate_left
  ·refine Wn <| aT J <| aZ <| aQ <| aS J <| Rg 1 J <| Ua J J <| Wn <| aM <| post (n := 0) (.inr J) J ?_ dD
   exact congrArg (fun z => LV.v (.bool z)) (show true = fewN m ss by unfold fewN fewM; rw [h6, decide_eq_true om, gC ha om]; rfl)
  refine Wn <| aP J <| aD <| aL <| Rg 4 J <| aA (bS J J J J J om J) J <| aA (dB (l := .agg (stc (ss.getD i default))) J J J) J <| bD (dX J) J <| aY (cH (cs' := stc (ss.getD i default)) J J J g0 J J J J) <| Wn <| aB <| Rg 4 J <| aA (bB J J J J J) J <| aA (aO J J gG J J) J ?_
  refine aA (aX J J) J <| aA (dG J J) J <| aW (fun h36 => ?_) (fun h36 => ?_)
  ·refine Wn <| aP J <| aB <| Rg 1 J <| Ua J J <| Wn <| aU <| aK <| bE <| aK <| post (n := 0) (.inr J) J ?_ dD
   exact congrArg (fun z => LV.v (.bool z)) (show false = fewN m ss by unfold fewN; rw [pW (i := i) om (fewS_no1 om), Bool.and_false])
  refine Wn <| aT J <| aD <| Rg 4 J <| aA (bB J J J J J) J <| aA (aO J J gG J J) J ?_
  refine aA (aX J J) J <| Um J J <| Nk [27,28,29,38,39,40] J <| cO <| bA (α := Nat) (fun j => [(27, .sl k (ss.map stc)), (28, .v (.int .i64 (ss.length : Int))), (29, .v (.int .i64 (i : Int))), (38, .sl (ss.getD i default).2.1 ((ss.getD i default).2.2.map chc)), (39, .v (.int .i64 ((ss.getD i default).2.2.length : Int))), (40, .v (.int .i64 (j : Int)))]) (fun j => []) (fun j n => j ≤ (ss.getD i default).2.2.length ∧ ((ss.getD i default).2.2.take j).all fewC = true) (fun j => (ss.getD i default).2.2.length - j) (0) ⟨J, J, J, J, J, J, trivial⟩ trivial ⟨Nat.zero_le _, by simp⟩ ?_
  rintro j n hF
  change WC _ _ _ _ _ (_ :: _) ([]) n _
  obtain ⟨hj, hb⟩ := hF
  refine Rg 1 J <| aA (bP J J) J <| aW (fun h41 => ?_) (fun h41 => ?_)
  rotate_left
  ·refine Wn <| aT J <| aZ <| aQ <| fP J <| aF <| aH (z := 2) J <| aA (cI (((i + 1 : Nat) : Int)) (aR J J om) om) J <| Um J J <| Wn <| aG <| ⟨i + 1, ⟨J, J, J, trivial⟩, trivial, ⟨om, fK ha om (by unfold fewS; rw [decide_eq_true om, gC hb om]; rfl)⟩, by show ss.length - (i + 1) < ss.length - i; omega⟩
  refine Wn <| aP J <| aD <| aL <| Rg 4 J <| aA (bS J J J J J om J) J <| aA (dB (l := lvC ((ss.getD i default).2.2.getD j default)) J J J) J <| bD (dX J) J <| aY (cH (cs' := chc ((ss.getD i default).2.2.getD j default)) J J J g0 J J J J) <| Wn <| Rg 4 J <| aA (bB J J J J J) J <| aA (aO J J gG J J) J ?_
  refine aA (aX J J) J <| aA (dG J J) J <| aW (fun h47 => ?_) (fun h47 => ?_)
  rotate_left
  ·refine Wn <| bZ J <| cE <| aF <| aH (z := 2) J <| aA (cI (((j + 1 : Nat) : Int)) (aR J J om) om) J <| Um J J <| Wn <| aG <| ⟨j + 1, ⟨J, J, J, J, J, J, trivial⟩, trivial, ⟨om, fK hb om (decide_eq_true om)⟩, by show (ss.getD i default).2.2.length - (j + 1) < (ss.getD i default).2.2.length - j; omega⟩
  refine Wn <| bU J <| Rg 1 J <| Ua J J <| Nk [4] J <| aM <| aK <| bE <| iF <| aK <| bE <| aK <| post (n := 0) (.inr J) J ?_ dD
  exact congrArg (fun z => LV.v (.bool z)) (show false = fewN m ss by unfold fewN; rw [pW (i := i) om (fewS_no2 (j := j) om om), Bool.and_false])
 refine Um J J <| aE J (bB J J J J J) J <| aE J (aO J J gG J J) J ?_
 refine aE J (aX J J) J <| aE J (mO J J) J <| aW (fun h18 => ?_) (fun h18 => ?_)
 ·refine aA (bG J J) J <| Um J J <| K1 J J <| K1 J J <| K1 J J <| K1 J J <| aA (bG J J) J <| Nk [3,25] J <| aP J <| aB <| Rg 1 J <| Ua J J <| Wn <| aU <| post (n := 0) (.inr J) J ?_ dD
  exact congrArg (fun z => LV.v (.bool z)) (show false = fewN m ss by unfold fewN; rw [decide_eq_true (show m < ss.length by omega), decide_eq_true (show ss.length ≤ 40 by omega)]; rfl)
 refine aA (bG J J) J <| Um J J <| aE J (bB J J J J J) J <| aE J (aO J J gG J J) J ?_
 refine aE J (aX J J) J <| aE J (dG J J) J <| aW (fun h24 => ?_) (fun h24 => ?_)
 ·refine aA (bF J J) J <| Nk [3,25] J <| aP J <| aB <| Rg 1 J <| Ua J J <| Wn <| aU <| post (n := 0) (.inr J) J ?_ dD
  exact congrArg (fun z => LV.v (.bool z)) (show false = fewN m ss by unfold fewN fewM; rw [decide_eq_false (show ¬ ss.length ≤ 45 by omega), Bool.false_and, Bool.and_false])
 refine aA (bF J J) J <| Nk [3,25] J <| aT J <| aD <| aB ?_
 have h6 : (!(decide (m < ss.length) && decide (ss.length ≤ 40))) = true := by first | (rw [decide_eq_false (show ¬ m < ss.length by omega)]; rfl) | (rw [decide_eq_false (show ¬ ss.length ≤ 40 by omega), Bool.and_false]; rfl)
 refine Rg 4 J <| aA (bB J J J J J) J <| aA (aO J J gG J J) J ?_
 refine aA (aX J J) J <| Um J J <| Wn <| aL <| bA (α := Nat) (fun i => [(27, .sl k (ss.map stc)), (28, .v (.int .i64 (ss.length : Int))), (29, .v (.int .i64 (i : Int)))]) (fun i => []) (fun i n => i ≤ ss.length ∧ (ss.take i).all fewS = true) (fun i => ss.length - i) (0) ⟨J, J, J, trivial⟩ trivial ⟨Nat.zero_le _, by simp⟩ ?_
 rintro i n hF
 change WC _ _ _ _ _ (_ :: _) ([]) n _
 obtain ⟨hi, ha⟩ := hF
 refine Rg 1 J <| aA (bP J J) J <| aW (fun h30 => ?_) (fun h30 => ?_)
 rotate_left
 ·refine Wn <| aT J <| aZ <| aQ <| aS J <| Rg 1 J <| Ua J J <| Wn <| aM <| post (n := 0) (.inr J) J ?_ dD
  exact congrArg (fun z => LV.v (.bool z)) (show true = fewN m ss by unfold fewN fewM; rw [h6, decide_eq_true om, gC ha om]; rfl)
 refine Wn <| aP J <| aD <| aL <| Rg 4 J <| aA (bS J J J J J om J) J <| aA (dB (l := .agg (stc (ss.getD i default))) J J J) J <| bD (dX J) J <| aY (cH (cs' := stc (ss.getD i default)) J J J g0 J J J J) <| Wn <| aB <| Rg 4 J <| aA (bB J J J J J) J <| aA (aO J J gG J J) J ?_
 refine aA (aX J J) J <| aA (dG J J) J <| aW (fun h36 => ?_) (fun h36 => ?_)
 ·refine Wn <| aP J <| aB <| Rg 1 J <| Ua J J <| Wn <| aU <| aK <| bE <| aK <| post (n := 0) (.inr J) J ?_ dD
  exact congrArg (fun z => LV.v (.bool z)) (show false = fewN m ss by unfold fewN; rw [pW (i := i) om (fewS_no1 om), Bool.and_false])
 refine Wn <| aT J <| aD <| Rg 4 J <| aA (bB J J J J J) J <| aA (aO J J gG J J) J ?_
 refine aA (aX J J) J <| Um J J <| Nk [27,28,29,38,39,40] J <| cO <| bA (α := Nat) (fun j => [(27, .sl k (ss.map stc)), (28, .v (.int .i64 (ss.length : Int))), (29, .v (.int .i64 (i : Int))), (38, .sl (ss.getD i default).2.1 ((ss.getD i default).2.2.map chc)), (39, .v (.int .i64 ((ss.getD i default).2.2.length : Int))), (40, .v (.int .i64 (j : Int)))]) (fun j => []) (fun j n => j ≤ (ss.getD i default).2.2.length ∧ ((ss.getD i default).2.2.take j).all fewC = true) (fun j => (ss.getD i default).2.2.length - j) (0) ⟨J, J, J, J, J, J, trivial⟩ trivial ⟨Nat.zero_le _, by simp⟩ ?_
 rintro j n hF
 change WC _ _ _ _ _ (_ :: _) ([]) n _
 obtain ⟨hj, hb⟩ := hF
 refine Rg 1 J <| aA (bP J J) J <| aW (fun h41 => ?_) (fun h41 => ?_)
 rotate_left
 ·refine Wn <| aT J <| aZ <| aQ <| fP J <| aF <| aH (z := 2) J <| aA (cI (((i + 1 : Nat) : Int)) (aR J J om) om) J <| Um J J <| Wn <| aG <| ⟨i + 1, ⟨J, J, J, trivial⟩, trivial, ⟨om, fK ha om (by unfold fewS; rw [decide_eq_true om, gC hb om]; rfl)⟩, by show ss.length - (i + 1) < ss.length - i; omega⟩
 refine Wn <| aP J <| aD <| aL <| Rg 4 J <| aA (bS J J J J J om J) J <| aA (dB (l := lvC ((ss.getD i default).2.2.getD j default)) J J J) J <| bD (dX J) J <| aY (cH (cs' := chc ((ss.getD i default).2.2.getD j default)) J J J g0 J J J J) <| Wn <| Rg 4 J <| aA (bB J J J J J) J <| aA (aO J J gG J J) J ?_
 refine aA (aX J J) J <| aA (dG J J) J <| aW (fun h47 => ?_) (fun h47 => ?_)
 rotate_left
 ·refine Wn <| bZ J <| cE <| aF <| aH (z := 2) J <| aA (cI (((j + 1 : Nat) : Int)) (aR J J om) om) J <| Um J J <| Wn <| aG <| ⟨j + 1, ⟨J, J, J, J, J, J, trivial⟩, trivial, ⟨om, fK hb om (decide_eq_true om)⟩, by show (ss.getD i default).2.2.length - (j + 1) < (ss.getD i default).2.2.length - j; omega⟩
 refine Wn <| bU J <| Rg 1 J <| Ua J J <| Nk [4] J <| aM <| aK <| bE <| iF <| aK <| bE <| aK <| post (n := 0) (.inr J) J ?_ dD
 exact congrArg (fun z => LV.v (.bool z)) (show false = fewN m ss by unfold fewN; rw [pW (i := i) om (fewS_no2 (j := j) om om), Bool.and_false])
theorem few19_run (k kl kp kn : Nat) (ss : List Go.Ab.ST) (l p : List Int) (ns : List NM) : Run Tryz.prog T E0 (.call 7 [lvMo k ss, lvL kl l, lvL kp p, .sl kn (ns.map mc)] (.v (.bool (few19 ss l p ns)))) := by
 refine bC Tryz.func7 J J (cX J) <| Rg 2 J <| bD (dY J J) J <| Ua J J <| Wn <| Rg 18 J <| aA (aO (l := lvMo k ss) J J gG J J) J ?_
 refine aA (aN J (qfewn_run 7 k ss) dD) J <| dC (fun h10 => ?_) (fun h10 => ?_)
 rotate_left
 ·refine Um J J <| K1 J J <| K1 J J <| K1 J J <| aA (bF J J) J <| Um J J <| K1 J J <| K1 J J <| K1 J J <| aA (bF J J) J <| Um J J <| K1 J J <| K1 J J <| K1 J J <| aA (bF J J) J <| Ua J J <| Nk [8] J <| aM <| post (n := 0) (.inr J) J ?_ dD
  exact congrArg (fun z => LV.v (.bool z)) (by unfold few19; first | (rw [h10]; rfl) | (rw [decide_eq_false (show ¬ l.length ≤ 60 by omega), Bool.and_false, Bool.false_and, Bool.false_and]) | (rw [decide_eq_false (show ¬ p.length ≤ 260 by omega), Bool.and_false, Bool.false_and]) | (rw [h10, decide_eq_true (show l.length ≤ 60 by omega), decide_eq_true (show p.length ≤ 260 by omega), Bool.true_and, Bool.true_and, Bool.true_and]; exact decide_eq_decide.2 om))
 refine Um J J <| aE J (dU J) J <| aE J (aX J J) J <| aE J (mO J J) J <| aW (fun h14 => ?_) (fun h14 => ?_)
 rotate_left
 ·refine aA (bG J J) J <| Um J J <| K1 J J <| K1 J J <| K1 J J <| aA (bF J J) J <| Um J J <| K1 J J <| K1 J J <| K1 J J <| aA (bF J J) J <| Ua J J <| Nk [8] J <| aM <| post (n := 0) (.inr J) J ?_ dD
  exact congrArg (fun z => LV.v (.bool z)) (by unfold few19; first | (rw [h10]; rfl) | (rw [decide_eq_false (show ¬ l.length ≤ 60 by omega), Bool.and_false, Bool.false_and, Bool.false_and]) | (rw [decide_eq_false (show ¬ p.length ≤ 260 by omega), Bool.and_false, Bool.false_and]) | (rw [h10, decide_eq_true (show l.length ≤ 60 by omega), decide_eq_true (show p.length ≤ 260 by omega), Bool.true_and, Bool.true_and, Bool.true_and]; exact decide_eq_decide.2 om))
 refine aA (bG J J) J <| Um J J <| aE J (dU J) J <| aE J (aX J J) J <| aE J (mO J J) J <| aW (fun h19 => ?_) (fun h19 => ?_)
 ·refine aA (bG J J) J <| Um J J <| aE J (dU J) J <| aE J (aX J J) J <| aE J (mO J J) J <| aA (bG J J) J <| Ua J J <| Nk [8] J <| aM <| post (n := 0) (.inr J) J ?_ dD
  exact congrArg (fun z => LV.v (.bool z)) (by unfold few19; first | (rw [h10]; rfl) | (rw [decide_eq_false (show ¬ l.length ≤ 60 by omega), Bool.and_false, Bool.false_and, Bool.false_and]) | (rw [decide_eq_false (show ¬ p.length ≤ 260 by omega), Bool.and_false, Bool.false_and]) | (rw [h10, decide_eq_true (show l.length ≤ 60 by omega), decide_eq_true (show p.length ≤ 260 by omega), Bool.true_and, Bool.true_and, Bool.true_and]; exact decide_eq_decide.2 om))
 refine aA (bG J J) J <| Um J J <| K1 J J <| K1 J J <| K1 J J <| aA (bF J J) J <| Ua J J <| Nk [8] J <| aM <| post (n := 0) (.inr J) J ?_ dD
 exact congrArg (fun z => LV.v (.bool z)) (by unfold few19; first | (rw [h10]; rfl) | (rw [decide_eq_false (show ¬ l.length ≤ 60 by omega), Bool.and_false, Bool.false_and, Bool.false_and]) | (rw [decide_eq_false (show ¬ p.length ≤ 260 by omega), Bool.and_false, Bool.false_and]) | (rw [h10, decide_eq_true (show l.length ≤ 60 by omega), decide_eq_true (show p.length ≤ 260 by omega), Bool.true_and, Bool.true_and, Bool.true_and]; exact decide_eq_decide.2 om))
end Go.Proofs.YtcblgjaomljikaaGreat
namespace Go.Proofs.YtcblgjaomljikaaGreat
open Go.Ab Go.RowKit
theorem rC (k1 k2 : Nat) (ns : List NM) (ln : ns.length < 1099511627776) : Run Tryz.prog T E0 (.call 13 [.sl k1 (ns.map mc), .sl k2 (ns.map mc)] (.v (.bool true))) := by
 refine bC Tryz.func13 J J (cX J) <| Rg 1 J <| Ua J J <| Wn <| aB <| Rg 5 J <| Um J J <| aA (aX J J) J <| Um J J <| aA (aX J J) J <| aA (fS J J) J <| aW (fun h10 => ?_) (fun h10 => ?_)
 ·exact absurd J h10
 refine Wn <| aT J <| aD <| aB <| Rg 3 J <| Um J J <| aA (aX J J) J <| Um J J <| Wn <| aL <| bA (α := Nat) (fun i => [(0, .sl k1 (ns.map mc)), (1, .sl k2 (ns.map mc)), (12, .v (.int .i64 (ns.length : Int))), (13, .v (.int .i64 (i : Int)))]) (fun i => []) (fun i n => i ≤ ns.length) (fun i => ns.length - i) (0) ⟨J, J, J, J, trivial⟩ trivial (Nat.zero_le _) ?_
 rintro i n hF
 change WC _ _ _ _ _ (_ :: _) ([]) n _
 refine Rg 1 J <| aA (bP J J) J <| aW (fun h14 => ?_) (fun h14 => ?_)
 rotate_left
 ·refine Wn <| aT J <| aZ <| aQ <| aS J <| Rg 1 J <| Ua J J <| Wn <| aM ?_
  exact post (n := 0) (.inr J) J J (by simp)
 refine Wn <| aP J <| aD <| aL <| Rg 2 J <| Um J J <| Ua J J <| Wn <| bQ (z := 9) J kR <| Dm J J <| Dm J J <| aJ (bS J J J J J om J) J <| aJ (dB (l := .agg [_, _]) J J J) J <| Dm J J <| Dm J J <| aJ (bS J J J J J om J) J <| aJ (dB (l := .agg [_, _]) J J J) J <| aJ (bL (b := .v (.bool false)) (oNeS J J J J J) (by simp)) J <| bK (aV kR) J <| Ck [0,1,12,13,24] J <| bZ J <| cE <| aF <| aH (z := 2) J ?_
 refine aA (cI (((i + 1 : Nat) : Int)) (aR J J om) om) J <| Um J J <| Wn <| aG <| ⟨i + 1, ⟨J, J, J, J, trivial⟩, trivial, by show i + 1 ≤ _; omega, by show ns.length - (i + 1) < ns.length - i; omega⟩
theorem simShares_law (k kp : Nat) (ss : List Go.Ab.ST) (p : List Int) (hI : ∀ s, s ∈ ss → IS s) : Run Tryz.prog T E0 (.call 3 [lvMo k ss, lvL kp p] (.v (.bool true))) := by
 refine bC Tryz.func3 J J (cX J) ?_
 have J14 : ∀ (f : Int) (kw ky : Nat) (W Y : List NM) (n : Nat) (lp : p.length ≤ 260) (hj : (W, Y, f) = shrP ss p), WC Tryz.prog T E0 Tryz.f3.ntmps (codeR (codeR (codeR (codeR (codeR (codeOf Tryz.f3)))))) [(1, lvL kp p), (2, .ptr 0 0), (5, .v (.int .i64 (f))), (6, .sl kw (W.map mc)), (7, .sl ky (Y.map mc))] [(0, { cells := [.sl k (ss.map stc)], sz := 1, elem := (24), st := 0 })] n (Post T Tryz.f3.results.toList (.v (.bool true))) := by
  intro f kw ky W Y n lp hj
  obtain ⟨h1, h2, h3⟩ : W = (shrP ss p).1 ∧ Y = (shrP ss p).2.1 ∧ f = (shrP ss p).2.2 := by rw [← hj]; exact ⟨rfl, rfl, rfl⟩
  subst h1
  subst h2
  subst h3
  have hlen := shrP_len (ss := ss) lp
  refine Rg 10 J <| aA (aO (l := lvMo k ss) J J gG J J) J ?_
  refine Um J J <| aA (bL (b := .tup [.sl (kd (shrP ss p).1.length) ((shrP ss p).1.map mc), .sl (kd (shrP ss p).2.1.length) ((shrP ss p).2.1.map mc), .v (.int .i64 ((shrP ss p).2.2))]) (aN J (simshr_run k kp ss p hI om) (bM (by intro c hc; simp only [List.mem_cons, List.not_mem_nil, or_false] at hc; rcases hc with rfl | rfl; exact pN; exact (mH _ _)))) J) J <| Um J J <| aA (dN J J) J <| aA (dN J J) J <| aA (dN J J) J <| Ua J J <| Ua J J <| Ua J J <| Nk [5,6,7,12,13,14] J <| Rg 17 J <| Um J J <| Um J J <| aA (bL (b := .v (.bool true)) (eR J J) (by simp)) J <| Um J J <| aE J (dU J) J <| aE J (dU J) J <| aE J (aN J (rC _ _ (shrP ss p).1 om) (bM (by intro c hc; simp only [List.mem_cons, List.not_mem_nil, or_false] at hc; rcases hc with rfl | rfl; exact (.sl _ _ (bW pO)); exact (.sl _ _ (bW pO))))) J <| aA (bG J J) J <| Um J J <| aE J (dU J) J <| aE J (dU J) J <| aE J (aN J (rC _ _ (shrP ss p).2.1 om) (bM (by intro c hc; simp only [List.mem_cons, List.not_mem_nil, or_false] at hc; rcases hc with rfl | rfl; exact (.sl _ _ (bW pO)); exact (.sl _ _ (bW pO))))) J ?_
  refine aA (bG J J) J <| Um J J <| aE J (aN J (awk19_run) dD) J <| aA (bG J J) J <| Ua J J <| Nk [4] J <| aM <| post (n := 0) (.inr J) J ?_ dD
  rfl
 refine Rg 2 J <| bD (dY J J) J <| Ua J J <| Wn <| aB <| Rg 4 J <| aA (aO (l := lvMo k ss) J J gG J J) J ?_
 refine Um J J <| aA (aN J (few19_run k 0 kp 0 ss [] p []) (bM (by intro c hc; simp only [List.mem_cons, List.not_mem_nil, or_false] at hc; rcases hc with rfl | rfl | rfl | rfl; exact pN; exact (.sl _ _ (by simp)); exact (mH _ _); exact (.sl _ _ (by simp))))) J <| dC (fun h17 => ?_) (fun h17 => ?_)
 rotate_left
 ·refine aA (cW J) J <| Wn <| aP J <| aB <| Rg 2 J <| aA (aN J (awk19_run) dD) J <| Ua J J <| Wn <| aU ?_
  exact post (n := 0) (.inr J) J J (by simp)
 refine aA (cW J) J <| Wn <| aT J <| aD ?_
 have lp : p.length ≤ 260 := (few19_ok h17).2.1
 refine Rg 3 J <| aA (aO (l := lvMo k ss) J J gG J J) J ?_
 refine aA (aN J (qask_run k 0 0 0 ss [] [] [] hI (by show 0 < _; omega) (by show 0 < _; omega) (by intro a ha; cases ha) (by show 0 < _; omega)) (bM (by intro c hc; simp only [List.mem_cons, List.not_mem_nil, or_false] at hc; rcases hc with rfl | rfl | rfl | rfl; exact pN; exact (.sl _ _ (by simp)); exact (.sl _ _ (by simp)); exact (.sl _ _ (by simp))))) J <| Ua J J <| Wn <| Rg 2 J <| Ua J J <| Ua J J <| Wn <| aB <| Rg 2 J <| Um J J <| aA (eR J J) J <| aW (fun h23 => ?_) (fun h23 => ?_)
 rotate_left
 ·refine Nk [1,2,5,6,7,23] J <| aT J <| aD <| Ck [1,2,5,6,7] J <| eL [(0, { cells := [.sl k (ss.map stc)], sz := 1, elem := (24), st := 0 })] ⟨gG, trivial⟩ ?_
  exact J14 _ 0 0 [] [] _ lp (shrP_1 h23)
 refine Nk [1,2,5,6,7,23] J <| aP J <| aB ?_
 obtain ⟨a, b, c, hc0, hal, hbl, hc1, hc2⟩ := shrP_parts (p := p) h23
 have hV := (ask0 h23).1
 refine Rg 10 J <| aA (aO (l := lvMo k ss) J J gG J J) J ?_
 refine Um J J <| aA (bL (b := .tup [.sl (kd a.length) (a.map qc), .sl (kd b.length) (b.map qc), .v (.bool c)]) (aN J (qshr_run k kp ss p hV om) (bM (by intro c hc; simp only [List.mem_cons, List.not_mem_nil, or_false] at hc; rcases hc with rfl | rfl; exact pN; exact (mH _ _)))) hc0) J <| Um J J <| aA (dN J J) J <| aA (dN J J) J <| aA (dN J J) J <| dC (fun h30 => ?_) (fun h30 => ?_)
 rotate_left
 ·refine Ua J J <| Ua J J <| Ua J J <| Nk [1,2,6,7,8,9,10] J <| aB <| Rg 2 J <| Um J J <| aA (cW J) J <| Wn <| aP J <| Rg 1 J <| Ua J J <| Nk [1,2,5,6,7] J <| eL [(0, { cells := [.sl k (ss.map stc)], sz := 1, elem := (24), st := 0 })] ⟨gG, trivial⟩ ?_
  exact J14 _ 0 0 [] [] _ lp (hc1 (by assumption))
 refine Ua J J <| Ua J J <| Ua J J <| Nk [1,2,6,7,8,9,10] J <| aB <| Rg 2 J <| Um J J <| aA (cW J) J <| Wn <| aT J <| aB <| Rg 1 J <| Ua J J <| Wn <| aB ?_
 obtain ⟨o, ho⟩ : ∃ o, a.mapM outN = o := ⟨_, rfl⟩
 obtain ⟨o2, ho2⟩ : ∃ o2, b.mapM outN = o2 := ⟨_, rfl⟩
 obtain ⟨hq1, hq2, hq3⟩ := hc2 (by assumption) o o2 ho ho2
 refine Rg 7 J <| Um J J <| aA (bL (b := .tup [.sl (kd (o.getD []).length) ((o.getD []).map mc), .v (.int .i64 (if o.isSome = true then 0 else 3))]) (aN J (qnums_run (kd a.length) a om) (bM (by intro c hc; simp only [List.mem_cons, List.not_mem_nil, or_false] at hc; rcases hc with rfl; exact (.sl _ _ (bW dqc))))) (by rw [← ho]; rfl)) J <| Um J J <| aA (dN J J) J <| aA (dN J J) J <| Ua J J <| Ua J J <| Nk [1,2,5,6,9] J <| aB <| Rg 7 J <| Um J J <| aA (bL (b := .tup [.sl (kd (o2.getD []).length) ((o2.getD []).map mc), .v (.int .i64 (if o2.isSome = true then 0 else 3))]) (aN J (qnums_run (kd b.length) b om) (bM (by intro c hc; simp only [List.mem_cons, List.not_mem_nil, or_false] at hc; rcases hc with rfl; exact (.sl _ _ (bW dqc))))) (by rw [← ho2]; rfl)) J <| Um J J <| aA (dN J J) J <| aA (dN J J) J <| Ua J J <| Ua J J <| Wn <| aB <| Rg 6 J <| Um J J <| aA (fS J J) J ?_
 refine aW (fun h44 => ?_) (fun h44 => ?_)
 ·refine Um J J <| K1 J J <| K1 J J <| aA (bG J J) J <| Nk [1,2,5,6,7,48] J <| aP J <| Rg 3 J <| Ua J J <| Ua J J <| Ua J J <| Nk [1,2,5,6,7] J <| eL [(0, { cells := [.sl k (ss.map stc)], sz := 1, elem := (24), st := 0 })] ⟨gG, trivial⟩ ?_
  exact J14 _ 0 0 [] [] _ lp (hq1 h44)
 refine Um J J <| aE J (dU J) J <| aE J (fS J J) J <| aW (fun h47 => ?_) (fun h47 => ?_)
 rotate_left
 ·refine aA (bF J J) J <| Nk [1,2,5,6,7,48] J <| aT J <| aD <| Ck [1,2,5,6,7] J <| eL [(0, { cells := [.sl k (ss.map stc)], sz := 1, elem := (24), st := 0 })] ⟨gG, trivial⟩ ?_
  exact J14 _ _ _ _ _ _ lp (hq3 h44 h47)
 refine aA (bF J J) J <| Nk [1,2,5,6,7,48] J <| aP J <| Rg 3 J <| Ua J J <| Ua J J <| Ua J J <| Nk [1,2,5,6,7] J <| eL [(0, { cells := [.sl k (ss.map stc)], sz := 1, elem := (24), st := 0 })] ⟨gG, trivial⟩ ?_
 exact J14 _ 0 0 [] [] _ lp (hq2 h44 h47)
end Go.Proofs.YtcblgjaomljikaaGreat
