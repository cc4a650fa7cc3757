/- Part D of the proof of lpCheck_holds: what it rests on. No condition. -/
import Derived.Test.YtohfklpfeilcpaaGreatLpC
set_option linter.unusedVariables false
set_option linter.unusedSimpArgs false
set_option maxRecDepth 100000
set_option maxHeartbeats 1000000
namespace Go.Proofs.YtohfklpfeilcpaaGreat
open Go.Ab Go.RowKit
theorem oI (v w : Int) (hw0 : w ≠ 0) (hv : len32 v < 549755813888) (hw : len32 w < 549755813888) : Run Tryz.prog T E0 (.call 134 [lvI v, lvI w] (.tup [lvI (v.tdiv w), lvI (v.tmod w)])) := by
 obtain ⟨xs, hxs, dv, qv, tv, lxv⟩ := xs_of v
 obtain ⟨ys, hys, dw, qw, tw, lyw⟩ := xs_of w
 have bv := pS v
 have bw := pS w
 have hwa : 0 < w.natAbs := by omega
 have hyl : 0 < ys.length := by
  rcases Nat.eq_zero_or_pos ys.length with h | h
  ·rw [List.length_eq_zero_iff.1 h] at dw; simp [val] at dw; omega
  ·exact h
 refine bL Tryz.func134 J J (dH J) ?_
 have J3 : ∀  (n : Nat) , WC Tryz.prog T E0 Tryz.f134.ntmps (codeR (codeR (codeOf Tryz.f134))) [(2, .ptr 0 0), (3, .ptr 1 0), (4, .ptr 2 0), (5, .ptr 3 0)] [(3, { cells := [.v (.int .i64 0), .sl 0 []], sz := 2, elem := 86, st := 0 }), (2, { cells := [.v (.int .i64 0), .sl 0 []], sz := 2, elem := 86, st := 0 }), (1, { cells := (lvI w).cells, sz := 2, elem := 86, st := 0 }), (0, { cells := (lvI v).cells, sz := 2, elem := 86, st := 0 })] n (Post T Tryz.f134.results.toList (.tup [lvI (v.tdiv w), lvI (v.tmod w)])) := by
  intro  n
  refine Rg 7 J <| aA (aM (l := .agg [_, _]) J J J J J) J <| aA (aK J ((hxs ▸ gC v)) (by simp)) J <| Um J J <| aA (fB J J) J <| aA (fB J J) J <| Ua J J <| Ua J J <| Wn <| Rg 7 J <| aA (aM (l := .agg [_, _]) J J J J J) J <| aA (aK J ((hys ▸ gC w)) (by simp)) J <| Um J J <| aA (fB J J) J <| aA (fB J J) J <| Ua J J <| Ua J J <| Nk [2,4,5,6,7,8,9] J <| aB <| Rg 4 J <| Um J J <| Um J J <| aA (aK J (lY 1 1 xs ys qv qw tv tw om om) (by simp)) J ?_
  refine aA (bZ J J) J <| bB (fun h47 => ?_) (fun h47 => ?_)
  ·refine Wn <| aT J <| aB <| bR (z := 4) J kR <| aC (gS (cs := [_, _]) J J J J J) J <| aC (aM (l := .agg [_, _]) J J J J J) J <| cO (cP (cs' := [_, _]) J J J J J J J J) <| cO (cP (cs' := [_, _]) J J J J J J J J) <| bG (aQ kR) J <| bI <| post (n := 0) (.inr J) J ?_ (by simp)
   obtain ⟨e1, e2⟩ := quo_small (v := v) (w := w) (by have := Int.sign_neg_iff.1 (show ((val 4294967296 xs : Int) - val 4294967296 ys).sign < 0 from h47); omega)
   rw [e1, e2]; rfl
  refine Wn <| aX J <| aH <| aB ?_
  have hge : val 4294967296 ys ≤ val 4294967296 xs := by
   rcases Nat.lt_or_ge (val 4294967296 xs) (val 4294967296 ys) with h | h
   ·exact absurd (Int.sign_neg_iff.2 (show (val 4294967296 xs : Int) - val 4294967296 ys < 0 by omega)) h47
   ·exact h
  have hv0 : v ≠ 0 := by omega
  have hpm := sign_pm hv0 hw0
  have hp1 := sign_1 hv0
  have hll : ys.length ≤ xs.length := by
   rcases Nat.lt_or_ge xs.length ys.length with h | h
   ·have := eJ (by decide) qv tw h; omega
   ·exact h
  obtain ⟨σ, hσ⟩ : ∃ σ, σ = v.sign * w.sign := ⟨_, rfl⟩
  rw [← hσ] at hpm
  refine Rg 3 J <| Um J J <| aA (aW J J) J <| aA (dV J J) J <| bB (fun h52 => ?_) (fun h52 => ?_)
  rotate_left
  ·refine Wn <| aX J <| aH ?_
   have hy2 : 2 ≤ ys.length := by omega
   obtain ⟨r, hr, qs, rs, rfl, hqd, hrd, hval, hrest, hql, hrl⟩ := long_run 1 1 xs ys qv qw tw hy2 hll om
   obtain ⟨hq1, hq2⟩ := mS (v := v) (w := w) (q := val 4294967296 qs) (r := val 4294967296 rs) (by rw [← dw, ← dv]; exact hval) (by rw [← dw]; exact hrest)
   refine Rg 8 J <| Um J J <| Um J J <| aA (aK J (hr) (by simp)) J <| Um J J <| aA (fB J J) J <| aA (fB J J) J <| Ua J J <| Ua J J <| Nk [4,5,6,8,12,13] J <| Rg 10 J <| Um J J <| Um J J <| aA (cI σ (gH J J (by rw [← hσ]; omega)) hσ.symm) J <| Um J J <| aA (aK J (gF σ 1 qs om (.inl J) hqd om) (by simp)) J <| Um J J <| Um J J <| aA (aK J (gF v.sign 1 rs om (.inl J) hrd om) (by simp)) J <| bH (cP (cs' := [_, _]) J J J J J J J J) <| bH (cP (cs' := [_, _]) J J J J J J J J) <| Wn <| aN ?_
   refine post (n := 0) (.inr J) J ?_ (by simp)
   rw [hq1, hq2, ← hσ]; rfl
  refine Wn <| aT J <| aB ?_
  have hy1 : ys.length = 1 := by omega
  have hyv : val 4294967296 ys = ys.getD 0 default := by
   obtain ⟨y, rfl⟩ := List.length_eq_one_iff.1 hy1
   simp [val]
  have hyb : ys.getD 0 default < 4294967296 := bP qw om
  obtain ⟨r, hr, ds, rest, rfl, hdd, hrest, hval, hlen⟩ := short_run 1 xs (ys.getD 0 default) qv om hyb om
  obtain ⟨hq1, hq2⟩ := mS (v := v) (w := w) (q := val 4294967296 ds) (r := rest) (by rw [← dw, ← dv, hyv]; exact hval) (by rw [← dw, hyv]; exact hrest)
  have hrd : Dg 4294967296 [rest] := by intro d hd; simp at hd; omega
  refine Rg 10 J <| Um J J <| Um J J <| aA (cG (j := 0) J J J J om om J) J <| aA (dY J J J) J <| aA (aK J (hr) (by simp)) J <| Um J J <| aA (fB J J) J <| aA (fB J J) J <| Ua J J <| Ua J J <| Nk [4,5,6,8,10,11] J <| aB <| Rg 11 J <| Um J J <| Um J J <| aA (cI σ (gH J J (by rw [← hσ]; omega)) hσ.symm) J <| Um J J <| aA (aK J (gF σ 1 ds om (.inl J) hdd om) (by simp)) J <| Um J J <| Um J J <| aA (dJ (cs := [_]) (rows := [[_]]) J J (by decide) J J J) J <| aA (aK J (gF v.sign 2 [rest] om (.inr J) hrd (by simp)) (by simp)) J ?_
  refine bH (cP (cs' := [_, _]) J J J J J J J J) <| bH (cP (cs' := [_, _]) J J J J J J J J) <| Nk [4,5] J <| bI <| post (n := 0) (.inr J) J ?_ (by simp)
  rw [hq1, hq2, ← hσ]; exact congrArg (fun z => LV.tup [lvI (σ * (val 4294967296 ds : Int)), lvI (v.sign * z)]) (by simp [val])
 refine Rg 4 J <| bJ (eO J J) J <| bJ (eO J J) J <| bJ (fD J) J <| bJ (fD J) J <| Wn <| aB <| Rg 8 J <| aA (aU J J J J J) J <| aA (aM J J J J J) J <| aA (pY J J) J <| dT (fun h16 => ?_) (fun h16 => ?_)
 rotate_left
 ·refine Um J J <| K1 J J <| K1 J J <| K1 J J <| aA (bK J J) J <| Wn <| aX J <| aH <| Ck [2,3,4,5] J ?_
  exact J3 _
 refine Um J J <| aE J (aU J J J J J) J <| aE J (aM J J J J J) J <| aE J (pY J J) J <| dT (fun h20 => ?_) (fun h20 => ?_)
 rotate_left
 ·refine aA (bM J J) J <| Wn <| aX J <| aH <| Ck [2,3,4,5] J ?_
  exact J3 _
 refine aA (bM J J) J <| Wn <| aT J <| aB ?_
 have hia := eA (pT.1 h16)
 have hiw := eA (pT.1 h20)
 have sv := pT.1 h16
 have b1 : (v.tdiv w).natAbs ≤ v.natAbs := by rw [Int.natAbs_tdiv]; exact Nat.div_le_self _ _
 have b2 : (v.tmod w).natAbs ≤ v.natAbs := by rw [Int.natAbs_tmod]; exact Nat.mod_le _ _
 unfold small at sv
 refine bR (z := 14) J kR <| aC (aU J J J J J) J <| aC (cI v (aM J J J J J) hia) J <| aC (aU J J J J J) J <| aC (cI w (aM J J J J J) hiw) J <| aC (mD J J hw0 om) J <| aC (gS (cs := [_, _]) J J J J J) J <| aC (aU J J J J J) J <| aC (cI v (aM J J J J J) hia) J <| aC (aU J J J J J) J <| aC (cI w (aM J J J J J) hiw) J <| aC (oRem J J hw0) J <| aC (gS (cs := [_, _]) J J J J J) J <| cO (cP (cs' := [_, _]) J J J J J J J J) <| cO (cP (cs' := [_, _]) J J J J J J J J) <| bG (aQ kR) J <| Ck [4,5] J <| bI <| post (n := 0) (.inr J) J ?_ (by simp)
 rw [kQ (v := v.tdiv w) (by unfold small; omega), kQ (v := v.tmod w) (by unfold small; omega)]; rfl
theorem gcd_run (v w : Int) (hv : len32 v < 549755813888) (hw : len32 w < 549755813888) : Run Tryz.prog T E0 (.call 97 [lvI v, lvI w] (lvI (v.gcd w : Nat))) := by
 refine bL Tryz.func97 J J (dH J) <| Rg 3 J <| bJ (eO J J) J <| bJ (eO J J) J <| bJ (fD J) J <| Wn <| bR (z := 6) J kR <| aC (aM (l := .agg [_, _]) J J J J J) J <| aC (aK J (abs_run _) (by simp)) J <| aC (aM (l := .agg [_, _]) J J J J J) J <| aC (aK J (abs_run _) (by simp)) J <| cO (cP (cs' := [_, _]) J J J J J J J J) <| cO (cP (cs' := [_, _]) J J J J J J J J) <| bG (aQ kR) J <| aL <| bF (α := Nat × Nat) (fun ⟨a, b⟩ => [(2, .ptr 0 0), (3, .ptr 1 0), (4, .ptr 2 0)]) (fun ⟨a, b⟩ => [(0, { cells := (lvI (a : Int)).cells, sz := 2, elem := 86, st := 0 }), (1, { cells := (lvI (b : Int)).cells, sz := 2, elem := 86, st := 0 }), (2, { cells := [.v (.int .i64 0), .sl 0 []], sz := 2, elem := 86, st := 0 })]) (fun ⟨a, b⟩ n => Nat.gcd a b = v.gcd w ∧ len32 (a : Int) < 549755813888 ∧ len32 (b : Int) < 549755813888 ∧ 3 ≤ n) (fun ⟨a, b⟩ => b) (v.natAbs, w.natAbs) ⟨J, J, J, trivial⟩ ⟨J, J, J, trivial⟩ ⟨rfl, by rw [len32_nat]; exact hv, by rw [len32_nat]; exact hw, om⟩ ?_
 rintro ⟨a, b⟩ n hF
 change WC _ _ _ _ _ (_ :: _) (_ :: _) n _
 obtain ⟨hg, hla, hlb, hn3⟩ := hF
 refine aB <| Rg 3 J <| aA (aM (l := .agg [_, _]) J J J J J) J <| aA (aK J (kT _) (by simp)) J <| aA (gJ J J) J <| bB (fun h13 => ?_) (fun h13 => ?_)
 rotate_left
 ·refine Wn <| aX J <| bA <| aS <| aR J <| Rg 2 J <| aA (aM (l := .agg [_, _]) J J J J J) J <| bH (cP (cs' := [_, _]) J J J J J J J J) <| Wn <| aN <| post (n := 0) (.inr J) J ?_ (by simp)
  have hb0 : b = 0 := by
   have := Int.sign_eq_zero_iff_zero (a := (b : Int)); omega
  subst hb0
  rw [Nat.gcd_zero_right] at hg
  rw [← hg]; rfl
 refine Wn <| aT J <| aH <| dL ?_
 have hb0 : 0 < b := by
  rcases Nat.eq_zero_or_pos b with h | h
  ·subst h; simp at h13
  ·exact h
 have hm : (a : Int).tmod b = ((a % b : Nat) : Int) := by rw [Int.tmod_eq_emod_of_nonneg om]; simp
 have hlm : len32 ((a % b : Nat) : Int) < 549755813888 := by rw [← hm]; have := len32_tmod (a : Int) (b : Int); omega
 refine Rg 10 J <| aA (aM (l := .agg [_, _]) J J J J J) J <| aA (aM (l := .agg [_, _]) J J J J J) J <| aA (aK J (oI (a : Int) (b : Int) om hla hlb) (by simp)) J <| Um J J <| aA (fB J J) J <| aA (aV (b := lvI ((a % b : Nat) : Int)) (fB J J) (by rw [hm])) J <| bJ (fD J) J <| bJ (fD J) J <| bH (cP (cs' := [_, _]) J J J (g1 om g0) J J J J) <| bH (cP (cs' := [_, _]) J J J (g1 om g0) J J J J) <| Wn <| dN (z := 4) J kR <| aC (aM (l := .agg [_, _]) J J (g1 om (g1 om (g1 om (g1 om (g1 (by decide) g0))))) J J) J <| aC (aM (l := .agg [_, _]) J J g0 J J) J <| cO (cP (cs' := [_, _]) J J J (g1 om (g1 om (g1 om (g1 om g0)))) J J J J) <| cO (cP (cs' := [_, _]) J J J (g1 (by decide) (g1 om (g1 om (g1 om (g1 om (g1 (by decide) g0)))))) J J J J) <| bG (aQ kR) J <| dG <| aG <| ⟨⟨b, a % b⟩, ⟨J, J, J, trivial⟩, ⟨g1 (by decide) g0, g0, g1 (by decide) (g1 (by decide) (g1 om (g1 om (g1 om (g1 om (g1 (by decide) (g1 (by decide) g0))))))), trivial⟩, ⟨by rw [← hg, Nat.gcd_comm b, ← Nat.gcd_rec b a, Nat.gcd_comm], hlb, hlm, om⟩, Nat.mod_lt _ hb0⟩
theorem jN (v w : Int) (hw0 : w ≠ 0) (hv : len32 v < 549755813888) (hw : len32 w < 549755813888) : Run Tryz.prog T E0 (.call 99 [lvI v, lvI w] (lvX (Rat.divInt v w, false))) := by
 have hgp : 0 < v.gcd w := Int.gcd_pos_of_ne_zero_right _ hw0
 obtain ⟨hL1, hL2⟩ := mU (a := v) hw0
 have hlg : len32 ((v.gcd w : Nat) : Int) < 549755813888 := by
  have h1 : v.gcd w ≤ w.natAbs := Nat.le_of_dvd om (Nat.gcd_dvd_right _ _)
  have := nH (v := ((v.gcd w : Nat) : Int)) (w := w) (by simpa using h1)
  omega
 obtain ⟨g, hg⟩ : ∃ g : Int, g = (v.gcd w : Nat) := ⟨_, rfl⟩
 rw [← hg] at hL1 hL2 hlg
 refine bL Tryz.func99 J J (dH J) ?_
 have J5 : ∀ (a b : Int) (ha : a = v.tdiv g) (hb : b = w.tdiv g) (n : Nat) , WC Tryz.prog T E0 Tryz.f99.ntmps (codeR (codeR (codeOf Tryz.f99))) [(2, .ptr 0 0), (3, .ptr 1 0), (4, .ptr 2 0)] [(0, { cells := (lvI a).cells, sz := 2, elem := 86, st := 0 }), (1, { cells := (lvI b).cells, sz := 2, elem := 86, st := 0 }), (2, { cells := [.v (.int .i64 0), .sl 0 [], .v (.int .i64 0), .sl 0 []], sz := 4, elem := 88, st := 0 })] n (Post T Tryz.f99.results.toList (lvX (Rat.divInt v w, false))) := by
  intro a b ha hb n
  subst ha hb
  refine aB <| Rg 3 J <| aA (aM (l := .agg [_, _]) J J J J J) J <| aA (aK J (kT _) (by simp)) J <| aA (bZ J J) J <| bB (fun h31 => ?_) (fun h31 => ?_)
  rotate_left
  ·refine Wn <| aX J <| aH <| Rg 4 J <| aA (aM (l := .agg [_, _]) J J J J J) J <| aA (aM (l := .agg [_, _]) J J J J J) J <| aA (gS (cs := [_, _, _, _]) J J J J J) J <| bH (cP (cs' := [_, _, _, _]) J J J J J J J J) <| Wn <| aN <| post (n := 0) (.inr J) J ?_ (by simp)
   obtain ⟨h1, h2⟩ := hL2 (by have := @Int.sign_neg_iff (w.tdiv g); omega)
   rw [lvX_f, ← h1, ← h2]; rfl
  refine Wn <| aT J <| bR (z := 6) J kR <| aC (aM (l := .agg [_, _]) J J J J J) J <| aC (aK J (qV _) (by simp)) J <| aC (aM (l := .agg [_, _]) J J J J J) J <| aC (aK J (qV _) (by simp)) J <| cO (cP (cs' := [_, _]) J J J J J J J J) <| cO (cP (cs' := [_, _]) J J J J J J J J) <| bG (aQ kR) J <| Rg 4 J <| aA (aM (l := .agg [_, _]) J J J J J) J <| aA (aM (l := .agg [_, _]) J J J J J) J <| aA (gS (cs := [_, _, _, _]) J J J J J) J <| bH (cP (cs' := [_, _, _, _]) J J J J J J J J) <| Wn <| aN <| post (n := 0) (.inr J) J ?_ (by simp)
  obtain ⟨h1, h2⟩ := hL1 (Int.sign_neg_iff.1 h31)
  rw [lvX_f, ← h1, ← h2]; rfl
 refine Rg 3 J <| bJ (eO J J) J <| bJ (eO J J) J <| bJ (fD J) J <| Wn <| aB <| Rg 5 J <| aA (aM (l := .agg [_, _]) J J J J J) J <| aA (aM (l := .agg [_, _]) J J J J J) J <| aA (aK J (hg ▸ gcd_run v w hv hw) (by simp)) J <| bJ (fD J) J <| bH (cP (cs' := [_, _]) J J J J J J J J) <| Wn <| aB <| Rg 8 J <| aA (aU J J J J J) J <| aA (aM J J J J J) J <| aA (gJ J J) J <| bB (fun h11 => ?_) (fun h11 => ?_)
 ·refine Um J J <| K1 J J <| K1 J J <| K1 J J <| aA (bM J J) J <| Nk [2,3,4,5,16] J <| aT J <| aB <| Rg 7 J <| aA (aM (l := .agg [_, _]) J J J J J) J <| aA (aM (l := .agg [_, _]) J J J J J) J <| aA (aK J (oI v g om hv hlg) (by simp)) J <| Um J J <| aA (fB J J) J <| aA (fB J J) J <| bH (cP (cs' := [_, _]) J J J J J J J J) <| Wn <| Rg 7 J <| aA (aM (l := .agg [_, _]) J J J J J) J <| aA (aM (l := .agg [_, _]) J J J J J) J <| aA (aK J (oI w g om hw hlg) (by simp)) J <| Um J J <| aA (fB J J) J ?_
  refine aA (fB J J) J <| bH (cP (cs' := [_, _]) J J J J J J J J) <| Nk [2,3,4] J <| Ck [2,3,4] J <| iW _ ?_ (J5 _ _ J J _)
  exact ⟨J, J, J, trivial⟩
 refine Um J J <| aE J (aU J J J J J) J <| aE J (aM J J J J J) J <| aE J (oNilN J J) J <| dT (fun h15 => ?_) (fun h15 => ?_)
 rotate_left
 ·refine aA (bK J J) J <| Nk [2,3,4,5,16] J <| aX J <| aH <| Ck [2,3,4] J ?_
  have h1 : g = 1 := by
   have := eA (ik_ne'.1 h15); omega
  have e1 : v = v.tdiv g := by rw [h1]; simp
  have e2 : w = w.tdiv g := by rw [h1]; simp
  refine iW _ ?_ (J5 _ _ e1 e2 _)
  exact ⟨J, J, J, trivial⟩
 refine aA (bK J J) J <| Nk [2,3,4,5,16] J <| aT J <| aB <| Rg 7 J <| aA (aM (l := .agg [_, _]) J J J J J) J <| aA (aM (l := .agg [_, _]) J J J J J) J <| aA (aK J (oI v g om hv hlg) (by simp)) J <| Um J J <| aA (fB J J) J <| aA (fB J J) J <| bH (cP (cs' := [_, _]) J J J J J J J J) <| Wn <| Rg 7 J <| aA (aM (l := .agg [_, _]) J J J J J) J <| aA (aM (l := .agg [_, _]) J J J J J) J <| aA (aK J (oI w g om hw hlg) (by simp)) J <| Um J J <| aA (fB J J) J <| aA (fB J J) J <| bH (cP (cs' := [_, _]) J J J J J J J J) <| Nk [2,3,4] J ?_
 refine Ck [2,3,4] J <| iW _ ?_ (J5 _ _ J J _)
 exact ⟨J, J, J, trivial⟩
theorem qR (x : X) : Run Tryz.prog T E0 (.call 116 [lvX x] (.v (.bool (xw x)))) := by
 refine bL Tryz.func116 J J (dH J) <| Rg 2 J <| bJ (eO J J) J <| Ua J J <| Wn <| Rg 11 J <| aA (aU J J J J J) J <| aA (aU J J J J J) J <| aA (aM J J J J J) J <| aA (pY J J) J <| dT (fun h6 => ?_) (fun h6 => ?_)
 ·refine Um J J <| aE J (aU J J J J J) J <| aE J (aU J J J J J) J <| aE J (aM J J J J J) J <| aE J (nL J J) J <| aA (bM J J) J <| Ua J J <| Wn <| aN <| post (n := 0) (.inr J) J ?_ (by simp)
  have h1 : decide (ia (xlow x) ≤ 1) = xw x := by
   rw [eA (pT.1 h6)]; exact decide_eq_decide.2 (xlow_one x)
  exact congrArg (fun z => LV.v (.bool z)) h1
 refine Um J J <| K1 J J <| K1 J J <| K1 J J <| K1 J J <| aA (bK J J) J <| Ua J J <| Wn <| aN <| post (n := 0) (.inr J) J ?_ (by simp)
 have h1 : false = xw x := by
  have h2 := ik_ne.1 h6
  have h3 := xlow_one x
  have h4 : ¬ x.1.den = 1 := fun k => h2 (by have := h3.2 k; have := xlow_nonneg x; unfold small; omega)
  unfold xw; rw [decide_eq_false h4]
 exact congrArg (fun z => LV.v (.bool z)) h1
theorem fC (x : X) : Run Tryz.prog T E0 (.call 118 [lvX x] (lvI (x.1.den : Int))) := by
 refine bL Tryz.func118 J J (dH J) <| Rg 2 J <| bJ (eO J J) J <| bJ (fD J) J <| Wn <| aB <| Rg 4 J <| aA (aU J J J J J) J <| aA (aM (l := .agg [_, _]) J J J J J) J <| aA (aK J (kT _) (by simp)) J <| aA (dV J J) J <| bB (fun h6 => ?_) (fun h6 => ?_)
 ·refine Wn <| aT J <| aB <| Rg 2 J <| aA (aK J (one_run) (by simp)) J <| bH (cP (cs' := [_, _]) J J J J J J J J) <| Wn <| bI <| post (n := 0) (.inr J) J ?_ (by simp)
  rw [xlow_zero (Int.sign_eq_zero_iff_zero.1 h6)]; rfl
 refine Wn <| aX J <| aH <| Rg 3 J <| aA (aU J J J J J) J <| aA (aM (l := .agg [_, _]) J J J J J) J <| bH (cP (cs' := [_, _]) J J J J J J J J) <| Wn <| aN <| post (n := 0) (.inr J) J ?_ (by simp)
 rw [← xlow_ne (fun k => h6 (by rw [k]; rfl))]; rfl
theorem top_run (x : X) : Run Tryz.prog T E0 (.call 153 [lvX x] (lvI x.1.num)) := by
 refine bL Tryz.func153 J J (dH J) <| Rg 2 J <| bJ (eO J J) J <| bJ (fD J) J <| Wn <| Rg 3 J <| aA (aU J J J J J) J <| aA (aM (l := .agg [_, _]) J J J J J) J <| bH (cP (cs' := [_, _]) J J J J J J J J) <| Wn <| aN <| post (n := 0) (.inr J) J ?_ (by simp)
 rfl
theorem fH (x : X) : Run Tryz.prog T E0 (.call 55 [lvX x] (.v (.int .i64 x.1.num.sign))) := by
 refine bL Tryz.func55 J J (dH J) <| Rg 2 J <| bJ (eO J J) J <| Ua J J <| Wn <| Rg 4 J <| aA (aU J J J J J) J <| aA (aM (l := .agg [_, _]) J J J J J) J <| aA (aK J (kT x.1.num) (by simp)) J <| Ua J J <| Wn <| aN ?_
 exact post (n := 0) (.inr J) J J (by simp)
theorem oM (x : X) : Run Tryz.prog T E0 (.call 50 [lvX x] (lvX (xneg x))) := by
 refine bL Tryz.func50 J J (dH J) <| Rg 2 J <| bJ (eO J J) J <| bJ (fD J) J <| Wn <| bR (z := 7) J kR <| aC (aU J J J J J) J <| aC (aM (l := .agg [_, _]) J J J J J) J <| aC (aK J (qV x.1.num) (by simp)) J <| aC (aU J J J J J) J <| aC (aM (l := .agg [_, _]) J J J J J) J <| aC (gS (cs := [_, _, _, _]) J J J J J) J <| cO (cP (cs' := [_, _, _, _]) J J J J J J J J) <| bG (aQ kR) J <| aN <| post (n := 0) (.inr J) J ?_ (by simp)
 rw [lvX_neg]; rfl
theorem pL (v : Int) (hv : I64 v) : Run Tryz.prog T E0 (.call 43 [.v (.int .i64 v)] (lvX (xint v))) := by
 unfold I64 at hv
 refine bL Tryz.func43 J J (dH J) <| Rg 1 J <| bJ (fD J) J <| Wn <| Rg 4 J <| Um J J <| aA (aK J (pE _ om) (by simp)) J <| aA (gS (cs := [_, _, _, _]) J J J J J) J <| bH (cP (cs' := [_, _, _, _]) J J J J J J J J) <| Wn <| aN <| post (n := 0) (.inr J) J ?_ (by simp)
 rw [lvX_int]; rfl
theorem oJ (x y : X) (hx : Bd 68719476736 x.1) (hy : Bd 68719476736 y.1) : Run Tryz.prog T E0 (.call 94 [lvX x, lvX y] (lvX (xadd x y))) := by
 obtain ⟨hx1, hx2⟩ := hx
 obtain ⟨hy1, hy2⟩ := hy
 have m1 := eG x.1.num y.1.den
 have m2 := eG y.1.num x.1.den
 have m3 := len32_add (x.1.num * y.1.den) (y.1.num * x.1.den)
 have m4 := eG x.1.den y.1.den
 refine bL Tryz.func94 J J (dH J) <| Rg 3 J <| bJ (eO J J) J <| bJ (eO J J) J <| bJ (fD J) J <| Wn <| aB <| Rg 6 J <| aA (aM (l := .agg [_, _, _, _]) J J J J J) J <| aA (aK J (qR x) (by simp)) J <| dT (fun h6 => ?_) (fun h6 => ?_)
 rotate_left
 ·refine Um J J <| K1 J J <| K1 J J <| aA (bK J J) J <| Wn <| aX J <| aH <| bR (z := 18) J kR <| aC (aU J J J J J) J <| aC (aM (l := .agg [_, _]) J J J J J) J <| aC (aM (l := .agg [_, _, _, _]) J J J J J) J <| aC (aK J (fC y) (by simp)) J <| aC (aK J (gP x.1.num y.1.den om om) (by simp)) J <| aC (aU J J J J J) J <| aC (aM (l := .agg [_, _]) J J J J J) J <| aC (aM (l := .agg [_, _, _, _]) J J J J J) J <| aC (aK J (fC x) (by simp)) J <| aC (aK J (gP y.1.num x.1.den om om) (by simp)) J <| aC (aK J (add_run (x.1.num * y.1.den) (y.1.num * x.1.den) om om) (by simp)) J <| aC (aM (l := .agg [_, _, _, _]) J J J J J) J <| aC (aK J (fC x) (by simp)) J <| aC (aM (l := .agg [_, _, _, _]) J J J J J) J <| aC (aK J (fC y) (by simp)) J <| aC (aK J (gP x.1.den y.1.den om om) (by simp)) J ?_
  refine aC (aK J (jN (x.1.num * y.1.den + y.1.num * x.1.den) (x.1.den * y.1.den) (Int.mul_ne_zero (fZ _) (fZ _)) om om) (by simp)) J <| cO (cP (cs' := [_, _, _, _]) J J J J J J J J) <| bG (aQ kR) J <| Ck [4] J <| aN <| post (n := 0) (.inr J) J ?_ (by simp)
  rw [xadd_f (by rw [h6]; rfl)]; rfl
 refine Um J J <| aE J (aM (l := .agg [_, _, _, _]) J J J J J) J <| aE J (aK J (qR y) (by simp)) J <| dT (fun h9 => ?_) (fun h9 => ?_)
 ·refine aA (bM J J) J <| Wn <| aT J <| aB <| Rg 7 J <| aA (aU J J J J J) J <| aA (aM (l := .agg [_, _]) J J J J J) J <| aA (aU J J J J J) J <| aA (aM (l := .agg [_, _]) J J J J J) J <| aA (aK J (add_run x.1.num y.1.num om om) (by simp)) J <| aA (gS (cs := [_, _, _, _]) J J J J J) J <| bH (cP (cs' := [_, _, _, _]) J J J J J J J J) <| Nk [4] J <| bI <| post (n := 0) (.inr J) J ?_ (by simp)
  rw [xadd_w h6 h9]; rfl
 refine aA (bM J J) J <| Wn <| aX J <| aH <| bR (z := 18) J kR <| aC (aU J J J J J) J <| aC (aM (l := .agg [_, _]) J J J J J) J <| aC (aM (l := .agg [_, _, _, _]) J J J J J) J <| aC (aK J (fC y) (by simp)) J <| aC (aK J (gP x.1.num y.1.den om om) (by simp)) J <| aC (aU J J J J J) J <| aC (aM (l := .agg [_, _]) J J J J J) J <| aC (aM (l := .agg [_, _, _, _]) J J J J J) J <| aC (aK J (fC x) (by simp)) J <| aC (aK J (gP y.1.num x.1.den om om) (by simp)) J <| aC (aK J (add_run (x.1.num * y.1.den) (y.1.num * x.1.den) om om) (by simp)) J <| aC (aM (l := .agg [_, _, _, _]) J J J J J) J <| aC (aK J (fC x) (by simp)) J <| aC (aM (l := .agg [_, _, _, _]) J J J J J) J <| aC (aK J (fC y) (by simp)) J <| aC (aK J (gP x.1.den y.1.den om om) (by simp)) J <| aC (aK J (jN (x.1.num * y.1.den + y.1.num * x.1.den) (x.1.den * y.1.den) (Int.mul_ne_zero (fZ _) (fZ _)) om om) (by simp)) J <| cO (cP (cs' := [_, _, _, _]) J J J J J J J J) <| bG (aQ kR) J ?_
 refine Ck [4] J <| aN <| post (n := 0) (.inr J) J ?_ (by simp)
 rw [xadd_f (by rw [h6, h9]; rfl)]; rfl
theorem mG (x y : X) (hx : Bd 68719476736 x.1) (hy : Bd 68719476736 y.1) : Run Tryz.prog T E0 (.call 80 [lvX x, lvX y] (lvX (xmul x y))) := by
 obtain ⟨hx1, hx2⟩ := hx
 obtain ⟨hy1, hy2⟩ := hy
 have m1 := eG x.1.num y.1.num
 have m4 := eG x.1.den y.1.den
 refine bL Tryz.func80 J J (dH J) <| Rg 3 J <| bJ (eO J J) J <| bJ (eO J J) J <| bJ (fD J) J <| Wn <| aB <| Rg 6 J <| aA (aM (l := .agg [_, _, _, _]) J J J J J) J <| aA (aK J (qR x) (by simp)) J <| dT (fun h6 => ?_) (fun h6 => ?_)
 rotate_left
 ·refine Um J J <| K1 J J <| K1 J J <| aA (bK J J) J <| Wn <| aX J <| aH <| bR (z := 12) J kR <| aC (aU J J J J J) J <| aC (aM (l := .agg [_, _]) J J J J J) J <| aC (aU J J J J J) J <| aC (aM (l := .agg [_, _]) J J J J J) J <| aC (aK J (gP x.1.num y.1.num om om) (by simp)) J <| aC (aM (l := .agg [_, _, _, _]) J J J J J) J <| aC (aK J (fC x) (by simp)) J <| aC (aM (l := .agg [_, _, _, _]) J J J J J) J <| aC (aK J (fC y) (by simp)) J <| aC (aK J (gP x.1.den y.1.den om om) (by simp)) J <| aC (aK J (jN (x.1.num * y.1.num) (x.1.den * y.1.den) (Int.mul_ne_zero (fZ _) (fZ _)) om om) (by simp)) J <| cO (cP (cs' := [_, _, _, _]) J J J J J J J J) <| bG (aQ kR) J <| Ck [4] J <| aN <| post (n := 0) (.inr J) J ?_ (by simp)
  rw [xmul_f (by rw [h6]; rfl)]; rfl
 refine Um J J <| aE J (aM (l := .agg [_, _, _, _]) J J J J J) J <| aE J (aK J (qR y) (by simp)) J <| dT (fun h9 => ?_) (fun h9 => ?_)
 ·refine aA (bM J J) J <| Wn <| aT J <| aB <| Rg 7 J <| aA (aU J J J J J) J <| aA (aM (l := .agg [_, _]) J J J J J) J <| aA (aU J J J J J) J <| aA (aM (l := .agg [_, _]) J J J J J) J <| aA (aK J (gP x.1.num y.1.num om om) (by simp)) J <| aA (gS (cs := [_, _, _, _]) J J J J J) J <| bH (cP (cs' := [_, _, _, _]) J J J J J J J J) <| Nk [4] J <| bI <| post (n := 0) (.inr J) J ?_ (by simp)
  rw [xmul_w h6 h9]; rfl
 refine aA (bM J J) J <| Wn <| aX J <| aH <| bR (z := 12) J kR <| aC (aU J J J J J) J <| aC (aM (l := .agg [_, _]) J J J J J) J <| aC (aU J J J J J) J <| aC (aM (l := .agg [_, _]) J J J J J) J <| aC (aK J (gP x.1.num y.1.num om om) (by simp)) J <| aC (aM (l := .agg [_, _, _, _]) J J J J J) J <| aC (aK J (fC x) (by simp)) J <| aC (aM (l := .agg [_, _, _, _]) J J J J J) J <| aC (aK J (fC y) (by simp)) J <| aC (aK J (gP x.1.den y.1.den om om) (by simp)) J <| aC (aK J (jN (x.1.num * y.1.num) (x.1.den * y.1.den) (Int.mul_ne_zero (fZ _) (fZ _)) om om) (by simp)) J <| cO (cP (cs' := [_, _, _, _]) J J J J J J J J) <| bG (aQ kR) J <| Ck [4] J <| aN <| post (n := 0) (.inr J) J ?_ (by simp)
 rw [xmul_f (by rw [h6, h9]; rfl)]; rfl
theorem rdiv_run (x y : X) (h0 : y.1 ≠ 0) (hx : Bd 68719476736 x.1) (hy : Bd 68719476736 y.1) : Run Tryz.prog T E0 (.call 124 [lvX x, lvX y] (lvX (xdiv x y))) := by
 obtain ⟨hx1, hx2⟩ := hx
 obtain ⟨hy1, hy2⟩ := hy
 have m1 := eG x.1.num y.1.den
 have m4 := eG x.1.den y.1.num
 refine bL Tryz.func124 J J (dH J) <| Rg 3 J <| bJ (eO J J) J <| bJ (eO J J) J <| bJ (fD J) J <| Wn <| bR (z := 12) J kR <| aC (aU J J J J J) J <| aC (aM (l := .agg [_, _]) J J J J J) J <| aC (aM (l := .agg [_, _, _, _]) J J J J J) J <| aC (aK J (fC y) (by simp)) J <| aC (aK J (gP x.1.num y.1.den om om) (by simp)) J <| aC (aM (l := .agg [_, _, _, _]) J J J J J) J <| aC (aK J (fC x) (by simp)) J <| aC (aU J J J J J) J <| aC (aM (l := .agg [_, _]) J J J J J) J <| aC (aK J (gP x.1.den y.1.num om om) (by simp)) J <| aC (aK J (jN (x.1.num * y.1.den) (x.1.den * y.1.num) (Int.mul_ne_zero (fZ _) (num_ne h0)) om om) (by simp)) J <| cO (cP (cs' := [_, _, _, _]) J J J J J J J J) <| bG (aQ kR) J <| Ck [4] J <| aN <| post (n := 0) (.inr J) J ?_ (by simp)
 rw [xdiv_f h0]; rfl
theorem jV (a : NM) (h1 : I64 a.1) (h2 : I64 a.2) (h0 : a.2 ≠ 0) : Run Tryz.prog T E0 (.call 60 [lvM a] (lvX (Rat.divInt a.1 a.2, false))) := by
 unfold I64 at h1 h2
 have m1 := gE (v := a.1) om
 have m2 := gE (v := a.2) om
 refine bL Tryz.func60 J J (dH J) <| Rg 2 J <| bJ (eO J J) J <| bJ (fD J) J <| Wn <| bR (z := 8) J kR <| aC (aU J J J J J) J <| aC (aM J J J J J) J <| aC (aK J (pE _ om) (by simp)) J <| aC (aU J J J J J) J <| aC (aM J J J J J) J <| aC (aK J (pE _ om) (by simp)) J <| aC (aK J (jN a.1 a.2 h0 om om) (by simp)) J <| cO (cP (cs' := [_, _, _, _]) J J J J J J J J) <| bG (aQ kR) J <| aN <| post (n := 0) (.inr J) J ?_ (by simp)
 rfl
theorem nJ (a : NM) (h1 : I64 a.1) (h2 : I64 a.2) : Run Tryz.prog T E0 (.call 59 [lvM a] (.v (.bool (decide (VN a))))) := by
 unfold I64 at h1 h2
 have m1 := gE (v := a.1) om
 have m2 := gE (v := a.2) om
 refine bL Tryz.func59 J J (dH J) <| Rg 2 J <| bJ (eO J J) J <| Ua J J <| Wn <| aB <| Rg 18 J <| aA (aU J J J J J) J <| aA (aM J J J J J) J <| aA (bZ J J) J <| bB (fun h7 => ?_) (fun h7 => ?_)
 ·refine Um J J <| K1 J J <| K1 J J <| K1 J J <| aA (bM J J) J <| Um J J <| K1 J J <| K1 J J <| K1 J J <| aA (bM J J) J <| Um J J <| K1 J J <| K1 J J <| K1 J J <| aA (bM J J) J <| Nk [1,22] J <| aT J <| aB ?_
  have hV : ¬ VN a := by unfold VN; omega
  refine Rg 1 J <| Ua J J <| Wn <| bI <| post (n := 0) (.inr J) J ?_ (by simp)
  exact congrArg (fun z => LV.v (.bool z)) (decide_eq_false hV).symm
 refine Um J J <| aE J (aU J J J J J) J <| aE J (aM J J J J J) J <| aE J (eB J J) J <| bB (fun h11 => ?_) (fun h11 => ?_)
 ·refine aA (bK J J) J <| Um J J <| K1 J J <| K1 J J <| K1 J J <| aA (bM J J) J <| Um J J <| K1 J J <| K1 J J <| K1 J J <| aA (bM J J) J <| Nk [1,22] J <| aT J <| aB ?_
  have hV : ¬ VN a := by unfold VN; omega
  refine Rg 1 J <| Ua J J <| Wn <| bI <| post (n := 0) (.inr J) J ?_ (by simp)
  exact congrArg (fun z => LV.v (.bool z)) (decide_eq_false hV).symm
 refine aA (bK J J) J <| Um J J <| aE J (aU J J J J J) J <| aE J (aM J J J J J) J <| aE J (eB J J) J <| bB (fun h16 => ?_) (fun h16 => ?_)
 ·refine aA (bK J J) J <| Um J J <| K1 J J <| K1 J J <| K1 J J <| aA (bM J J) J <| Nk [1,22] J <| aT J <| aB ?_
  have hV : ¬ VN a := by unfold VN; omega
  refine Rg 1 J <| Ua J J <| Wn <| bI <| post (n := 0) (.inr J) J ?_ (by simp)
  exact congrArg (fun z => LV.v (.bool z)) (decide_eq_false hV).symm
 refine aA (bK J J) J <| Um J J <| aE J (aU J J J J J) J <| aE J (aM J J J J J) J <| aE J (bZ J J) J <| bB (fun h21 => ?_) (fun h21 => ?_)
 ·refine aA (bK J J) J <| Nk [1,22] J <| aT J <| aB ?_
  have hV : ¬ VN a := by unfold VN; omega
  refine Rg 1 J <| Ua J J <| Wn <| bI <| post (n := 0) (.inr J) J ?_ (by simp)
  exact congrArg (fun z => LV.v (.bool z)) (decide_eq_false hV).symm
 refine aA (bK J J) J <| Nk [1,22] J <| aX J <| aH ?_
 have hg1 : a.1.gcd a.2 ≤ a.2.natAbs := Nat.le_of_dvd om (Nat.gcd_dvd_right _ _)
 refine bR (z := 13) J kR <| aC (aU J J J J J) J <| aC (aM J J J J J) J <| aC (aK J (pE _ om) (by simp)) J <| aC (aU J J J J J) J <| aC (aM J J J J J) J <| aC (aK J (pE _ om) (by simp)) J <| aC (aK J (gcd_run a.1 a.2 om om) (by simp)) J <| aC (aK J (qQ (a.1.gcd a.2 : Nat) 1152921504606846976 om) (by simp)) J <| Dm J J <| aC (fB J J) J <| aC (fB J J) J <| aC (gX J) J <| aC (gX J) J <| bG (aQ kR) J <| Ck [3] J <| Rg 3 J <| Um J J <| aA (dV J J) J <| Ua J J <| Wn <| aN <| post (n := 0) (.inr J) J ?_ (by simp)
 have hV : (decide ((if -1152921504606846976 ≤ ((a.1.gcd a.2 : Nat) : Int) ∧ ((a.1.gcd a.2 : Nat) : Int) ≤ 1152921504606846976 then ((a.1.gcd a.2 : Nat) : Int) else 0) = 1)) = decide (VN a) := by
  rw [if_pos om]; apply decide_eq_decide.2; unfold VN; omega
 exact congrArg (fun z => LV.v (.bool z)) hV
theorem nout_run (x : X) : Run Tryz.prog T E0 (.call 130 [lvX x] (lvO (outN x.1))) := by
 refine bL Tryz.func130 J J (dH J) <| Rg 3 J <| bJ (eO J J) J <| bJ (fD J) J <| Ua J J <| Wn <| Rg 8 J <| aA (aM (l := .agg [_, _, _, _]) J J J J J) J <| aA (aK J (top_run x) (by simp)) J <| aA (aK J (qQ x.1.num 1152921504606846976 om) (by simp)) J <| Um J J <| aA (fB J J) J <| aA (fB J J) J <| dT (fun h13 => ?_) (fun h13 => ?_)
 rotate_left
 ·refine Ua J J <| Ua J J <| Wn <| Rg 8 J <| aA (aM (l := .agg [_, _, _, _]) J J J J J) J <| aA (aK J (fC x) (by simp)) J <| aA (aK J (qQ x.1.den 1152921504606846976 om) (by simp)) J <| Um J J <| aA (fB J J) J <| aA (fB J J) J <| dT (fun h19 => ?_) (fun h19 => ?_)
  ·refine Ua J J <| Ua J J <| Nk [2,4,5,6,7] J <| aB <| Rg 6 J <| Um J J <| aA (dE J) J <| Um J J <| K1 J J <| K1 J J <| aA (bM J J) J <| Wn <| aT J <| aB ?_
   have hV : outN x.1 = none := by
    unfold outN; rw [if_neg]; simp at *; omega
   refine Rg 3 J <| aA (gS (cs := [_, _]) J J J J J) J <| bH (cP (cs' := [_, _]) J J J J J J J J) <| Ua J J <| Wn <| bI <| post (n := 0) (.inr J) J ?_ (by simp)
   first | (rw [hV]; rfl) | (rw [hV, if_pos k1, if_pos k2]; rfl)
  refine Ua J J <| Ua J J <| Nk [2,4,5,6,7] J <| aB <| Rg 6 J <| Um J J <| aA (dE J) J <| Um J J <| K1 J J <| K1 J J <| aA (bM J J) J <| Wn <| aT J <| aB ?_
  have hV : outN x.1 = none := by
   unfold outN; rw [if_neg]; simp at *; omega
  refine Rg 3 J <| aA (gS (cs := [_, _]) J J J J J) J <| bH (cP (cs' := [_, _]) J J J J J J J J) <| Ua J J <| Wn <| bI <| post (n := 0) (.inr J) J ?_ (by simp)
  first | (rw [hV]; rfl) | (rw [hV, if_pos k1, if_pos k2]; rfl)
 refine Ua J J <| Ua J J <| Wn <| Rg 8 J <| aA (aM (l := .agg [_, _, _, _]) J J J J J) J <| aA (aK J (fC x) (by simp)) J <| aA (aK J (qQ x.1.den 1152921504606846976 om) (by simp)) J <| Um J J <| aA (fB J J) J <| aA (fB J J) J <| dT (fun h19 => ?_) (fun h19 => ?_)
 rotate_left
 ·refine Ua J J <| Ua J J <| Nk [2,4,5,6,7] J <| aB <| Rg 6 J <| Um J J <| aA (dE J) J <| Um J J <| aE J (dK J) J <| aE J (dE J) J <| aA (bK J J) J <| Wn <| aT J <| aB ?_
  have hV : outN x.1 = none := by
   unfold outN; rw [if_neg]; simp at *; omega
  refine Rg 3 J <| aA (gS (cs := [_, _]) J J J J J) J <| bH (cP (cs' := [_, _]) J J J J J J J J) <| Ua J J <| Wn <| bI <| post (n := 0) (.inr J) J ?_ (by simp)
  first | (rw [hV]; rfl) | (rw [hV, if_pos k1, if_pos k2]; rfl)
 refine Ua J J <| Ua J J <| Nk [2,4,5,6,7] J <| aB <| Rg 6 J <| Um J J <| aA (dE J) J <| Um J J <| aE J (dK J) J <| aE J (dE J) J <| aA (bK J J) J <| Wn <| aX J <| aH ?_
 have k1 := of_decide_eq_true h13
 have k2 := of_decide_eq_true h19
 have hV : outN x.1 = some (x.1.num, (x.1.den : Int)) := by
  unfold outN; rw [if_pos ⟨k1, k2.2⟩]
 refine Rg 5 J <| Um J J <| Um J J <| aA (gS (cs := [_, _]) J J J J J) J <| bH (cP (cs' := [_, _]) J J J J J J J J) <| Ua J J <| Nk [2,3] J <| aN <| post (n := 0) (.inr J) J ?_ (by simp)
 first | (rw [hV]; rfl) | (rw [hV, if_pos k1, if_pos k2]; rfl)
end Go.Proofs.YtohfklpfeilcpaaGreat
namespace Go.Proofs.YtohfklpfeilcpaaGreat
open Go.Ab Go.RowKit
theorem jH (v : Int) (hv : I64 v) : Run Tryz.prog T E0 (.call 37 [.v (.int .i64 v)] (lvN v)) := by
 unfold I64 at hv
 refine bL Tryz.func37 J J (dH J) <| Rg 1 J <| bJ (fD J) J <| Wn <| aB <| Rg 6 J <| Um J J <| aA (eB J J) J <| bB (fun h7 => ?_) (fun h7 => ?_)
 rotate_left
 ·refine Um J J <| K1 J J <| K1 J J <| aA (bK J J) J <| Wn <| aX J <| aH ?_
  have hns : ¬ smallN v := by unfold smallN; omega
  have hm1 : 2305843009213693952 ≤ v.natAbs := by unfold smallN at hns; omega
  have hm2 : v.natAbs ≤ 9223372036854775808 := by omega
  have hdg := of_big hm1 hm2
  have e1 : v.tmod 1073741824 = v.sign * ((v.natAbs % 1073741824 : Nat) : Int) ∧ v.tdiv 1073741824 = v.sign * ((v.natAbs / 1073741824 : Nat) : Int) := by
   have := mS (v := v) (w := 1073741824) (q := v.natAbs / 1073741824) (r := v.natAbs % 1073741824) (by simp; omega) (by simp; omega)
   refine ⟨this.2, ?_⟩
   rw [this.1, show Int.sign 1073741824 = 1 from rfl, Int.mul_one]
  obtain ⟨σ, hσ⟩ : ∃ σ, σ = v.sign := ⟨_, rfl⟩
  have hs1 : σ = 1 ∨ σ = -1 := by rw [hσ]; exact sign_1 om
  rw [← hσ] at e1
  obtain ⟨d0, hd0⟩ : ∃ d, d = v.natAbs % 1073741824 := ⟨_, rfl⟩
  obtain ⟨m1, hm1'⟩ : ∃ d, d = v.natAbs / 1073741824 := ⟨_, rfl⟩
  rw [← hd0, ← hm1'] at e1 hdg
  refine Rg 6 J <| Um J J <| aA (cI (σ * (d0 : Int)) (oRem J J (by decide)) e1.1) J <| Um J J <| aA (cI (σ * (m1 : Int)) (mD J J (by decide) (by rw [e1.2]; rcases hs1 with h | h <;> rw [h] <;> omega)) e1.2) J <| Ua J J <| Ua J J <| Wn <| Rg 6 J <| Um J J <| Um J J <| aA (gI J (by rcases hs1 with h | h <;> rw [h] <;> omega)) J <| aA (cI ((d0 : Int)) (oMax J J) (by rcases hs1 with h | h <;> rw [h] <;> split <;> omega)) J <| aA (dJ (cs := [_]) (rows := [[_]]) J J (by decide) J J J) J <| Ua J J <| Nk [0,2,4,5] J <| aL <| iN <| aB <| Rg 2 J <| Um J J <| aA (gJ J J) J <| bB (fun h24 => ?_) (fun h24 => ?_)
  rotate_left
  ·rcases hs1 with h | h <;> rw [h] at h24 <;> omega
  refine Wn <| aT J <| aH <| dL ?_
  have e2 : (σ * (m1 : Int)).tmod 1073741824 = σ * ((m1 % 1073741824 : Nat) : Int) ∧ (σ * (m1 : Int)).tdiv 1073741824 = σ * ((m1 / 1073741824 : Nat) : Int) := by
   rcases hs1 with rfl | rfl
   ·simp only [Int.one_mul]; rw [Int.tmod_eq_emod_of_nonneg om, Int.tdiv_eq_ediv_of_nonneg om]; exact ⟨by simp, by simp⟩
   ·simp only [Int.neg_mul, Int.one_mul, Int.neg_tmod, Int.neg_tdiv]; rw [Int.tmod_eq_emod_of_nonneg om, Int.tdiv_eq_ediv_of_nonneg om]; exact ⟨by simp, by simp⟩
  obtain ⟨d1, hd1⟩ : ∃ d, d = m1 % 1073741824 := ⟨_, rfl⟩
  obtain ⟨m2, hm2'⟩ : ∃ d, d = m1 / 1073741824 := ⟨_, rfl⟩
  rw [← hd1, ← hm2'] at e2 hdg
  refine Rg 6 J <| Um J J <| aA (cI (σ * (d1 : Int)) (oRem J J (by decide)) e2.1) J <| Um J J <| aA (cI (σ * (m2 : Int)) (mD J J (by decide) (by rw [e2.2]; rcases hs1 with h | h <;> rw [h] <;> omega)) e2.2) J <| Ua J J <| Ua J J <| Wn <| aI (z := 8) J <| Um J J <| Um J J <| Um J J <| aA (gI J (by rcases hs1 with h | h <;> rw [h] <;> omega)) J <| aA (cI ((d1 : Int)) (oMax J J) (by rcases hs1 with h | h <;> rw [h] <;> split <;> omega)) J <| aA (dJ (cs := [_]) (rows := [[_]]) J J (by decide) J J J) J <| bJ (oApS (xs := [d64 d0]) (rows := [d64 d1]) J J J J J (by decide) (by intro r hr; simp at hr; subst hr; rfl) (by intro r hr; simp at hr; subst hr; rfl) (Nat.lt_succ_self 0) (by show (2 * (1 + 1) + 256) * 8 ≤ 2 ^ 48; decide) (by show 1 + 1 < 2 ^ 62; decide)) J <| Ua J J <| Wn <| dG <| lR <| iN <| aB <| Rg 2 J <| Um J J ?_
  refine aA (gJ J J) J <| bB (fun h24 => ?_) (fun h24 => ?_)
  rotate_left
  ·rcases hs1 with h | h <;> rw [h] at h24 <;> omega
  refine Nk [0,2,4,5,24] J <| aT J <| aH <| dL ?_
  have e3 : (σ * (m2 : Int)).tmod 1073741824 = σ * (m2 : Int) ∧ (σ * (m2 : Int)).tdiv 1073741824 = 0 := by
   have hb : m2 < 1073741824 := by omega
   rcases hs1 with rfl | rfl
   ·simp only [Int.one_mul]; rw [Int.tmod_eq_emod_of_nonneg om, Int.tdiv_eq_ediv_of_nonneg om]; omega
   ·simp only [Int.neg_mul, Int.one_mul, Int.neg_tmod, Int.neg_tdiv]; rw [Int.tmod_eq_emod_of_nonneg om, Int.tdiv_eq_ediv_of_nonneg om]; omega
  refine Rg 6 J <| Um J J <| aA (cI (σ * (m2 : Int)) (oRem J J (by decide)) e3.1) J <| Um J J <| aA (cI 0 (mD J J (by decide) (by rw [e3.2]; omega)) e3.2) J <| Ua J J <| Ua J J <| Wn <| aI (z := 8) J <| Um J J <| Um J J <| Um J J <| aA (gI J (by rcases hs1 with h | h <;> rw [h] <;> omega)) J <| aA (cI ((m2 : Int)) (oMax J J) (by rcases hs1 with h | h <;> rw [h] <;> split <;> omega)) J <| aA (dJ (cs := [_]) (rows := [[_]]) J J (by decide) J J J) J <| bJ (oApM (f := d64) (us := [d0, d1]) (u := m2) J J J J J (fun _ => rfl) (by decide) g0 (by show (2 * (2 + 1) + 256) * 8 ≤ 2 ^ 48; decide) (by show 2 + 1 < 2 ^ 62; decide)) J <| Ua J J <| Wn <| dG <| lR <| iN <| aB <| Rg 2 J <| Um J J ?_
  refine aA (gJ J J) J <| bB (fun h24 => ?_) (fun h24 => ?_)
  ·exact absurd J h24
  refine Nk [0,2,4,5,24] J <| aX J <| bA <| unr_exit <| aR J <| Rg 5 J <| Um J J <| aA (bZ J J) J <| Um J J <| aA (gS (cs := [_, _, _]) J J J J J) J <| bH (cP (cs' := [_, _, _]) J J J J J J J J) <| Wn <| aN ?_
  have hr : lvN v = .agg [.v (.int .i64 0), .v (.bool (decide (v < 0))), .sl 1 [d64 d0, d64 d1, d64 m2]] := by rw [qU hns, hdg]; rfl
  rw [hr]
  exact postRef3 (n := 0) [d64 d0, d64 d1, d64 m2] (.inr J) J J (g1 (by decide) g0) (by show (0 : Nat) ≠ 2; decide) J (by decide) J (by intro r hr; simp at hr; rcases hr with rfl | rfl | rfl <;> rfl) (by simp [d64])
 refine Um J J <| aE J (dK J) J <| aE J (bZ J J) J <| bB (fun h10 => ?_) (fun h10 => ?_)
 ·refine aA (bM J J) J <| Wn <| aT J <| aB <| Rg 3 J <| Um J J <| aA (gS (cs := [_, _, _]) J J J J J) J <| bH (cP (cs' := [_, _, _]) J J J J J J J J) <| Wn <| bI <| post (n := 0) (.inr J) J ?_ (by simp)
  rw [eM (by unfold smallN; omega)]; rfl
 refine aA (bM J J) J <| Wn <| aX J <| aH ?_
 have hns : ¬ smallN v := by unfold smallN; omega
 have hm1 : 2305843009213693952 ≤ v.natAbs := by unfold smallN at hns; omega
 have hm2 : v.natAbs ≤ 9223372036854775808 := by omega
 have hdg := of_big hm1 hm2
 have e1 : v.tmod 1073741824 = v.sign * ((v.natAbs % 1073741824 : Nat) : Int) ∧ v.tdiv 1073741824 = v.sign * ((v.natAbs / 1073741824 : Nat) : Int) := by
  have := mS (v := v) (w := 1073741824) (q := v.natAbs / 1073741824) (r := v.natAbs % 1073741824) (by simp; omega) (by simp; omega)
  refine ⟨this.2, ?_⟩
  rw [this.1, show Int.sign 1073741824 = 1 from rfl, Int.mul_one]
 obtain ⟨σ, hσ⟩ : ∃ σ, σ = v.sign := ⟨_, rfl⟩
 have hs1 : σ = 1 ∨ σ = -1 := by rw [hσ]; exact sign_1 om
 rw [← hσ] at e1
 obtain ⟨d0, hd0⟩ : ∃ d, d = v.natAbs % 1073741824 := ⟨_, rfl⟩
 obtain ⟨m1, hm1'⟩ : ∃ d, d = v.natAbs / 1073741824 := ⟨_, rfl⟩
 rw [← hd0, ← hm1'] at e1 hdg
 refine Rg 6 J <| Um J J <| aA (cI (σ * (d0 : Int)) (oRem J J (by decide)) e1.1) J <| Um J J <| aA (cI (σ * (m1 : Int)) (mD J J (by decide) (by rw [e1.2]; rcases hs1 with h | h <;> rw [h] <;> omega)) e1.2) J <| Ua J J <| Ua J J <| Wn <| Rg 6 J <| Um J J <| Um J J <| aA (gI J (by rcases hs1 with h | h <;> rw [h] <;> omega)) J <| aA (cI ((d0 : Int)) (oMax J J) (by rcases hs1 with h | h <;> rw [h] <;> split <;> omega)) J <| aA (dJ (cs := [_]) (rows := [[_]]) J J (by decide) J J J) J <| Ua J J <| Nk [0,2,4,5] J <| aL <| iN <| aB <| Rg 2 J <| Um J J <| aA (gJ J J) J <| bB (fun h24 => ?_) (fun h24 => ?_)
 rotate_left
 ·rcases hs1 with h | h <;> rw [h] at h24 <;> omega
 refine Wn <| aT J <| aH <| dL ?_
 have e2 : (σ * (m1 : Int)).tmod 1073741824 = σ * ((m1 % 1073741824 : Nat) : Int) ∧ (σ * (m1 : Int)).tdiv 1073741824 = σ * ((m1 / 1073741824 : Nat) : Int) := by
  rcases hs1 with rfl | rfl
  ·simp only [Int.one_mul]; rw [Int.tmod_eq_emod_of_nonneg om, Int.tdiv_eq_ediv_of_nonneg om]; exact ⟨by simp, by simp⟩
  ·simp only [Int.neg_mul, Int.one_mul, Int.neg_tmod, Int.neg_tdiv]; rw [Int.tmod_eq_emod_of_nonneg om, Int.tdiv_eq_ediv_of_nonneg om]; exact ⟨by simp, by simp⟩
 obtain ⟨d1, hd1⟩ : ∃ d, d = m1 % 1073741824 := ⟨_, rfl⟩
 obtain ⟨m2, hm2'⟩ : ∃ d, d = m1 / 1073741824 := ⟨_, rfl⟩
 rw [← hd1, ← hm2'] at e2 hdg
 refine Rg 6 J <| Um J J <| aA (cI (σ * (d1 : Int)) (oRem J J (by decide)) e2.1) J <| Um J J <| aA (cI (σ * (m2 : Int)) (mD J J (by decide) (by rw [e2.2]; rcases hs1 with h | h <;> rw [h] <;> omega)) e2.2) J <| Ua J J <| Ua J J <| Wn <| aI (z := 8) J <| Um J J <| Um J J <| Um J J <| aA (gI J (by rcases hs1 with h | h <;> rw [h] <;> omega)) J <| aA (cI ((d1 : Int)) (oMax J J) (by rcases hs1 with h | h <;> rw [h] <;> split <;> omega)) J <| aA (dJ (cs := [_]) (rows := [[_]]) J J (by decide) J J J) J <| bJ (oApS (xs := [d64 d0]) (rows := [d64 d1]) J J J J J (by decide) (by intro r hr; simp at hr; subst hr; rfl) (by intro r hr; simp at hr; subst hr; rfl) (Nat.lt_succ_self 0) (by show (2 * (1 + 1) + 256) * 8 ≤ 2 ^ 48; decide) (by show 1 + 1 < 2 ^ 62; decide)) J <| Ua J J <| Wn <| dG <| lR <| iN <| aB <| Rg 2 J <| Um J J ?_
 refine aA (gJ J J) J <| bB (fun h24 => ?_) (fun h24 => ?_)
 rotate_left
 ·rcases hs1 with h | h <;> rw [h] at h24 <;> omega
 refine Nk [0,2,4,5,24] J <| aT J <| aH <| dL ?_
 have e3 : (σ * (m2 : Int)).tmod 1073741824 = σ * (m2 : Int) ∧ (σ * (m2 : Int)).tdiv 1073741824 = 0 := by
  have hb : m2 < 1073741824 := by omega
  rcases hs1 with rfl | rfl
  ·simp only [Int.one_mul]; rw [Int.tmod_eq_emod_of_nonneg om, Int.tdiv_eq_ediv_of_nonneg om]; omega
  ·simp only [Int.neg_mul, Int.one_mul, Int.neg_tmod, Int.neg_tdiv]; rw [Int.tmod_eq_emod_of_nonneg om, Int.tdiv_eq_ediv_of_nonneg om]; omega
 refine Rg 6 J <| Um J J <| aA (cI (σ * (m2 : Int)) (oRem J J (by decide)) e3.1) J <| Um J J <| aA (cI 0 (mD J J (by decide) (by rw [e3.2]; omega)) e3.2) J <| Ua J J <| Ua J J <| Wn <| aI (z := 8) J <| Um J J <| Um J J <| Um J J <| aA (gI J (by rcases hs1 with h | h <;> rw [h] <;> omega)) J <| aA (cI ((m2 : Int)) (oMax J J) (by rcases hs1 with h | h <;> rw [h] <;> split <;> omega)) J <| aA (dJ (cs := [_]) (rows := [[_]]) J J (by decide) J J J) J <| bJ (oApM (f := d64) (us := [d0, d1]) (u := m2) J J J J J (fun _ => rfl) (by decide) g0 (by show (2 * (2 + 1) + 256) * 8 ≤ 2 ^ 48; decide) (by show 2 + 1 < 2 ^ 62; decide)) J <| Ua J J <| Wn <| dG <| lR <| iN <| aB <| Rg 2 J <| Um J J ?_
 refine aA (gJ J J) J <| bB (fun h24 => ?_) (fun h24 => ?_)
 ·exact absurd J h24
 refine Nk [0,2,4,5,24] J <| aX J <| bA <| unr_exit <| aR J <| Rg 5 J <| Um J J <| aA (bZ J J) J <| Um J J <| aA (gS (cs := [_, _, _]) J J J J J) J <| bH (cP (cs' := [_, _, _]) J J J J J J J J) <| Wn <| aN ?_
 have hr : lvN v = .agg [.v (.int .i64 0), .v (.bool (decide (v < 0))), .sl 1 [d64 d0, d64 d1, d64 m2]] := by rw [qU hns, hdg]; rfl
 rw [hr]
 exact postRef3 (n := 0) [d64 d0, d64 d1, d64 m2] (.inr J) J J (g1 (by decide) g0) (by show (0 : Nat) ≠ 2; decide) J (by decide) J (by intro r hr; simp at hr; rcases hr with rfl | rfl | rfl <;> rfl) (by simp [d64])
theorem ntrim_run (k : Nat) (ds : List Nat) (hk : k ≤ 2) (hl : ds.length < 4611686018427387904) : Run Tryz.prog T E0 (.call 168 [.sl k (ds.map d64)] (.sl (if k = 0 then 0 else 1) ((trim ds).map d64))) := by
 refine bL Tryz.func168 J J (dH J) <| Rg 1 J <| Ua J J <| Wn <| aL <| bF (α := Nat × (List Nat)) (fun ⟨k1, es⟩ => [(0, .sl k1 (es.map d64))]) (fun ⟨k1, es⟩ => []) (fun ⟨k1, es⟩ n => (k1 = k ∨ k = 2 ∧ k1 = 1) ∧ trim es = trim ds ∧ es.length < 4611686018427387904) (fun ⟨k1, es⟩ => es.length) (k, ds) ⟨J, trivial⟩ trivial ⟨.inl J, rfl, hl⟩ ?_
 rintro ⟨k1, es⟩ n hF
 change WC _ _ _ _ _ (_ :: _) ([]) n _
 obtain ⟨hk1, hds, hel⟩ := hF
 refine aB <| Rg 12 J <| Um J J <| aA (aW J J) J <| aA (eB J J) J <| bB (fun h5 => ?_) (fun h5 => ?_)
 rotate_left
 ·refine Um J J <| K1 J J <| K1 J J <| K1 J J <| K1 J J <| K1 J J <| K1 J J <| K1 J J <| aA (bK J J) J <| Wn <| aX J <| bA <| aS <| aR J <| Rg 2 J <| Um J J <| Ua J J <| Nk [2] J <| aN <| postW (n := 0) (.inr J) J ?_ (by simp)
  have ht : trim es = es := jO om
  rw [← hds, ht]
  rcases hk1 with rfl | ⟨rfl, rfl⟩
  ·have : k1 = 0 ∨ k1 = 1 ∨ k1 = 2 := by omega
   rcases this with rfl | rfl | rfl
   ·exact .same _
   ·exact .same _
   ·exact .two _
  ·exact .same _
 refine Um J J <| aE J (dK J) J <| aE J (dK J) J <| aE J (aW J J) J <| aE J (cE J J om) J <| aE J (cG (j := es.length - 1) J J J J om om J) J <| aE J (dY J J J) J <| aE J (dV J J) J <| bB (fun h13 => ?_) (fun h13 => ?_)
 ·refine aA (bM J J) J <| Wn <| aT J <| aH <| dL <| aI (z := 6) J <| Um J J <| Um J J <| aA (aW J J) J <| aA (cE J J om) J <| aA (oSlH (j := es.length - 1) J J J gK J om (by simp)) J <| Ua J J <| Wn <| dG <| aG <| ⟨⟨if k1 = 2 then 1 else k1, es.take (es.length - 1)⟩, ⟨congrArg some ?_, trivial⟩, trivial, ⟨?_, ?_, ?_⟩, ?_⟩
  ·have h9 : es.length - 1 < es.length := by omega
   simp [h9]
  ·split <;> omega
  ·rw [pK om om]; exact hds
  ·simp; omega
  ·simp; omega
 refine aA (bM J J) J <| Wn <| aX J <| bA <| aS <| aR J <| Rg 2 J <| Um J J <| Ua J J <| Nk [2] J <| aN <| postW (n := 0) (.inr J) J ?_ (by simp)
 have ht : trim es = es := jO om
 rw [← hds, ht]
 rcases hk1 with rfl | ⟨rfl, rfl⟩
 ·have : k1 = 0 ∨ k1 = 1 ∨ k1 = 2 := by omega
  rcases this with rfl | rfl | rfl
  ·exact .same _
  ·exact .same _
  ·exact .two _
 ·exact .same _
theorem jL (v : Int) : Run Tryz.prog T E0 (.call 139 [lvN v] (.sl (if (dgs 1073741824 v.natAbs).length = 0 then 0 else 1) ((dgs 1073741824 v.natAbs).map d64))) := by
 have hb := pV v
 refine bL Tryz.func139 J J (dH J) <| Rg 2 J <| bJ (eO J J) J <| Ua J J <| Wn <| aB <| Rg 4 J <| aA (aU J J J J J) J <| aA (aM J J J J J) J <| aA (aW J J) J <| aA (eB J J) J <| bB (fun h8 => ?_) (fun h8 => ?_)
 ·refine Wn <| aT J <| aB <| Rg 3 J <| aA (aU J J J J J) J <| aA (aM J J J J J) J <| Ua J J <| Wn <| bI <| post (n := 0) (.inr J) J ?_ (by simp)
  have hs : ¬ smallN v := oE.1 h8
  have h1 : ¬ (dgs 1073741824 v.natAbs).length = 0 := by rw [← oD hs]; omega
  rw [if_neg h1, oD hs, nk_big hs]; rfl
 refine Wn <| aX J <| aH <| Rg 1 J <| Ua J J <| Wn <| aB ?_
 have hs : smallN v := jG.1 om
 have hna := fR hs
 unfold smallN at hs
 refine Rg 7 J <| aA (aU J J J J J) J <| aA (aM J J J J J) J <| aA (aU J J J J J) J <| aA (aM J J J J J) J <| aA (gI J om) J <| aA (cI (((v.natAbs : Nat) : Int)) (oMax J J) (by rw [hna]; split <;> omega)) J <| Ua J J <| Nk [3,4] J <| aL <| bF (α := Nat × Nat × (List Nat)) (fun ⟨m, q, ds⟩ => [(3, outV q 1 (ds.map d64)), (4, .v (.int .i64 (m : Int)))]) (fun ⟨m, q, ds⟩ => outH q 1 3 (ds.map d64) []) (fun ⟨m, q, ds⟩ n => dgs 1073741824 v.natAbs = ds ++ dgs 1073741824 m ∧ m < 2305843009213693952 ∧ ds.length ≤ 3 ∧ m * 1073741824 ^ ds.length ≤ 2305843009213693952) (fun ⟨m, q, ds⟩ => m) (v.natAbs, 0, []) ⟨J, J, trivial⟩ trivial ⟨rfl, om, by simp, by simp; omega⟩ ?_
 rintro ⟨m, q, ds⟩ n hF
 change WC _ _ _ _ _ (_ :: _) (outH _ _ _ _ _) n _
 obtain ⟨hds, hm, hdl, hml⟩ := hF
 refine aB <| Rg 2 J <| Um J J <| aA (eB J J) J <| bB (fun h18 => ?_) (fun h18 => ?_)
 rotate_left
 ·refine Wn <| aX J <| bA <| aS <| aR J <| Rg 2 J <| Um J J <| Ua J J <| Wn <| aN ?_
  have h0 : m = 0 := by omega
  subst h0
  rw [iY, List.append_nil] at hds
  rw [hds, ← mE]
  exact lM (n := 0) (.inr J) J (by decide) gK dM
 refine Wn <| aT J <| aH <| aL <| aI (z := 6) J <| Um J J <| Um J J <| aA (jA (b := 1073741824) J J (by decide)) J <| aA (dJ (cs := [_]) (rows := [[_]]) J J (by decide) J J J) J <| dP (te := ti3) (f := d64) (q := q) (us := ds) J J J J J (fun _ => rfl) (by decide) (by show (2 * (ds.length + 1) + 256) * 8 ≤ _; omega) om J J J <| Ua J J <| Wn <| aF <| aI (z := 3) J <| Um J J <| aA (hJ (b := 1073741824) J J (by decide) om) J <| Ua J J <| Wn <| aG <| ⟨⟨m / 1073741824, _, ds ++ [m % 1073741824]⟩, ⟨J, J, trivial⟩, cL, ⟨list_step (by decide) hds om, om, by have := list_len hml om; simp; omega, by rw [List.length_append, List.length_singleton]; exact list_bd hml⟩, by show m / 1073741824 < m; omega⟩
theorem jM (b : Bool) (k : Nat) (ds : List Nat) (hk : k = 1 ∨ k = 0 ∧ ds.length = 0) (hd : Dg 1073741824 ds) (hl : ds.length < 4611686018427387904) : Run Tryz.prog T E0 (.call 140 [.v (.bool b), .sl k (ds.map d64)] (lvN (if b = true then -(val 1073741824 ds : Int) else val 1073741824 ds))) := by
 refine bL Tryz.func140 J J (dH J) <| Rg 1 J <| bJ (fD J) J <| Wn <| aL <| bF (α := Nat × (List Nat)) (fun ⟨k1, es⟩ => [(0, .v (.bool b)), (1, .sl k1 (es.map d64)), (4, .ptr (0 + 0) 0)]) (fun ⟨k1, es⟩ => [(0, { cells := [.v (.int .i64 0), .v (.bool false), .sl 0 []], sz := 3, elem := 33, st := 0 })]) (fun ⟨k1, es⟩ n => k1 = k ∧ trim es = trim ds ∧ es.length ≤ ds.length) (fun ⟨k1, es⟩ => es.length) (k, ds) ⟨J, J, J, trivial⟩ ⟨J, trivial⟩ ⟨rfl, rfl, Nat.le_refl _⟩ ?_
 rintro ⟨k1, es⟩ n hF
 change WC _ _ _ _ _ (_ :: _) (_ :: _) n _
 obtain ⟨hk1, hds, hel⟩ := hF
 refine aB <| Rg 12 J <| Um J J <| aA (aW J J) J <| aA (eB J J) J <| bB (fun h9 => ?_) (fun h9 => ?_)
 rotate_left
 ·refine Um J J <| K1 J J <| K1 J J <| K1 J J <| K1 J J <| K1 J J <| K1 J J <| K1 J J <| aA (bK J J) J <| Nk [0,1,4,11,12,13,14,15,16,17,18] J <| aX J <| bA <| aS <| aR J <| aB ?_
  have hte : trim es = es := jO om
  have hed : Dg 1073741824 es := by rw [← hte, hds]; exact mY hd
  have hev : val 1073741824 es = val 1073741824 ds := by rw [← hte, hds, hO]
  have het : Trm es := by rw [← hte]; exact mZ _
  refine Rg 14 J <| Um J J <| aA (aW J J) J <| aA (eB J J) J <| bB (fun h26 => ?_) (fun h26 => ?_)
  ·refine Um J J <| K1 J J <| K1 J J <| K1 J J <| K1 J J <| K1 J J <| K1 J J <| K1 J J <| K1 J J <| K1 J J <| aA (bM J J) J <| Nk [0,1,4,37] J <| aT J <| aB ?_
   have hbig := oB het om
   refine Rg 4 J <| Um J J <| Um J J <| aA (gS (cs := [_, _, _]) J J J J J) J <| bH (cP (cs' := [_, _, _]) J J J J J J J J) <| Wn <| bI ?_
   have hr : lvN (if b = true then -(val 1073741824 ds : Int) else val 1073741824 ds) = .agg [.v (.int .i64 0), .v (.bool b), .sl 1 (es.map d64)] := by
    rw [← hev, oA hed hbig, hte]
   have hk2 : k1 = 1 := by omega
   subst hk2
   refine post (n := 0) (.inr J) J ?_ (by simp)
   rw [hr]; rfl
  refine Um J J <| aE J (dK J) J <| aE J (aW J J) J <| aE J (dV J J) J <| bB (fun h30 => ?_) (fun h30 => ?_)
  rotate_left
  ·refine aE J (dK J) J <| K1 J J <| K1 J J <| K1 J J <| K1 J J <| aE J (bK J J) J <| aA (bK J J) J <| Nk [0,1,4,37] J <| aX J <| aH ?_
   have hsm := lI hed om
   refine Rg 1 J <| Ua J J <| Wn <| aB <| Rg 4 J <| Um J J <| aA (aW J J) J <| aA (cE J J om) J <| Ua J J <| Wn <| aL <| bF (α := Nat × Nat) (fun ⟨j, m⟩ => [(0, .v (.bool b)), (1, .sl k1 (es.map d64)), (4, .ptr (0 + 0) 0), (5, .v (.int .i64 (m : Int))), (6, .v (.int .i64 ((j : Int) - 1)))]) (fun ⟨j, m⟩ => [(0, { cells := [.v (.int .i64 0), .v (.bool false), .sl 0 []], sz := 3, elem := 33, st := 0 })]) (fun ⟨j, m⟩ n => j ≤ es.length ∧ m = val 1073741824 (es.drop j)) (fun ⟨j, m⟩ => j) (es.length, 0) ⟨J, J, J, J, J, trivial⟩ ⟨J, trivial⟩ ⟨Nat.le_refl _, by rw [List.drop_length]; rfl⟩ ?_
   rintro ⟨j, m⟩ n hG
   change WC _ _ _ _ _ (_ :: _) (_ :: _) n _
   obtain ⟨hj, hm⟩ := hG
   refine aB <| Rg 2 J <| Um J J <| aA (hH J J) J <| bB (fun h45 => ?_) (fun h45 => ?_)
   ·refine Wn <| aT J <| aH <| aL ?_
    have hmv : es.getD (j - 1) default + 1073741824 * m = val 1073741824 (es.drop (j - 1)) := by rw [hm, oC (k := j - 1) om, show j - 1 + 1 = j by omega]
    have hle := kH 1073741824 es (j - 1) (by decide)
    refine aI (z := 8) J <| Um J J <| aA (gH J J om) J <| Um J J <| Um J J <| aA (cG (j := j - 1) J J J J om om J) J <| aA (dY J J J) J <| aA (cI (((es.getD (j - 1) default + 1073741824 * m : Nat) : Int)) (aO J J om) om) J <| Ua J J <| Wn <| aF <| aI (z := 3) J <| Um J J <| aA (cI (((j - 1 : Nat) : Int) - 1) (cE J J om) om) J <| Ua J J <| Wn <| aG <| ⟨⟨j - 1, es.getD (j - 1) default + 1073741824 * m⟩, ⟨J, J, J, J, J, trivial⟩, ⟨J, trivial⟩, ⟨om, hmv⟩, by show j - 1 < j; omega⟩
   refine Wn <| aX J <| bA <| aS <| aR J <| aB ?_
   have hj0 : j = 0 := by omega
   subst hj0
   rw [List.drop_zero] at hm
   refine Rg 1 J <| Um J J <| dT (fun h55 => ?_) (fun h55 => ?_)
   rotate_left
   ·refine Wn <| aX J <| aH <| Rg 3 J <| Um J J <| aA (gS (cs := [_, _, _]) J J J J J) J <| bH (cP (cs' := [_, _, _]) J J J J J J J J) <| Wn <| aN <| post (n := 0) (.inr J) J ?_ (by simp)
    rw [if_neg (by rw [h55]; decide), ← hev, ← hm, eM (by unfold smallN; omega)]; rfl
   refine Wn <| aT J <| Rg 3 J <| Um J J <| aA (gI J om) J <| Ua J J <| Wn <| Rg 3 J <| Um J J <| aA (gS (cs := [_, _, _]) J J J J J) J <| bH (cP (cs' := [_, _, _]) J J J J J J J J) <| Wn <| aN <| post (n := 0) (.inr J) J ?_ (by simp)
   rw [if_pos h55, ← hev, ← hm, eM (by unfold smallN; omega)]; rfl
  refine aE J (dK J) J <| aE J (dK J) J <| aE J (cG (j := 2) J J J J om om J) J <| aE J (dY J J J) J <| aE J (hH J J) J <| bB (fun h35 => ?_) (fun h35 => ?_)
  ·refine aE J (bM J J) J <| aA (bK J J) J <| Nk [0,1,4,37] J <| aT J <| aB ?_
   have hbig := oB het om
   refine Rg 4 J <| Um J J <| Um J J <| aA (gS (cs := [_, _, _]) J J J J J) J <| bH (cP (cs' := [_, _, _]) J J J J J J J J) <| Wn <| bI ?_
   have hr : lvN (if b = true then -(val 1073741824 ds : Int) else val 1073741824 ds) = .agg [.v (.int .i64 0), .v (.bool b), .sl 1 (es.map d64)] := by
    rw [← hev, oA hed hbig, hte]
   have hk2 : k1 = 1 := by omega
   subst hk2
   refine post (n := 0) (.inr J) J ?_ (by simp)
   rw [hr]; rfl
  refine aE J (bM J J) J <| aA (bK J J) J <| Nk [0,1,4,37] J <| aX J <| aH ?_
  have hsm := lI hed om
  refine Rg 1 J <| Ua J J <| Wn <| aB <| Rg 4 J <| Um J J <| aA (aW J J) J <| aA (cE J J om) J <| Ua J J <| Wn <| aL <| bF (α := Nat × Nat) (fun ⟨j, m⟩ => [(0, .v (.bool b)), (1, .sl k1 (es.map d64)), (4, .ptr (0 + 0) 0), (5, .v (.int .i64 (m : Int))), (6, .v (.int .i64 ((j : Int) - 1)))]) (fun ⟨j, m⟩ => [(0, { cells := [.v (.int .i64 0), .v (.bool false), .sl 0 []], sz := 3, elem := 33, st := 0 })]) (fun ⟨j, m⟩ n => j ≤ es.length ∧ m = val 1073741824 (es.drop j)) (fun ⟨j, m⟩ => j) (es.length, 0) ⟨J, J, J, J, J, trivial⟩ ⟨J, trivial⟩ ⟨Nat.le_refl _, by rw [List.drop_length]; rfl⟩ ?_
  rintro ⟨j, m⟩ n hG
  change WC _ _ _ _ _ (_ :: _) (_ :: _) n _
  obtain ⟨hj, hm⟩ := hG
  refine aB <| Rg 2 J <| Um J J <| aA (hH J J) J <| bB (fun h45 => ?_) (fun h45 => ?_)
  ·refine Wn <| aT J <| aH <| aL ?_
   have hmv : es.getD (j - 1) default + 1073741824 * m = val 1073741824 (es.drop (j - 1)) := by rw [hm, oC (k := j - 1) om, show j - 1 + 1 = j by omega]
   have hle := kH 1073741824 es (j - 1) (by decide)
   refine aI (z := 8) J <| Um J J <| aA (gH J J om) J <| Um J J <| Um J J <| aA (cG (j := j - 1) J J J J om om J) J <| aA (dY J J J) J <| aA (cI (((es.getD (j - 1) default + 1073741824 * m : Nat) : Int)) (aO J J om) om) J <| Ua J J <| Wn <| aF <| aI (z := 3) J <| Um J J <| aA (cI (((j - 1 : Nat) : Int) - 1) (cE J J om) om) J <| Ua J J <| Wn <| aG <| ⟨⟨j - 1, es.getD (j - 1) default + 1073741824 * m⟩, ⟨J, J, J, J, J, trivial⟩, ⟨J, trivial⟩, ⟨om, hmv⟩, by show j - 1 < j; omega⟩
  refine Wn <| aX J <| bA <| aS <| aR J <| aB ?_
  have hj0 : j = 0 := by omega
  subst hj0
  rw [List.drop_zero] at hm
  refine Rg 1 J <| Um J J <| dT (fun h55 => ?_) (fun h55 => ?_)
  rotate_left
  ·refine Wn <| aX J <| aH <| Rg 3 J <| Um J J <| aA (gS (cs := [_, _, _]) J J J J J) J <| bH (cP (cs' := [_, _, _]) J J J J J J J J) <| Wn <| aN <| post (n := 0) (.inr J) J ?_ (by simp)
   rw [if_neg (by rw [h55]; decide), ← hev, ← hm, eM (by unfold smallN; omega)]; rfl
  refine Wn <| aT J <| Rg 3 J <| Um J J <| aA (gI J om) J <| Ua J J <| Wn <| Rg 3 J <| Um J J <| aA (gS (cs := [_, _, _]) J J J J J) J <| bH (cP (cs' := [_, _, _]) J J J J J J J J) <| Wn <| aN <| post (n := 0) (.inr J) J ?_ (by simp)
  rw [if_pos h55, ← hev, ← hm, eM (by unfold smallN; omega)]; rfl
 refine Um J J <| aE J (dK J) J <| aE J (dK J) J <| aE J (aW J J) J <| aE J (cE J J om) J <| aE J (cG (j := es.length - 1) J J J J om om J) J <| aE J (dY J J J) J <| aE J (dV J J) J <| bB (fun h17 => ?_) (fun h17 => ?_)
 ·refine aA (bM J J) J <| Nk [0,1,4,11,12,13,14,15,16,17,18] J <| aT J <| aH <| dL <| aI (z := 6) J <| Um J J <| Um J J <| aA (aW J J) J <| aA (cE J J om) J <| aA (oSlH (j := es.length - 1) J J J gK J om (by simp)) J <| Ua J J <| Wn <| dG <| aG <| ⟨⟨k1, es.take (es.length - 1)⟩, ⟨rfl, congrArg some ?_, rfl, trivial⟩, ⟨J, trivial⟩, ⟨hk1, ?_, ?_⟩, ?_⟩
  ·have h9 : ¬ k1 = 2 := by omega
   simp [h9]
  ·rw [pK om om]; exact hds
  ·simp; omega
  ·simp; omega
 refine aA (bM J J) J <| Nk [0,1,4,11,12,13,14,15,16,17,18] J <| aX J <| bA <| aS <| aR J <| aB ?_
 have hte : trim es = es := jO om
 have hed : Dg 1073741824 es := by rw [← hte, hds]; exact mY hd
 have hev : val 1073741824 es = val 1073741824 ds := by rw [← hte, hds, hO]
 have het : Trm es := by rw [← hte]; exact mZ _
 refine Rg 14 J <| Um J J <| aA (aW J J) J <| aA (eB J J) J <| bB (fun h26 => ?_) (fun h26 => ?_)
 ·refine Um J J <| K1 J J <| K1 J J <| K1 J J <| K1 J J <| K1 J J <| K1 J J <| K1 J J <| K1 J J <| K1 J J <| aA (bM J J) J <| Nk [0,1,4,37] J <| aT J <| aB ?_
  have hbig := oB het om
  refine Rg 4 J <| Um J J <| Um J J <| aA (gS (cs := [_, _, _]) J J J J J) J <| bH (cP (cs' := [_, _, _]) J J J J J J J J) <| Wn <| bI ?_
  have hr : lvN (if b = true then -(val 1073741824 ds : Int) else val 1073741824 ds) = .agg [.v (.int .i64 0), .v (.bool b), .sl 1 (es.map d64)] := by
   rw [← hev, oA hed hbig, hte]
  have hk2 : k1 = 1 := by omega
  subst hk2
  refine post (n := 0) (.inr J) J ?_ (by simp)
  rw [hr]; rfl
 refine Um J J <| aE J (dK J) J <| aE J (aW J J) J <| aE J (dV J J) J <| bB (fun h30 => ?_) (fun h30 => ?_)
 rotate_left
 ·refine aE J (dK J) J <| K1 J J <| K1 J J <| K1 J J <| K1 J J <| aE J (bK J J) J <| aA (bK J J) J <| Nk [0,1,4,37] J <| aX J <| aH ?_
  have hsm := lI hed om
  refine Rg 1 J <| Ua J J <| Wn <| aB <| Rg 4 J <| Um J J <| aA (aW J J) J <| aA (cE J J om) J <| Ua J J <| Wn <| aL <| bF (α := Nat × Nat) (fun ⟨j, m⟩ => [(0, .v (.bool b)), (1, .sl k1 (es.map d64)), (4, .ptr (0 + 0) 0), (5, .v (.int .i64 (m : Int))), (6, .v (.int .i64 ((j : Int) - 1)))]) (fun ⟨j, m⟩ => [(0, { cells := [.v (.int .i64 0), .v (.bool false), .sl 0 []], sz := 3, elem := 33, st := 0 })]) (fun ⟨j, m⟩ n => j ≤ es.length ∧ m = val 1073741824 (es.drop j)) (fun ⟨j, m⟩ => j) (es.length, 0) ⟨J, J, J, J, J, trivial⟩ ⟨J, trivial⟩ ⟨Nat.le_refl _, by rw [List.drop_length]; rfl⟩ ?_
  rintro ⟨j, m⟩ n hG
  change WC _ _ _ _ _ (_ :: _) (_ :: _) n _
  obtain ⟨hj, hm⟩ := hG
  refine aB <| Rg 2 J <| Um J J <| aA (hH J J) J <| bB (fun h45 => ?_) (fun h45 => ?_)
  ·refine Wn <| aT J <| aH <| aL ?_
   have hmv : es.getD (j - 1) default + 1073741824 * m = val 1073741824 (es.drop (j - 1)) := by rw [hm, oC (k := j - 1) om, show j - 1 + 1 = j by omega]
   have hle := kH 1073741824 es (j - 1) (by decide)
   refine aI (z := 8) J <| Um J J <| aA (gH J J om) J <| Um J J <| Um J J <| aA (cG (j := j - 1) J J J J om om J) J <| aA (dY J J J) J <| aA (cI (((es.getD (j - 1) default + 1073741824 * m : Nat) : Int)) (aO J J om) om) J <| Ua J J <| Wn <| aF <| aI (z := 3) J <| Um J J <| aA (cI (((j - 1 : Nat) : Int) - 1) (cE J J om) om) J <| Ua J J <| Wn <| aG <| ⟨⟨j - 1, es.getD (j - 1) default + 1073741824 * m⟩, ⟨J, J, J, J, J, trivial⟩, ⟨J, trivial⟩, ⟨om, hmv⟩, by show j - 1 < j; omega⟩
  refine Wn <| aX J <| bA <| aS <| aR J <| aB ?_
  have hj0 : j = 0 := by omega
  subst hj0
  rw [List.drop_zero] at hm
  refine Rg 1 J <| Um J J <| dT (fun h55 => ?_) (fun h55 => ?_)
  rotate_left
  ·refine Wn <| aX J <| aH <| Rg 3 J <| Um J J <| aA (gS (cs := [_, _, _]) J J J J J) J <| bH (cP (cs' := [_, _, _]) J J J J J J J J) <| Wn <| aN <| post (n := 0) (.inr J) J ?_ (by simp)
   rw [if_neg (by rw [h55]; decide), ← hev, ← hm, eM (by unfold smallN; omega)]; rfl
  refine Wn <| aT J <| Rg 3 J <| Um J J <| aA (gI J om) J <| Ua J J <| Wn <| Rg 3 J <| Um J J <| aA (gS (cs := [_, _, _]) J J J J J) J <| bH (cP (cs' := [_, _, _]) J J J J J J J J) <| Wn <| aN <| post (n := 0) (.inr J) J ?_ (by simp)
  rw [if_pos h55, ← hev, ← hm, eM (by unfold smallN; omega)]; rfl
 refine aE J (dK J) J <| aE J (dK J) J <| aE J (cG (j := 2) J J J J om om J) J <| aE J (dY J J J) J <| aE J (hH J J) J <| bB (fun h35 => ?_) (fun h35 => ?_)
 ·refine aE J (bM J J) J <| aA (bK J J) J <| Nk [0,1,4,37] J <| aT J <| aB ?_
  have hbig := oB het om
  refine Rg 4 J <| Um J J <| Um J J <| aA (gS (cs := [_, _, _]) J J J J J) J <| bH (cP (cs' := [_, _, _]) J J J J J J J J) <| Wn <| bI ?_
  have hr : lvN (if b = true then -(val 1073741824 ds : Int) else val 1073741824 ds) = .agg [.v (.int .i64 0), .v (.bool b), .sl 1 (es.map d64)] := by
   rw [← hev, oA hed hbig, hte]
  have hk2 : k1 = 1 := by omega
  subst hk2
  refine post (n := 0) (.inr J) J ?_ (by simp)
  rw [hr]; rfl
 refine aE J (bM J J) J <| aA (bK J J) J <| Nk [0,1,4,37] J <| aX J <| aH ?_
 have hsm := lI hed om
 refine Rg 1 J <| Ua J J <| Wn <| aB <| Rg 4 J <| Um J J <| aA (aW J J) J <| aA (cE J J om) J <| Ua J J <| Wn <| aL <| bF (α := Nat × Nat) (fun ⟨j, m⟩ => [(0, .v (.bool b)), (1, .sl k1 (es.map d64)), (4, .ptr (0 + 0) 0), (5, .v (.int .i64 (m : Int))), (6, .v (.int .i64 ((j : Int) - 1)))]) (fun ⟨j, m⟩ => [(0, { cells := [.v (.int .i64 0), .v (.bool false), .sl 0 []], sz := 3, elem := 33, st := 0 })]) (fun ⟨j, m⟩ n => j ≤ es.length ∧ m = val 1073741824 (es.drop j)) (fun ⟨j, m⟩ => j) (es.length, 0) ⟨J, J, J, J, J, trivial⟩ ⟨J, trivial⟩ ⟨Nat.le_refl _, by rw [List.drop_length]; rfl⟩ ?_
 rintro ⟨j, m⟩ n hG
 change WC _ _ _ _ _ (_ :: _) (_ :: _) n _
 obtain ⟨hj, hm⟩ := hG
 refine aB <| Rg 2 J <| Um J J <| aA (hH J J) J <| bB (fun h45 => ?_) (fun h45 => ?_)
 ·refine Wn <| aT J <| aH <| aL ?_
  have hmv : es.getD (j - 1) default + 1073741824 * m = val 1073741824 (es.drop (j - 1)) := by rw [hm, oC (k := j - 1) om, show j - 1 + 1 = j by omega]
  have hle := kH 1073741824 es (j - 1) (by decide)
  refine aI (z := 8) J <| Um J J <| aA (gH J J om) J <| Um J J <| Um J J <| aA (cG (j := j - 1) J J J J om om J) J <| aA (dY J J J) J <| aA (cI (((es.getD (j - 1) default + 1073741824 * m : Nat) : Int)) (aO J J om) om) J <| Ua J J <| Wn <| aF <| aI (z := 3) J <| Um J J <| aA (cI (((j - 1 : Nat) : Int) - 1) (cE J J om) om) J <| Ua J J <| Wn <| aG <| ⟨⟨j - 1, es.getD (j - 1) default + 1073741824 * m⟩, ⟨J, J, J, J, J, trivial⟩, ⟨J, trivial⟩, ⟨om, hmv⟩, by show j - 1 < j; omega⟩
 refine Wn <| aX J <| bA <| aS <| aR J <| aB ?_
 have hj0 : j = 0 := by omega
 subst hj0
 rw [List.drop_zero] at hm
 refine Rg 1 J <| Um J J <| dT (fun h55 => ?_) (fun h55 => ?_)
 rotate_left
 ·refine Wn <| aX J <| aH <| Rg 3 J <| Um J J <| aA (gS (cs := [_, _, _]) J J J J J) J <| bH (cP (cs' := [_, _, _]) J J J J J J J J) <| Wn <| aN <| post (n := 0) (.inr J) J ?_ (by simp)
  rw [if_neg (by rw [h55]; decide), ← hev, ← hm, eM (by unfold smallN; omega)]; rfl
 refine Wn <| aT J <| Rg 3 J <| Um J J <| aA (gI J om) J <| Ua J J <| Wn <| Rg 3 J <| Um J J <| aA (gS (cs := [_, _, _]) J J J J J) J <| bH (cP (cs' := [_, _, _]) J J J J J J J J) <| Wn <| aN <| post (n := 0) (.inr J) J ?_ (by simp)
 rw [if_pos h55, ← hev, ← hm, eM (by unfold smallN; omega)]; rfl
theorem eR (v : Int) : Run Tryz.prog T E0 (.call 102 [lvN v] (.v (.int .i64 v.sign))) := by
 refine bL Tryz.func102 J J (dH J) <| Rg 2 J <| bJ (eO J J) J <| Ua J J <| Wn <| aL <| Rg 14 J <| aA (aU J J J J J) J <| aA (aM J J J J J) J <| aA (aW J J) J <| aA (eB J J) J <| bB (fun h7 => ?_) (fun h7 => ?_)
 rotate_left
 ·refine Um J J <| K1 J J <| K1 J J <| aA (bK J J) J <| Um J J <| aE J (aU J J J J J) J <| aE J (aM J J J J J) J <| aE J (bZ J J) J <| bB (fun h15 => ?_) (fun h15 => ?_)
  ·refine aA (bK J J) J <| Ua J J <| Nk [1,3] J <| bY J <| Rg 1 J <| Ua J J <| Wn <| aN <| aP <| post (n := 0) (.inr J) J (congrArg (fun z => LV.v (.int .i64 z)) ?_) (by simp)
   exact (Int.sign_eq_neg_one_of_neg ((signN v).1 (by first | exact .inl ⟨h7, h10⟩ | exact .inr h15))).symm
  refine aA (bK J J) J <| Ua J J <| Nk [1,3] J <| bV J ?_
  have hn : ¬ v < 0 := fun k => by
   rcases (signN v).2 k with ⟨k1, k2⟩ | k1
   ·first | omega | (rw [k2] at h10; cases h10)
   ·omega
  refine Rg 10 J <| aA (aU J J J J J) J <| aA (aM J J J J J) J <| aA (aW J J) J <| aA (eB J J) J <| bB (fun h21 => ?_) (fun h21 => ?_)
  ·refine Um J J <| K1 J J <| K1 J J <| K1 J J <| aA (bM J J) J <| Ua J J <| Wn <| bY J <| Rg 1 J <| Ua J J <| Wn <| aN <| aP <| post (n := 0) (.inr J) J (congrArg (fun z => LV.v (.int .i64 z)) ?_) (by simp)
   exact (Int.sign_eq_one_of_pos ((signP v hn).1 (.inl h21))).symm
  refine Um J J <| aE J (aU J J J J J) J <| aE J (aM J J J J J) J <| aE J (eB J J) J <| bB (fun h25 => ?_) (fun h25 => ?_)
  ·refine aA (bK J J) J <| Ua J J <| Wn <| bY J <| Rg 1 J <| Ua J J <| Wn <| aN <| aP <| post (n := 0) (.inr J) J (congrArg (fun z => LV.v (.int .i64 z)) ?_) (by simp)
   exact (Int.sign_eq_one_of_pos ((signP v hn).1 (.inr h25))).symm
  refine aA (bK J J) J <| Ua J J <| Wn <| bV J <| cA <| aF <| Rg 1 J <| Ua J J <| Wn <| aN <| post (n := 0) (.inr J) J (congrArg (fun z => LV.v (.int .i64 z)) ?_) (by simp)
  have hp : ¬ 0 < v := fun k => by
   rcases (signP v hn).2 k with k1 | k1 <;> omega
  have h0 : v = 0 := by omega
  subst h0; rfl
 refine Um J J <| aE J (aU J J J J J) J <| aE J (aM J J J J J) J <| dT (fun h10 => ?_) (fun h10 => ?_)
 ·refine aA (bM J J) J <| Um J J <| K1 J J <| K1 J J <| K1 J J <| aA (bM J J) J <| Ua J J <| Nk [1,3] J <| bY J <| Rg 1 J <| Ua J J <| Wn <| aN <| aP <| post (n := 0) (.inr J) J (congrArg (fun z => LV.v (.int .i64 z)) ?_) (by simp)
  exact (Int.sign_eq_neg_one_of_neg ((signN v).1 (by first | exact .inl ⟨h7, h10⟩ | exact .inr h15))).symm
 refine aA (bM J J) J <| Um J J <| aE J (aU J J J J J) J <| aE J (aM J J J J J) J <| aE J (bZ J J) J <| bB (fun h15 => ?_) (fun h15 => ?_)
 ·refine aA (bK J J) J <| Ua J J <| Nk [1,3] J <| bY J <| Rg 1 J <| Ua J J <| Wn <| aN <| aP <| post (n := 0) (.inr J) J (congrArg (fun z => LV.v (.int .i64 z)) ?_) (by simp)
  exact (Int.sign_eq_neg_one_of_neg ((signN v).1 (by first | exact .inl ⟨h7, h10⟩ | exact .inr h15))).symm
 refine aA (bK J J) J <| Ua J J <| Nk [1,3] J <| bV J ?_
 have hn : ¬ v < 0 := fun k => by
  rcases (signN v).2 k with ⟨k1, k2⟩ | k1
  ·first | omega | (rw [k2] at h10; cases h10)
  ·omega
 refine Rg 10 J <| aA (aU J J J J J) J <| aA (aM J J J J J) J <| aA (aW J J) J <| aA (eB J J) J <| bB (fun h21 => ?_) (fun h21 => ?_)
 ·refine Um J J <| K1 J J <| K1 J J <| K1 J J <| aA (bM J J) J <| Ua J J <| Wn <| bY J <| Rg 1 J <| Ua J J <| Wn <| aN <| aP <| post (n := 0) (.inr J) J (congrArg (fun z => LV.v (.int .i64 z)) ?_) (by simp)
  exact (Int.sign_eq_one_of_pos ((signP v hn).1 (.inl h21))).symm
 refine Um J J <| aE J (aU J J J J J) J <| aE J (aM J J J J J) J <| aE J (eB J J) J <| bB (fun h25 => ?_) (fun h25 => ?_)
 ·refine aA (bK J J) J <| Ua J J <| Wn <| bY J <| Rg 1 J <| Ua J J <| Wn <| aN <| aP <| post (n := 0) (.inr J) J (congrArg (fun z => LV.v (.int .i64 z)) ?_) (by simp)
  exact (Int.sign_eq_one_of_pos ((signP v hn).1 (.inr h25))).symm
 refine aA (bK J J) J <| Ua J J <| Wn <| bV J <| cA <| aF <| Rg 1 J <| Ua J J <| Wn <| aN <| post (n := 0) (.inr J) J (congrArg (fun z => LV.v (.int .i64 z)) ?_) (by simp)
 have hp : ¬ 0 < v := fun k => by
  rcases (signP v hn).2 k with k1 | k1 <;> omega
 have h0 : v = 0 := by omega
 subst h0; rfl
theorem jU (v : Int) : Run Tryz.prog T E0 (.call 73 [lvN v] (lvN (-v))) := by
 have hb := pV v
 refine bL Tryz.func73 J J (dH J) <| Rg 2 J <| bJ (eO J J) J <| bJ (fD J) J <| Wn <| Rg 16 J <| aA (aU J J J J J) J <| aA (aM J J J J J) J <| aA (gI J om) J <| aA (aU J J J J J) J <| aA (aM J J J J J) J <| aA (aW J J) J <| aA (eB J J) J <| bB (fun h9 => ?_) (fun h9 => ?_)
 ·refine Um J J <| aE J (aU J J J J J) J <| aE J (aM J J J J J) J <| aE J (dE J) J <| aA (bM J J) J <| aA (aU J J J J J) J <| aA (aM J J J J J) J <| aA (gS (cs := [_, _, _]) J J J J J) J <| bH (cP (cs' := [_, _, _]) J J J J J J J J) <| Nk [2] J <| aN <| post (n := 0) (.inr J) J ?_ (by simp)
  rw [lvN_neg, decide_eq_true h9, Bool.true_and]; rfl
 refine Um J J <| K1 J J <| K1 J J <| K1 J J <| aA (bK J J) J <| aA (aU J J J J J) J <| aA (aM J J J J J) J <| aA (gS (cs := [_, _, _]) J J J J J) J <| bH (cP (cs' := [_, _, _]) J J J J J J J J) <| Nk [2] J <| aN <| post (n := 0) (.inr J) J ?_ (by simp)
 rw [lvN_neg, decide_eq_false h9, Bool.false_and]; rfl
theorem lK (k1 k2 : Nat) (xs ys : List Nat) (hx : Dg 1073741824 xs) (hy : Dg 1073741824 ys) (tx : Trm xs) (ty : Trm ys) (lx : xs.length < 4611686018427387904) (ly : ys.length < 4611686018427387904) : Run Tryz.prog T E0 (.call 142 [.sl k1 (xs.map d64), .sl k2 (ys.map d64)] (.v (.int .i64 ((val 1073741824 xs : Int) - val 1073741824 ys).sign))) := by
 refine bL Tryz.func142 J J (dH J) <| Rg 1 J <| Ua J J <| Wn <| aB <| Rg 5 J <| Um J J <| aA (aW J J) J <| Um J J <| aA (aW J J) J <| aA (gJ J J) J <| bB (fun h10 => ?_) (fun h10 => ?_)
 ·refine Wn <| aT J <| aB <| aB <| Rg 5 J <| Um J J <| aA (aW J J) J <| Um J J <| aA (aW J J) J <| aA (bZ J J) J <| bB (fun h15 => ?_) (fun h15 => ?_)
  ·refine Wn <| aT J <| aB <| Rg 1 J <| Ua J J <| Wn <| bI <| post (n := 0) (.inr J) J (congrArg (fun z => LV.v (.int .i64 z)) ?_) (by simp)
   have := eJ (B := 1073741824) (by decide) hx ty om
   exact (Int.sign_eq_neg_one_of_neg om).symm
  refine Wn <| aX J <| aH <| aB <| Rg 1 J <| Ua J J <| Wn <| bI <| post (n := 0) (.inr J) J (congrArg (fun z => LV.v (.int .i64 z)) ?_) (by simp)
  have := eJ (B := 1073741824) (by decide) hy tx om
  exact (Int.sign_eq_one_of_pos om).symm
 have hlen : xs.length = ys.length := by omega
 refine Wn <| aX J <| aH <| aB <| Rg 4 J <| Um J J <| aA (aW J J) J <| aA (cE J J om) J <| Ua J J <| Wn <| aL <| bF (α := Nat) (fun k => [(0, .sl k1 (xs.map d64)), (1, .sl k2 (ys.map d64)), (5, .v (.int .i64 ((k : Int) - 1)))]) (fun k => []) (fun k n => k ≤ xs.length ∧ xs.drop k = ys.drop k) (fun k => k) (xs.length) ⟨J, J, J, trivial⟩ trivial ⟨Nat.le_refl _, by rw [List.drop_length, hlen, List.drop_length]⟩ ?_
 rintro k n hF
 change WC _ _ _ _ _ (_ :: _) ([]) n _
 obtain ⟨hk, hd⟩ := hF
 refine aB <| Rg 2 J <| Um J J <| aA (hH J J) J <| bB (fun h20 => ?_) (fun h20 => ?_)
 rotate_left
 ·refine Wn <| aX J <| bA <| aS <| aR J <| Rg 1 J <| Ua J J <| Wn <| aN <| post (n := 0) (.inr J) J (congrArg (fun z => LV.v (.int .i64 z)) ?_) (by simp)
  have h0 : k = 0 := by omega
  subst h0
  simp only [List.drop_zero] at hd
  subst hd
  simp
 refine Wn <| aT J <| aH <| aL <| aB <| bR (z := 9) J kR <| Dm J J <| Dm J J <| aC (cG (j := k - 1) J J J J om om J) J <| aC (dY J J J) J <| Dm J J <| Dm J J <| aC (cG (j := k - 1) J J J J om om J) J <| aC (dY J J J) J <| aC (bZ J J) J <| jD (fun h31 => ?_) (fun h31 => ?_)
 ·refine bG (aQ kR) J <| aT J <| aB <| Rg 1 J <| Ua J J <| Nk [4] J <| bI <| aP <| cR <| aP <| post (n := 0) (.inr J) J (congrArg (fun z => LV.v (.int .i64 z)) ?_) (by simp)
  have hj : k - 1 + 1 = k := by omega
  have := nA (B := 1073741824) (ys := ys) (by decide) hx (k := k - 1) om om (by rw [hj]; exact hd) om
  exact (Int.sign_eq_neg_one_of_neg om).symm
 refine bG (aQ kR) J <| aX J <| aH <| bR (z := 9) J kR <| Dm J J <| Dm J J <| aC (cG (j := k - 1) J J J J om om J) J <| aC (dY J J J) J <| Dm J J <| Dm J J <| aC (cG (j := k - 1) J J J J om om J) J <| aC (dY J J J) J <| aC (eB J J) J <| jD (fun h40 => ?_) (fun h40 => ?_)
 ·refine bG (aQ kR) J <| Ck [0,1,5,40] J <| bY J <| Rg 1 J <| Ua J J <| Wn <| aN <| aP <| cR <| aP <| post (n := 0) (.inr J) J (congrArg (fun z => LV.v (.int .i64 z)) ?_) (by simp)
  have hj : k - 1 + 1 = k := by omega
  have := nA (B := 1073741824) (ys := xs) (by decide) hy (k := k - 1) om om (by rw [hj]; exact hd.symm) om
  exact (Int.sign_eq_one_of_pos om).symm
 refine bG (aQ kR) J <| Ck [0,1,5,40] J <| bV J <| cA <| aF <| aI (z := 3) J <| Um J J <| aA (cI (((k - 1 : Nat) : Int) - 1) (cE J J om) om) J <| Ua J J <| Wn <| aG ?_
 have hj : k - 1 + 1 = k := by omega
 refine ⟨k - 1, ⟨J, J, J, trivial⟩, trivial, ⟨om, ?_⟩, by show k - 1 < k; omega⟩
 rw [bW (by omega : k - 1 < xs.length), bW (by omega : k - 1 < ys.length), hj, hd]
 congr 1; omega
theorem nsum_run (k1 k2 : Nat) (xs ys : List Nat) (hx : Dg 1073741824 xs) (hy : Dg 1073741824 ys) (lx : xs.length < 1099511627776) (ly : ys.length < 1099511627776) : ∃ r, Run Tryz.prog T E0 (.call 141 [.sl k1 (xs.map d64), .sl k2 (ys.map d64)] r) ∧ ∃ ds, r = .sl (if ds.length = 0 then 0 else 1) (ds.map d64) ∧ Dg 1073741824 ds ∧ val 1073741824 ds = val 1073741824 xs + val 1073741824 ys ∧ ds.length ≤ max xs.length ys.length + 1 := by
 refine iT Tryz.func141 J J (dH J) <| Rg 1 J <| Ua J J <| Wn <| Rg 1 J <| Ua J J <| Wn <| Rg 1 J <| Ua J J <| Wn <| aB <| Rg 1 J <| Ua J J <| Wn <| aL <| bF (α := Nat × Nat × (List Nat)) (fun ⟨c, q, ds⟩ => [(0, .sl k1 (xs.map d64)), (1, .sl k2 (ys.map d64)), (5, outV q 1 (ds.map d64)), (6, .v (.int .i64 (c : Int))), (7, .v (.int .i64 (ds.length : Int)))]) (fun ⟨c, q, ds⟩ => outH q 1 3 (ds.map d64) []) (fun ⟨c, q, ds⟩ n => ds.length ≤ max xs.length ys.length + 1 ∧ (ds.length = max xs.length ys.length + 1 → c = 0) ∧ Dg 1073741824 ds ∧ c ≤ 1 ∧ val 1073741824 ds + 1073741824 ^ ds.length * c = val 1073741824 (xs.take ds.length) + val 1073741824 (ys.take ds.length)) (fun ⟨c, q, ds⟩ => max xs.length ys.length + 2 - ds.length) (0, 0, []) ⟨J, J, J, J, J, trivial⟩ trivial ⟨by simp, by simp, by intro d hd; simp at hd, om, by simp [val]⟩ ?_
 rintro ⟨c, q, ds⟩ n hF
 change WC _ _ _ _ _ (_ :: _) (outH _ _ _ _ _) n _
 obtain ⟨hl1, hl2, hdd, hc, hi⟩ := hF
 refine aB <| Rg 14 J <| Um J J <| Um J J <| aA (aW J J) J <| aA (bZ J J) J <| bB (fun h11 => ?_) (fun h11 => ?_)
 ·refine Um J J <| K1 J J <| K1 J J <| K1 J J <| K1 J J <| aA (bM J J) J <| Um J J <| K1 J J <| K1 J J <| aA (bM J J) J <| Nk [0,1,5,6,7,13,14,15,16,19,20,21] J <| aT J <| aH <| aL <| aB <| Rg 4 J <| Um J J <| Um J J <| aA (aW J J) J <| aA (bZ J J) J <| bB (fun h27 => ?_) (fun h27 => ?_)
  rotate_left
  ·refine Nk [0,1,5,6,7,13,14,15,16,19,20,27] J <| aX J <| aH <| aB <| Rg 4 J <| Um J J <| Um J J <| aA (aW J J) J <| aA (bZ J J) J <| bB (fun h37 => ?_) (fun h37 => ?_)
   rotate_left
   ·refine Nk [0,1,5,6,7,13,14,15,16,19,20,37] J <| aX J <| aH <| Rg 6 J <| Um J J <| Um J J <| aA (jA (b := 1073741824) J J (by decide)) J <| aA (dJ (cs := [_]) (rows := [[_]]) J J (by decide) J J J) J <| dP (te := ti3) (f := d64) (q := q) (us := ds) J J J J J (fun _ => rfl) (by decide) (by show (2 * (ds.length + 1) + 256) * 8 ≤ _; omega) om J J J <| Ua J J <| Nk [0,1,5,6,7,13,14,15,16,19,20] J <| aI (z := 3) J <| Um J J <| aA (hJ (b := 1073741824) J J (by decide) om) J <| Ua J J <| Wn <| aF <| aI (z := 3) J <| Um J J <| aA (cI (((ds.length + 1 : Nat) : Int)) (aO J J om) om) J <| Ua J J <| cJ ?_
    refine aG <| ⟨⟨(c) / 1073741824, _, ds ++ [(c) % 1073741824]⟩, ⟨rfl, rfl, rfl, rfl, congrArg some (by simp), trivial⟩, cL, ⟨by simp; omega, by simp; omega, hdd.snoc (Nat.mod_lt _ (by decide)), om, eH hi (dW om).symm (dW om).symm om⟩, by simp; omega⟩
   refine Nk [0,1,5,6,7,13,14,15,16,19,20,37] J <| aT J ?_
   have hyl : ys.getD ds.length default < 1073741824 := bP hy om
   refine Rg 7 J <| Um J J <| Um J J <| Um J J <| aA (cG J J J J J om J) J <| aA (dY J J J) J <| aA (cI (((c + ys.getD ds.length default : Nat) : Int)) (aO J J om) om) J <| Ua J J <| Nk [0,1,5,6,7,13,14,15,16,19,20] J <| Rg 6 J <| Um J J <| Um J J <| aA (jA (b := 1073741824) J J (by decide)) J <| aA (dJ (cs := [_]) (rows := [[_]]) J J (by decide) J J J) J <| dP (te := ti3) (f := d64) (q := q) (us := ds) J J J J J (fun _ => rfl) (by decide) (by show (2 * (ds.length + 1) + 256) * 8 ≤ _; omega) om J J J <| Ua J J <| Nk [0,1,5,6,7,13,14,15,16,19,20] J <| aI (z := 3) J <| Um J J <| aA (hJ (b := 1073741824) J J (by decide) om) J <| Ua J J <| cJ ?_
   refine aF <| aI (z := 3) J <| Um J J <| aA (cI (((ds.length + 1 : Nat) : Int)) (aO J J om) om) J <| Ua J J <| Wn <| aG <| ⟨⟨(c + ys.getD ds.length default) / 1073741824, _, ds ++ [(c + ys.getD ds.length default) % 1073741824]⟩, ⟨rfl, rfl, rfl, rfl, congrArg some (by simp), trivial⟩, cL, ⟨by simp; omega, by simp; omega, hdd.snoc (Nat.mod_lt _ (by decide)), om, eH hi (dW om).symm J om⟩, by simp; omega⟩
  refine Nk [0,1,5,6,7,13,14,15,16,19,20,27] J <| aT J ?_
  have hxl : xs.getD ds.length default < 1073741824 := bP hx om
  refine Rg 7 J <| Um J J <| Um J J <| Um J J <| aA (cG J J J J J om J) J <| aA (dY J J J) J <| aA (cI (((c + xs.getD ds.length default : Nat) : Int)) (aO J J om) om) J <| Ua J J <| Nk [0,1,5,6,7,13,14,15,16,19,20] J <| aB <| Rg 4 J <| Um J J <| Um J J <| aA (aW J J) J <| aA (bZ J J) J <| bB (fun h37 => ?_) (fun h37 => ?_)
  rotate_left
  ·refine Nk [0,1,5,6,7,13,14,15,16,19,20,37] J <| aX J <| aH <| Rg 6 J <| Um J J <| Um J J <| aA (jA (b := 1073741824) J J (by decide)) J <| aA (dJ (cs := [_]) (rows := [[_]]) J J (by decide) J J J) J <| dP (te := ti3) (f := d64) (q := q) (us := ds) J J J J J (fun _ => rfl) (by decide) (by show (2 * (ds.length + 1) + 256) * 8 ≤ _; omega) om J J J <| Ua J J <| Nk [0,1,5,6,7,13,14,15,16,19,20] J <| aI (z := 3) J <| Um J J <| aA (hJ (b := 1073741824) J J (by decide) om) J <| Ua J J <| Wn <| aF <| aI (z := 3) J <| Um J J <| aA (cI (((ds.length + 1 : Nat) : Int)) (aO J J om) om) J <| Ua J J <| cJ ?_
   refine aG <| ⟨⟨(c + xs.getD ds.length default) / 1073741824, _, ds ++ [(c + xs.getD ds.length default) % 1073741824]⟩, ⟨rfl, rfl, rfl, rfl, congrArg some (by simp), trivial⟩, cL, ⟨by simp; omega, by simp; omega, hdd.snoc (Nat.mod_lt _ (by decide)), om, eH hi J (dW om).symm om⟩, by simp; omega⟩
  refine Nk [0,1,5,6,7,13,14,15,16,19,20,37] J <| aT J ?_
  have hyl : ys.getD ds.length default < 1073741824 := bP hy om
  refine Rg 7 J <| Um J J <| Um J J <| Um J J <| aA (cG J J J J J om J) J <| aA (dY J J J) J <| aA (cI (((c + xs.getD ds.length default + ys.getD ds.length default : Nat) : Int)) (aO J J om) om) J <| Ua J J <| Nk [0,1,5,6,7,13,14,15,16,19,20] J <| Rg 6 J <| Um J J <| Um J J <| aA (jA (b := 1073741824) J J (by decide)) J <| aA (dJ (cs := [_]) (rows := [[_]]) J J (by decide) J J J) J <| dP (te := ti3) (f := d64) (q := q) (us := ds) J J J J J (fun _ => rfl) (by decide) (by show (2 * (ds.length + 1) + 256) * 8 ≤ _; omega) om J J J <| Ua J J <| Nk [0,1,5,6,7,13,14,15,16,19,20] J <| aI (z := 3) J <| Um J J <| aA (hJ (b := 1073741824) J J (by decide) om) J <| Ua J J <| cJ ?_
  refine aF <| aI (z := 3) J <| Um J J <| aA (cI (((ds.length + 1 : Nat) : Int)) (aO J J om) om) J <| Ua J J <| Wn <| aG <| ⟨⟨(c + xs.getD ds.length default + ys.getD ds.length default) / 1073741824, _, ds ++ [(c + xs.getD ds.length default + ys.getD ds.length default) % 1073741824]⟩, ⟨rfl, rfl, rfl, rfl, congrArg some (by simp), trivial⟩, cL, ⟨by simp; omega, by simp; omega, hdd.snoc (Nat.mod_lt _ (by decide)), om, eH hi J J om⟩, by simp; omega⟩
 refine Um J J <| aE J (dK J) J <| aE J (dK J) J <| aE J (aW J J) J <| aE J (bZ J J) J <| bB (fun h16 => ?_) (fun h16 => ?_)
 ·refine aA (bK J J) J <| Um J J <| K1 J J <| K1 J J <| aA (bM J J) J <| Nk [0,1,5,6,7,13,14,15,16,19,20,21] J <| aT J <| aH <| aL <| aB <| Rg 4 J <| Um J J <| Um J J <| aA (aW J J) J <| aA (bZ J J) J <| bB (fun h27 => ?_) (fun h27 => ?_)
  rotate_left
  ·refine Nk [0,1,5,6,7,13,14,15,16,19,20,27] J <| aX J <| aH <| aB <| Rg 4 J <| Um J J <| Um J J <| aA (aW J J) J <| aA (bZ J J) J <| bB (fun h37 => ?_) (fun h37 => ?_)
   rotate_left
   ·refine Nk [0,1,5,6,7,13,14,15,16,19,20,37] J <| aX J <| aH <| Rg 6 J <| Um J J <| Um J J <| aA (jA (b := 1073741824) J J (by decide)) J <| aA (dJ (cs := [_]) (rows := [[_]]) J J (by decide) J J J) J <| dP (te := ti3) (f := d64) (q := q) (us := ds) J J J J J (fun _ => rfl) (by decide) (by show (2 * (ds.length + 1) + 256) * 8 ≤ _; omega) om J J J <| Ua J J <| Nk [0,1,5,6,7,13,14,15,16,19,20] J <| aI (z := 3) J <| Um J J <| aA (hJ (b := 1073741824) J J (by decide) om) J <| Ua J J <| Wn <| aF <| aI (z := 3) J <| Um J J <| aA (cI (((ds.length + 1 : Nat) : Int)) (aO J J om) om) J <| Ua J J <| cJ ?_
    refine aG <| ⟨⟨(c) / 1073741824, _, ds ++ [(c) % 1073741824]⟩, ⟨rfl, rfl, rfl, rfl, congrArg some (by simp), trivial⟩, cL, ⟨by simp; omega, by simp; omega, hdd.snoc (Nat.mod_lt _ (by decide)), om, eH hi (dW om).symm (dW om).symm om⟩, by simp; omega⟩
   refine Nk [0,1,5,6,7,13,14,15,16,19,20,37] J <| aT J ?_
   have hyl : ys.getD ds.length default < 1073741824 := bP hy om
   refine Rg 7 J <| Um J J <| Um J J <| Um J J <| aA (cG J J J J J om J) J <| aA (dY J J J) J <| aA (cI (((c + ys.getD ds.length default : Nat) : Int)) (aO J J om) om) J <| Ua J J <| Nk [0,1,5,6,7,13,14,15,16,19,20] J <| Rg 6 J <| Um J J <| Um J J <| aA (jA (b := 1073741824) J J (by decide)) J <| aA (dJ (cs := [_]) (rows := [[_]]) J J (by decide) J J J) J <| dP (te := ti3) (f := d64) (q := q) (us := ds) J J J J J (fun _ => rfl) (by decide) (by show (2 * (ds.length + 1) + 256) * 8 ≤ _; omega) om J J J <| Ua J J <| Nk [0,1,5,6,7,13,14,15,16,19,20] J <| aI (z := 3) J <| Um J J <| aA (hJ (b := 1073741824) J J (by decide) om) J <| Ua J J <| cJ ?_
   refine aF <| aI (z := 3) J <| Um J J <| aA (cI (((ds.length + 1 : Nat) : Int)) (aO J J om) om) J <| Ua J J <| Wn <| aG <| ⟨⟨(c + ys.getD ds.length default) / 1073741824, _, ds ++ [(c + ys.getD ds.length default) % 1073741824]⟩, ⟨rfl, rfl, rfl, rfl, congrArg some (by simp), trivial⟩, cL, ⟨by simp; omega, by simp; omega, hdd.snoc (Nat.mod_lt _ (by decide)), om, eH hi (dW om).symm J om⟩, by simp; omega⟩
  refine Nk [0,1,5,6,7,13,14,15,16,19,20,27] J <| aT J ?_
  have hxl : xs.getD ds.length default < 1073741824 := bP hx om
  refine Rg 7 J <| Um J J <| Um J J <| Um J J <| aA (cG J J J J J om J) J <| aA (dY J J J) J <| aA (cI (((c + xs.getD ds.length default : Nat) : Int)) (aO J J om) om) J <| Ua J J <| Nk [0,1,5,6,7,13,14,15,16,19,20] J <| aB <| Rg 4 J <| Um J J <| Um J J <| aA (aW J J) J <| aA (bZ J J) J <| bB (fun h37 => ?_) (fun h37 => ?_)
  rotate_left
  ·refine Nk [0,1,5,6,7,13,14,15,16,19,20,37] J <| aX J <| aH <| Rg 6 J <| Um J J <| Um J J <| aA (jA (b := 1073741824) J J (by decide)) J <| aA (dJ (cs := [_]) (rows := [[_]]) J J (by decide) J J J) J <| dP (te := ti3) (f := d64) (q := q) (us := ds) J J J J J (fun _ => rfl) (by decide) (by show (2 * (ds.length + 1) + 256) * 8 ≤ _; omega) om J J J <| Ua J J <| Nk [0,1,5,6,7,13,14,15,16,19,20] J <| aI (z := 3) J <| Um J J <| aA (hJ (b := 1073741824) J J (by decide) om) J <| Ua J J <| Wn <| aF <| aI (z := 3) J <| Um J J <| aA (cI (((ds.length + 1 : Nat) : Int)) (aO J J om) om) J <| Ua J J <| cJ ?_
   refine aG <| ⟨⟨(c + xs.getD ds.length default) / 1073741824, _, ds ++ [(c + xs.getD ds.length default) % 1073741824]⟩, ⟨rfl, rfl, rfl, rfl, congrArg some (by simp), trivial⟩, cL, ⟨by simp; omega, by simp; omega, hdd.snoc (Nat.mod_lt _ (by decide)), om, eH hi J (dW om).symm om⟩, by simp; omega⟩
  refine Nk [0,1,5,6,7,13,14,15,16,19,20,37] J <| aT J ?_
  have hyl : ys.getD ds.length default < 1073741824 := bP hy om
  refine Rg 7 J <| Um J J <| Um J J <| Um J J <| aA (cG J J J J J om J) J <| aA (dY J J J) J <| aA (cI (((c + xs.getD ds.length default + ys.getD ds.length default : Nat) : Int)) (aO J J om) om) J <| Ua J J <| Nk [0,1,5,6,7,13,14,15,16,19,20] J <| Rg 6 J <| Um J J <| Um J J <| aA (jA (b := 1073741824) J J (by decide)) J <| aA (dJ (cs := [_]) (rows := [[_]]) J J (by decide) J J J) J <| dP (te := ti3) (f := d64) (q := q) (us := ds) J J J J J (fun _ => rfl) (by decide) (by show (2 * (ds.length + 1) + 256) * 8 ≤ _; omega) om J J J <| Ua J J <| Nk [0,1,5,6,7,13,14,15,16,19,20] J <| aI (z := 3) J <| Um J J <| aA (hJ (b := 1073741824) J J (by decide) om) J <| Ua J J <| cJ ?_
  refine aF <| aI (z := 3) J <| Um J J <| aA (cI (((ds.length + 1 : Nat) : Int)) (aO J J om) om) J <| Ua J J <| Wn <| aG <| ⟨⟨(c + xs.getD ds.length default + ys.getD ds.length default) / 1073741824, _, ds ++ [(c + xs.getD ds.length default + ys.getD ds.length default) % 1073741824]⟩, ⟨rfl, rfl, rfl, rfl, congrArg some (by simp), trivial⟩, cL, ⟨by simp; omega, by simp; omega, hdd.snoc (Nat.mod_lt _ (by decide)), om, eH hi J J om⟩, by simp; omega⟩
 refine aA (bK J J) J <| Um J J <| aE J (dK J) J <| aE J (eB J J) J <| bB (fun h20 => ?_) (fun h20 => ?_)
 rotate_left
 ·refine aA (bK J J) J <| Nk [0,1,5,6,7,13,14,15,16,19,20,21] J <| aX J <| bA <| aS <| aR J <| Rg 2 J <| Um J J <| Ua J J <| Wn <| aN <| ⟨outR (ds.map d64), ⟨ds, mE _ _, hdd, ?_, hl1⟩, lM (n := 0) (.inr J) J (by decide) gK dM⟩
  have hc0 : c = 0 := by omega
  rw [hc0, Nat.mul_zero, Nat.add_zero, List.take_of_length_le om, List.take_of_length_le om] at hi
  exact hi
 refine aA (bK J J) J <| Nk [0,1,5,6,7,13,14,15,16,19,20,21] J <| aT J <| aH <| aL <| aB <| Rg 4 J <| Um J J <| Um J J <| aA (aW J J) J <| aA (bZ J J) J <| bB (fun h27 => ?_) (fun h27 => ?_)
 rotate_left
 ·refine Nk [0,1,5,6,7,13,14,15,16,19,20,27] J <| aX J <| aH <| aB <| Rg 4 J <| Um J J <| Um J J <| aA (aW J J) J <| aA (bZ J J) J <| bB (fun h37 => ?_) (fun h37 => ?_)
  rotate_left
  ·refine Nk [0,1,5,6,7,13,14,15,16,19,20,37] J <| aX J <| aH <| Rg 6 J <| Um J J <| Um J J <| aA (jA (b := 1073741824) J J (by decide)) J <| aA (dJ (cs := [_]) (rows := [[_]]) J J (by decide) J J J) J <| dP (te := ti3) (f := d64) (q := q) (us := ds) J J J J J (fun _ => rfl) (by decide) (by show (2 * (ds.length + 1) + 256) * 8 ≤ _; omega) om J J J <| Ua J J <| Nk [0,1,5,6,7,13,14,15,16,19,20] J <| aI (z := 3) J <| Um J J <| aA (hJ (b := 1073741824) J J (by decide) om) J <| Ua J J <| Wn <| aF <| aI (z := 3) J <| Um J J <| aA (cI (((ds.length + 1 : Nat) : Int)) (aO J J om) om) J <| Ua J J <| cJ ?_
   refine aG <| ⟨⟨(c) / 1073741824, _, ds ++ [(c) % 1073741824]⟩, ⟨rfl, rfl, rfl, rfl, congrArg some (by simp), trivial⟩, cL, ⟨by simp; omega, by simp; omega, hdd.snoc (Nat.mod_lt _ (by decide)), om, eH hi (dW om).symm (dW om).symm om⟩, by simp; omega⟩
  refine Nk [0,1,5,6,7,13,14,15,16,19,20,37] J <| aT J ?_
  have hyl : ys.getD ds.length default < 1073741824 := bP hy om
  refine Rg 7 J <| Um J J <| Um J J <| Um J J <| aA (cG J J J J J om J) J <| aA (dY J J J) J <| aA (cI (((c + ys.getD ds.length default : Nat) : Int)) (aO J J om) om) J <| Ua J J <| Nk [0,1,5,6,7,13,14,15,16,19,20] J <| Rg 6 J <| Um J J <| Um J J <| aA (jA (b := 1073741824) J J (by decide)) J <| aA (dJ (cs := [_]) (rows := [[_]]) J J (by decide) J J J) J <| dP (te := ti3) (f := d64) (q := q) (us := ds) J J J J J (fun _ => rfl) (by decide) (by show (2 * (ds.length + 1) + 256) * 8 ≤ _; omega) om J J J <| Ua J J <| Nk [0,1,5,6,7,13,14,15,16,19,20] J <| aI (z := 3) J <| Um J J <| aA (hJ (b := 1073741824) J J (by decide) om) J <| Ua J J <| cJ ?_
  refine aF <| aI (z := 3) J <| Um J J <| aA (cI (((ds.length + 1 : Nat) : Int)) (aO J J om) om) J <| Ua J J <| Wn <| aG <| ⟨⟨(c + ys.getD ds.length default) / 1073741824, _, ds ++ [(c + ys.getD ds.length default) % 1073741824]⟩, ⟨rfl, rfl, rfl, rfl, congrArg some (by simp), trivial⟩, cL, ⟨by simp; omega, by simp; omega, hdd.snoc (Nat.mod_lt _ (by decide)), om, eH hi (dW om).symm J om⟩, by simp; omega⟩
 refine Nk [0,1,5,6,7,13,14,15,16,19,20,27] J <| aT J ?_
 have hxl : xs.getD ds.length default < 1073741824 := bP hx om
 refine Rg 7 J <| Um J J <| Um J J <| Um J J <| aA (cG J J J J J om J) J <| aA (dY J J J) J <| aA (cI (((c + xs.getD ds.length default : Nat) : Int)) (aO J J om) om) J <| Ua J J <| Nk [0,1,5,6,7,13,14,15,16,19,20] J <| aB <| Rg 4 J <| Um J J <| Um J J <| aA (aW J J) J <| aA (bZ J J) J <| bB (fun h37 => ?_) (fun h37 => ?_)
 rotate_left
 ·refine Nk [0,1,5,6,7,13,14,15,16,19,20,37] J <| aX J <| aH <| Rg 6 J <| Um J J <| Um J J <| aA (jA (b := 1073741824) J J (by decide)) J <| aA (dJ (cs := [_]) (rows := [[_]]) J J (by decide) J J J) J <| dP (te := ti3) (f := d64) (q := q) (us := ds) J J J J J (fun _ => rfl) (by decide) (by show (2 * (ds.length + 1) + 256) * 8 ≤ _; omega) om J J J <| Ua J J <| Nk [0,1,5,6,7,13,14,15,16,19,20] J <| aI (z := 3) J <| Um J J <| aA (hJ (b := 1073741824) J J (by decide) om) J <| Ua J J <| Wn <| aF <| aI (z := 3) J <| Um J J <| aA (cI (((ds.length + 1 : Nat) : Int)) (aO J J om) om) J <| Ua J J <| cJ ?_
  refine aG <| ⟨⟨(c + xs.getD ds.length default) / 1073741824, _, ds ++ [(c + xs.getD ds.length default) % 1073741824]⟩, ⟨rfl, rfl, rfl, rfl, congrArg some (by simp), trivial⟩, cL, ⟨by simp; omega, by simp; omega, hdd.snoc (Nat.mod_lt _ (by decide)), om, eH hi J (dW om).symm om⟩, by simp; omega⟩
 refine Nk [0,1,5,6,7,13,14,15,16,19,20,37] J <| aT J ?_
 have hyl : ys.getD ds.length default < 1073741824 := bP hy om
 refine Rg 7 J <| Um J J <| Um J J <| Um J J <| aA (cG J J J J J om J) J <| aA (dY J J J) J <| aA (cI (((c + xs.getD ds.length default + ys.getD ds.length default : Nat) : Int)) (aO J J om) om) J <| Ua J J <| Nk [0,1,5,6,7,13,14,15,16,19,20] J <| Rg 6 J <| Um J J <| Um J J <| aA (jA (b := 1073741824) J J (by decide)) J <| aA (dJ (cs := [_]) (rows := [[_]]) J J (by decide) J J J) J <| dP (te := ti3) (f := d64) (q := q) (us := ds) J J J J J (fun _ => rfl) (by decide) (by show (2 * (ds.length + 1) + 256) * 8 ≤ _; omega) om J J J <| Ua J J <| Nk [0,1,5,6,7,13,14,15,16,19,20] J <| aI (z := 3) J <| Um J J <| aA (hJ (b := 1073741824) J J (by decide) om) J <| Ua J J <| cJ ?_
 refine aF <| aI (z := 3) J <| Um J J <| aA (cI (((ds.length + 1 : Nat) : Int)) (aO J J om) om) J <| Ua J J <| Wn <| aG <| ⟨⟨(c + xs.getD ds.length default + ys.getD ds.length default) / 1073741824, _, ds ++ [(c + xs.getD ds.length default + ys.getD ds.length default) % 1073741824]⟩, ⟨rfl, rfl, rfl, rfl, congrArg some (by simp), trivial⟩, cL, ⟨by simp; omega, by simp; omega, hdd.snoc (Nat.mod_lt _ (by decide)), om, eH hi J J om⟩, by simp; omega⟩
theorem ndiff_run (k1 k2 : Nat) (xs ys : List Nat) (hx : Dg 1073741824 xs) (hy : Dg 1073741824 ys) (lx : xs.length < 1099511627776) (hle : ys.length ≤ xs.length) (hv : val 1073741824 ys ≤ val 1073741824 xs) : ∃ r, Run Tryz.prog T E0 (.call 143 [.sl k1 (xs.map d64), .sl k2 (ys.map d64)] r) ∧ ∃ ds, r = .sl (if ds.length = 0 then 0 else 1) (ds.map d64) ∧ Dg 1073741824 ds ∧ val 1073741824 ds = val 1073741824 xs - val 1073741824 ys ∧ ds.length = xs.length := by
 refine iT Tryz.func143 J J (dH J) <| Rg 1 J <| Ua J J <| Wn <| Rg 1 J <| Ua J J <| Wn <| Rg 1 J <| Ua J J <| Wn <| aB <| Rg 3 J <| Um J J <| aA (aW J J) J <| Um J J <| Wn <| aL <| bF (α := Nat × Nat × (List Nat)) (fun ⟨c, q, ds⟩ => [(0, .sl k1 (xs.map d64)), (1, .sl k2 (ys.map d64)), (5, outV q 1 (ds.map d64)), (6, .v (.int .i64 (-(c : Int)))), (9, .v (.int .i64 (xs.length : Int))), (10, .v (.int .i64 (ds.length : Int)))]) (fun ⟨c, q, ds⟩ => outH q 1 3 (ds.map d64) []) (fun ⟨c, q, ds⟩ n => ds.length ≤ xs.length ∧ Dg 1073741824 ds ∧ c ≤ 1 ∧ val 1073741824 (xs.take ds.length) + 1073741824 ^ ds.length * c = val 1073741824 ds + val 1073741824 (ys.take ds.length)) (fun ⟨c, q, ds⟩ => xs.length - ds.length) (0, 0, []) ⟨J, J, J, J, J, J, trivial⟩ trivial ⟨Nat.zero_le _, by intro d hd; simp at hd, om, by simp [val]⟩ ?_
 rintro ⟨c, q, ds⟩ n hF
 change WC _ _ _ _ _ (_ :: _) (outH _ _ _ _ _) n _
 obtain ⟨hdl, hdd, hc, hi⟩ := hF
 refine Rg 1 J <| aA (bZ J J) J <| bB (fun h11 => ?_) (fun h11 => ?_)
 rotate_left
 ·refine Wn <| aX J <| bA <| aS <| aR J <| Rg 2 J <| Um J J <| Ua J J <| Wn <| aN <| ⟨outR (ds.map d64), ⟨ds, mE _ _, hdd, ?_, om⟩, lM (n := 0) (.inr J) J (by decide) gK dM⟩
  have hl : ds.length = xs.length := by omega
  rw [List.take_of_length_le om, List.take_of_length_le om] at hi
  have hlt := eI (B := 1073741824) (by decide) hdd
  rcases (show c = 0 ∨ c = 1 by omega) with rfl | rfl
  ·omega
  ·omega
 refine Wn <| aT J <| aH <| aL <| Rg 2 J <| Um J J <| Ua J J <| cJ ?_
 have hxl : xs.getD ds.length default < 1073741824 := bP hx om
 refine Rg 7 J <| Um J J <| Um J J <| Um J J <| aA (cG J J J J J om J) J <| aA (dY J J J) J <| aA (cI (((xs.getD ds.length default : Nat) : Int) - c) (aO J J om) om) J <| Ua J J <| Nk [0,1,5,6,7,9,10] J <| aB <| Rg 4 J <| Um J J <| Um J J <| aA (aW J J) J <| aA (bZ J J) J <| bB (fun h22 => ?_) (fun h22 => ?_)
 rotate_left
 ·refine Wn <| aX J <| aH <| Rg 2 J <| Um J J <| aA (bZ J J) J <| bB (fun h30 => ?_) (fun h30 => ?_)
  rotate_left
  ·refine Wn <| bV J <| Rg 5 J <| Um J J <| aA (cI (((xs.getD ds.length default - 0 - c : Nat) : Int)) (dK J) om) J <| aA (dJ (cs := [_]) (rows := [[_]]) J J (by decide) J J J) J <| dP (te := ti3) (f := d64) (q := q) (us := ds) J J J J J (fun _ => rfl) (by decide) (by show (2 * (ds.length + 1) + 256) * 8 ≤ _; omega) om J J J <| Ua J J <| Nk [0,1,5,9,10] J <| aI (z := 1) J <| Ua J J <| Wn <| aF <| aI (z := 2) J <| aA (cI (((ds.length + 1 : Nat) : Int)) (aO J J om) om) J <| Um J J <| Wn <| aG <| ⟨⟨0, _, ds ++ [(xs.getD ds.length default - 0 - c)]⟩, ⟨rfl, rfl, rfl, rfl, rfl, congrArg some (by simp), trivial⟩, cL, ⟨by simp; omega, hdd.snoc om, om, kD hi J (dW om).symm om om⟩, by simp; omega⟩
  refine Wn <| bY J <| Rg 6 J <| Um J J <| Um J J <| aA (cI (((xs.getD ds.length default + 1073741824 - 0 - c : Nat) : Int)) (aO J J om) om) J <| aA (dJ (cs := [_]) (rows := [[_]]) J J (by decide) J J J) J <| dP (te := ti3) (f := d64) (q := q) (us := ds) J J J J J (fun _ => rfl) (by decide) (by show (2 * (ds.length + 1) + 256) * 8 ≤ _; omega) om J J J <| Ua J J <| Nk [0,1,5,9,10] J <| aI (z := 1) J <| Ua J J <| Wn <| aF <| aI (z := 2) J <| aA (cI (((ds.length + 1 : Nat) : Int)) (aO J J om) om) J <| Um J J <| Wn <| aG <| ⟨⟨1, _, ds ++ [(xs.getD ds.length default + 1073741824 - 0 - c)]⟩, ⟨rfl, rfl, rfl, rfl, rfl, congrArg some (by simp), trivial⟩, cL, ⟨by simp; omega, hdd.snoc om, om, kE hi J (dW om).symm om om⟩, by simp; omega⟩
 refine Wn <| aT J ?_
 have hyl : ys.getD ds.length default < 1073741824 := bP hy om
 refine Rg 7 J <| Um J J <| Um J J <| Um J J <| aA (cG J J J J J om J) J <| aA (dY J J J) J <| aA (cI (((xs.getD ds.length default : Nat) : Int) - c - ((ys.getD ds.length default : Nat) : Int)) (cE J J om) om) J <| Ua J J <| Nk [0,1,5,6,9,10] J <| Rg 2 J <| Um J J <| aA (bZ J J) J <| bB (fun h30 => ?_) (fun h30 => ?_)
 rotate_left
 ·refine Wn <| bV J <| Rg 5 J <| Um J J <| aA (cI (((xs.getD ds.length default - ys.getD ds.length default - c : Nat) : Int)) (dK J) om) J <| aA (dJ (cs := [_]) (rows := [[_]]) J J (by decide) J J J) J <| dP (te := ti3) (f := d64) (q := q) (us := ds) J J J J J (fun _ => rfl) (by decide) (by show (2 * (ds.length + 1) + 256) * 8 ≤ _; omega) om J J J <| Ua J J <| Wn <| aI (z := 1) J <| Ua J J <| Wn <| aF <| aI (z := 2) J <| aA (cI (((ds.length + 1 : Nat) : Int)) (aO J J om) om) J <| Um J J <| Wn <| aG <| ⟨⟨0, _, ds ++ [(xs.getD ds.length default - ys.getD ds.length default - c)]⟩, ⟨rfl, rfl, rfl, rfl, rfl, congrArg some (by simp), trivial⟩, cL, ⟨by simp; omega, hdd.snoc om, om, kD hi J J om om⟩, by simp; omega⟩
 refine Wn <| bY J <| Rg 6 J <| Um J J <| Um J J <| aA (cI (((xs.getD ds.length default + 1073741824 - ys.getD ds.length default - c : Nat) : Int)) (aO J J om) om) J <| aA (dJ (cs := [_]) (rows := [[_]]) J J (by decide) J J J) J <| dP (te := ti3) (f := d64) (q := q) (us := ds) J J J J J (fun _ => rfl) (by decide) (by show (2 * (ds.length + 1) + 256) * 8 ≤ _; omega) om J J J <| Ua J J <| Wn <| aI (z := 1) J <| Ua J J <| Wn <| aF <| aI (z := 2) J <| aA (cI (((ds.length + 1 : Nat) : Int)) (aO J J om) om) J <| Um J J <| Wn <| aG <| ⟨⟨1, _, ds ++ [(xs.getD ds.length default + 1073741824 - ys.getD ds.length default - c)]⟩, ⟨rfl, rfl, rfl, rfl, rfl, congrArg some (by simp), trivial⟩, cL, ⟨by simp; omega, hdd.snoc om, om, kE hi J J om om⟩, by simp; omega⟩
end Go.Proofs.YtohfklpfeilcpaaGreat
set_option maxHeartbeats 4000000
namespace Go.Proofs.YtohfklpfeilcpaaGreat
open Go.Ab Go.RowKit
theorem oF (k0 : Nat) (xs : List Nat) (y : Nat) (hx : Dg 1073741824 xs) (hy : 0 < y) (hy2 : y < 1073741824) (lx : xs.length < 1099511627776) : ∃ r, Run Tryz.prog T E0 (.call 166 [.sl k0 (xs.map d64), .v (.int .i64 (y : Int))] r) ∧ ∃ ds rest, r = .tup [.sl 1 (ds.map d64), .v (.int .i64 ((rest : Nat) : Int))] ∧ Dg 1073741824 ds ∧ rest < y ∧ val 1073741824 ds * y + rest = val 1073741824 xs ∧ ds.length = xs.length := by
 refine iT Tryz.func166 J J (dH J) <| Rg 2 J <| Ua J J <| Ua J J <| Wn <| Rg 4 J <| Um J J <| aA (aW J J) J <| bJ (oMk (a := xs.length) (b := xs.length) J J J J om om (by decide) om (by show 8 * xs.length ≤ _; omega) om) J <| Ua J J <| Wn <| aB <| Rg 4 J <| Um J J <| aA (aW J J) J <| aA (cE J J om) J <| Ua J J <| Wn <| aL <| bF (α := Nat × Nat × (List Nat)) (fun ⟨k, rest, us⟩ => [(0, .sl k0 (xs.map d64)), (1, .v (.int .i64 (y : Int))), (4, .ref (0 + 2 + 2) 1 0 us.length), (5, .v (.int .i64 (rest : Int))), (6, .v (.int .i64 ((k : Int) - 1)))]) (fun ⟨k, rest, us⟩ => [(0 + 2 + 2, { cells := (us.map d64).flatten, sz := 1, elem := 3, st := 0 })]) (fun ⟨k, rest, us⟩ n => k ≤ xs.length ∧ us.length = xs.length ∧ Dg 1073741824 us ∧ rest < y ∧ val 1073741824 (us.drop k) * y + rest = val 1073741824 (xs.drop k)) (fun ⟨k, rest, us⟩ => k) (xs.length, 0, List.replicate xs.length 0) ⟨rfl, rfl, congrArg some (by rw [List.length_replicate]; rfl), rfl, rfl, trivial⟩ ⟨g0.trans (by rw [List.map_replicate]; rfl), trivial⟩ ⟨Nat.le_refl _, by simp, by intro d hd; simp at hd; rw [hd.2]; decide, hy, by simp [val]⟩ ?_
 rintro ⟨k, rest, us⟩ n hF
 change WC _ _ _ _ _ (_ :: _) (_ :: _) n _
 obtain ⟨hk, hul, hud, hrest, huv⟩ := hF
 refine aB <| Rg 2 J <| Um J J <| aA (hH J J) J <| bB (fun h14 => ?_) (fun h14 => ?_)
 rotate_left
 ·refine Wn <| aX J <| bA <| aS <| aR J <| Rg 4 J <| Um J J <| Um J J <| Ua J J <| Ua J J <| Wn <| aN <| ⟨.tup [.sl 1 (us.map d64), .v (.int .i64 (rest : Int))], ⟨us, rest, rfl, hud, hrest, ?_, hul⟩, postA (n := 0) [(0 + 2 + 2, { cells := (us.map d64).flatten, sz := 1, elem := 3, st := 1 })] (.inr J) J (.own _ (by simp) J (by show (0 : Nat) ≠ 2; decide) J (by decide) (by simp [keys]) J gK dM (.data (by simp) .nil)) (by intro p hp; simp at hp; subst hp; exact ⟨_, rfl, by show (0 : Nat) ≠ 2; decide, rfl⟩)⟩
  have h0 : k = 0 := by omega
  subst h0
  simpa using huv
 refine Wn <| aT J <| aH <| aL ?_
 have hxl : xs.getD (k - 1) default < 1073741824 := bP hx om
 have hq : (rest * 1073741824 + xs.getD (k - 1) default) / y < 1073741824 := by
  rw [Nat.div_lt_iff_lt_mul hy]; have := Nat.mul_le_mul_left 1073741824 (show rest + 1 ≤ y from hrest); omega
 refine Rg 8 J <| Um J J <| aA (cI (((rest * 1073741824 : Nat) : Int)) (gH J J om) om) J <| Um J J <| Um J J <| aA (cG (j := k - 1) J J J J om om J) J <| aA (dY J J J) J <| aA (cI ((((rest * 1073741824 + xs.getD (k - 1) default) : Nat) : Int)) (aO J J om) om) J <| Ua J J <| Wn <| dN (z := 11) J kR <| Dm J J <| Dm J J <| Dm J J <| Dm J J <| aC (hJ (a := (rest * 1073741824 + xs.getD (k - 1) default)) (b := y) J J hy om) J <| Dm J J <| Dm J J <| aC (jA (a := (rest * 1073741824 + xs.getD (k - 1) default)) (b := y) J J hy) J <| aC (cH (j := k - 1) J J J J om om J) J <| cO (fG (f := d64) (us := us) ((rest * 1073741824 + xs.getD (k - 1) default) / y) J J J g0 (fun _ => rfl) J J om J) <| aC (gX J) J <| bG (aQ kR) J <| aF ?_
 refine Ck [0,1,4,5,6] J <| aI (z := 3) J <| Um J J <| aA (cI (((k - 1 : Nat) : Int) - 1) (cE J J om) om) J <| Ua J J <| Wn <| aG ?_
 have hj : k - 1 + 1 = k := by omega
 refine ⟨⟨k - 1, (rest * 1073741824 + xs.getD (k - 1) default) % y, us.set (k - 1) ((rest * 1073741824 + xs.getD (k - 1) default) / y)⟩, ⟨rfl, rfl, congrArg some (by rw [List.length_set]), rfl, rfl, trivial⟩, ⟨g0, trivial⟩, ⟨om, by rw [List.length_set]; exact hul, hud.set _ hq, Nat.mod_lt _ hy, ?_⟩, by show k - 1 < k; omega⟩
 exact short_step hy (by rw [hj]; exact huv) om om
theorem pX (k0 : Nat) (xs : List Nat) (n0 : Nat) (hx : Dg 1073741824 xs) (hn : n0 < 1073741824) (lx : xs.length < 1099511627776) : ∃ r, Run Tryz.prog T E0 (.call 167 [.sl k0 (xs.map d64), .v (.int .i64 (n0 : Int))] r) ∧ ∃ ds, r = .sl 1 (ds.map d64) ∧ Dg 1073741824 ds ∧ val 1073741824 ds = val 1073741824 xs * n0 ∧ ds.length = xs.length + 1 := by
 refine iT Tryz.func167 J J (dH J) <| Rg 1 J <| Ua J J <| Wn <| Rg 1 J <| Ua J J <| Wn <| Rg 1 J <| Ua J J <| Wn <| aB <| Rg 3 J <| Um J J <| aA (aW J J) J <| Um J J <| Wn <| aL <| bF (α := Nat × Nat × (List Nat)) (fun ⟨c, q, ds⟩ => [(1, .v (.int .i64 (n0 : Int))), (5, outV q 1 (ds.map d64)), (6, .v (.int .i64 (c : Int))), (9, .sl k0 (xs.map d64)), (10, .v (.int .i64 (xs.length : Int))), (11, .v (.int .i64 (ds.length : Int)))]) (fun ⟨c, q, ds⟩ => outH q 1 3 (ds.map d64) []) (fun ⟨c, q, ds⟩ n => ds.length ≤ xs.length ∧ Dg 1073741824 ds ∧ c < 1073741824 ∧ val 1073741824 ds + 1073741824 ^ ds.length * c = val 1073741824 (xs.take ds.length) * n0) (fun ⟨c, q, ds⟩ => xs.length - ds.length) (0, 0, []) ⟨J, J, J, J, J, J, trivial⟩ trivial ⟨Nat.zero_le _, by intro d hd; simp at hd, om, by simp [val]⟩ ?_
 rintro ⟨c, q, ds⟩ n hF
 change WC _ _ _ _ _ (_ :: _) (outH _ _ _ _ _) n _
 obtain ⟨hl1, hdd, hc, hi⟩ := hF
 refine Rg 1 J <| aA (bZ J J) J <| bB (fun h12 => ?_) (fun h12 => ?_)
 rotate_left
 ·refine Wn <| aX J <| bA <| aS <| aR J ?_
  have hl : ds.length = xs.length := by omega
  rw [List.take_of_length_le om] at hi
  refine Rg 5 J <| Um J J <| Um J J <| aA (dJ (cs := [_]) (rows := [[_]]) J J (by decide) J J J) J <| dP (te := ti3) (f := d64) (q := q) (us := ds) J J J J J (fun _ => rfl) (by decide) (by show (2 * (ds.length + 1) + 256) * 8 ≤ _; omega) om J J J <| Ua J J <| Wn <| aN ?_
  have e1 : outR ((ds ++ [c]).map d64) = .sl 1 ((ds ++ [c]).map d64) := by rw [mE, if_neg (by simp)]
  refine ⟨.sl 1 ((ds ++ [c]).map d64), ⟨ds ++ [c], rfl, hdd.snoc hc, by rw [fU, hi], by simp; omega⟩, ?_⟩
  rw [← e1]; exact lM (n := 0) (.inr rfl) rfl (by decide) gK dM
 refine Wn <| aT J <| aH <| aL ?_
 have hxl : xs.getD ds.length default < 1073741824 := bP hx om
 have hpq := mul30 hxl hn
 obtain ⟨p, hp⟩ : ∃ p, p = xs.getD ds.length default * n0 := ⟨_, rfl⟩
 refine Rg 3 J <| aA (cG J J J J J om J) J <| aA (dY J J J) J <| Ua J J <| Wn <| Rg 6 J <| Um J J <| Um J J <| Um J J <| aA (cI ((p : Int)) (gH J J (by rw [← Int.natCast_mul]; omega)) (by rw [hp]; simp)) J <| aA (cI (((c + p : Nat) : Int)) (aO J J om) om) J <| Ua J J <| Nk [1,5,6,9,10,11] J <| Rg 6 J <| Um J J <| Um J J <| aA (jA (a := c + p) (b := 1073741824) J J (by decide)) J <| aA (dJ (cs := [_]) (rows := [[_]]) J J (by decide) J J J) J <| dP (te := ti3) (f := d64) (q := q) (us := ds) J J J J J (fun _ => rfl) (by decide) (by show (2 * (ds.length + 1) + 256) * 8 ≤ _; omega) om J J J <| Ua J J <| Wn <| aI (z := 3) J <| Um J J ?_
 refine aA (hJ (a := c + p) (b := 1073741824) J J (by decide) om) J <| Ua J J <| Wn <| aF <| aI (z := 2) J <| aA (cI (((ds.length + 1 : Nat) : Int)) (aO J J om) om) J <| Um J J <| Wn <| aG <| ⟨⟨(c + p) / 1073741824, _, ds ++ [(c + p) % 1073741824]⟩, ⟨rfl, rfl, rfl, rfl, rfl, congrArg some (by simp), trivial⟩, cL, ⟨by simp; omega, hdd.snoc (Nat.mod_lt _ (by decide)), om, by rw [hp]; exact qB hi J⟩, by simp; omega⟩
theorem nscaled_own (k0 : Nat) (xs : List Nat) (n0 : Nat) (hx : Dg 1073741824 xs) (hn : n0 < 1073741824) (lx : xs.length < 1099511627776) : ∃ sz len ob, Run Tryz.prog T E0 (.callO 167 [.sl k0 (xs.map d64), .v (.int .i64 (n0 : Int))] (.ref 0 sz 0 len) ob) ∧ ∃ ds, sz = 1 ∧ len = ds.length ∧ ob = { cells := (ds.map d64).flatten, sz := 1, elem := 3, st := 0 } ∧ Dg 1073741824 ds ∧ val 1073741824 ds = val 1073741824 xs * n0 ∧ ds.length = xs.length + 1 := by
 refine mkcallO Tryz.func167 J J (dH J) <| Rg 1 J <| Ua J J <| Wn <| Rg 1 J <| Ua J J <| Wn <| Rg 1 J <| Ua J J <| Wn <| aB <| Rg 3 J <| Um J J <| aA (aW J J) J <| Um J J <| Wn <| aL <| bF (α := Nat × Nat × (List Nat)) (fun ⟨c, q, ds⟩ => [(1, .v (.int .i64 (n0 : Int))), (5, outV q 1 (ds.map d64)), (6, .v (.int .i64 (c : Int))), (9, .sl k0 (xs.map d64)), (10, .v (.int .i64 (xs.length : Int))), (11, .v (.int .i64 (ds.length : Int)))]) (fun ⟨c, q, ds⟩ => outH q 1 3 (ds.map d64) []) (fun ⟨c, q, ds⟩ n => ds.length ≤ xs.length ∧ Dg 1073741824 ds ∧ c < 1073741824 ∧ val 1073741824 ds + 1073741824 ^ ds.length * c = val 1073741824 (xs.take ds.length) * n0) (fun ⟨c, q, ds⟩ => xs.length - ds.length) (0, 0, []) ⟨J, J, J, J, J, J, trivial⟩ trivial ⟨Nat.zero_le _, by intro d hd; simp at hd, om, by simp [val]⟩ ?_
 rintro ⟨c, q, ds⟩ n hF
 change WC _ _ _ _ _ (_ :: _) (outH _ _ _ _ _) n _
 obtain ⟨hl1, hdd, hc, hi⟩ := hF
 refine Rg 1 J <| aA (bZ J J) J <| bB (fun h12 => ?_) (fun h12 => ?_)
 rotate_left
 ·refine Wn <| aX J <| bA <| aS <| aR J ?_
  have hl : ds.length = xs.length := by omega
  rw [List.take_of_length_le om] at hi
  refine Rg 5 J <| Um J J <| Um J J <| aA (dJ (cs := [_]) (rows := [[_]]) J J (by decide) J J J) J <| dP (te := ti3) (f := d64) (q := q) (us := ds) J J J J J (fun _ => rfl) (by decide) (by show (2 * (ds.length + 1) + 256) * 8 ≤ _; omega) om J J J <| Ua J J <| Wn <| aN <| ⟨1, (ds ++ [c]).length, _, ⟨ds ++ [c], rfl, rfl, rfl, hdd.snoc hc, by rw [fU, hi], by simp; omega⟩, .inr J, _, congrArg (fun z => some [z]) ((iU (by simp)).trans (by rw [List.length_map]; rfl)), by rw [outH_ne (by simp)]; exact g0, rfl, rfl, ?_⟩
  intro c hc; obtain ⟨row, hr, hc⟩ := List.mem_flatten.1 hc; exact dM row hr c hc
 refine Wn <| aT J <| aH <| aL ?_
 have hxl : xs.getD ds.length default < 1073741824 := bP hx om
 have hpq := mul30 hxl hn
 obtain ⟨p, hp⟩ : ∃ p, p = xs.getD ds.length default * n0 := ⟨_, rfl⟩
 refine Rg 3 J <| aA (cG J J J J J om J) J <| aA (dY J J J) J <| Ua J J <| Wn <| Rg 6 J <| Um J J <| Um J J <| Um J J <| aA (cI ((p : Int)) (gH J J (by rw [← Int.natCast_mul]; omega)) (by rw [hp]; simp)) J <| aA (cI (((c + p : Nat) : Int)) (aO J J om) om) J <| Ua J J <| Nk [1,5,6,9,10,11] J <| Rg 6 J <| Um J J <| Um J J <| aA (jA (a := c + p) (b := 1073741824) J J (by decide)) J <| aA (dJ (cs := [_]) (rows := [[_]]) J J (by decide) J J J) J <| dP (te := ti3) (f := d64) (q := q) (us := ds) J J J J J (fun _ => rfl) (by decide) (by show (2 * (ds.length + 1) + 256) * 8 ≤ _; omega) om J J J <| Ua J J <| Wn <| aI (z := 3) J <| Um J J ?_
 refine aA (hJ (a := c + p) (b := 1073741824) J J (by decide) om) J <| Ua J J <| Wn <| aF <| aI (z := 2) J <| aA (cI (((ds.length + 1 : Nat) : Int)) (aO J J om) om) J <| Um J J <| Wn <| aG <| ⟨⟨(c + p) / 1073741824, _, ds ++ [(c + p) % 1073741824]⟩, ⟨rfl, rfl, rfl, rfl, rfl, congrArg some (by simp), trivial⟩, cL, ⟨by simp; omega, hdd.snoc (Nat.mod_lt _ (by decide)), om, by rw [hp]; exact qB hi J⟩, by simp; omega⟩
theorem ndiff_share (q0 off len q2 n0 : Nat) (o2 : Ob) (us : List Nat) (k2 : Nat) (xs ys : List Nat) (hqq : q0 ≠ q2) (hq0 : q0 < n0) (hq2 : q2 < n0) (hu : Dg 1073741824 us) (hlen : off + len ≤ us.length) (hxs : xs = (us.drop off).take len) (hy : Dg 1073741824 ys) (hle : ys.length ≤ len) (hv : val 1073741824 ys ≤ val 1073741824 xs) (hl0 : 0 < len) (lx : us.length < 1099511627776) : WC Tryz.prog T E0 Tryz.f143.ntmps (codeOf Tryz.f143) (argsEnv 0 [.ref q0 1 off len, .sl k2 (ys.map d64)]) [(q0, { cells := (us.map d64).flatten, sz := 1, elem := 3, st := 0 }), (q2, o2)] n0 (fun x e' h' n' => (x = .normal ∨ x = .ret) ∧ ∃ ls', resE e' T h' Tryz.f143.results.toList = some ls' ∧ ∃ r0 ds, resultLV ls' = .ref r0 1 0 ds.length ∧ h' = (r0, { cells := (ds.map d64).flatten, sz := 1, elem := 3, st := 0 }) :: [(q0, { cells := (us.map d64).flatten, sz := 1, elem := 3, st := 0 }), (q2, o2)] ∧ n0 ≤ r0 ∧ Dg 1073741824 ds ∧ val 1073741824 ds = val 1073741824 xs - val 1073741824 ys ∧ ds.length = len ∧ n0 ≤ n') := by
 have hxl0 : xs.length = len := by rw [hxs]; simp; omega
 have hx : Dg 1073741824 xs := by rw [hxs]; exact (hu.drop off).take len
 change WC _ _ _ _ _ [(0, .ref q0 1 off len), (1, .sl k2 (ys.map d64))] _ _ _
 refine Rg 1 J <| Ua J J <| Wn <| Rg 1 J <| Ua J J <| Wn <| Rg 1 J <| Ua J J <| Wn <| aB <| Rg 3 J <| Um J J <| aA (gY J J) J <| Um J J <| Wn <| aL <| bF (α := Nat × Nat × (List Nat)) (fun ⟨c, q, ds⟩ => [(0, .ref q0 1 off len), (1, .sl k2 (ys.map d64)), (5, outV q 1 (ds.map d64)), (6, .v (.int .i64 (-(c : Int)))), (9, .v (.int .i64 (len : Int))), (10, .v (.int .i64 (ds.length : Int)))]) (fun ⟨c, q, ds⟩ => outH q 1 3 (ds.map d64) [(q0, { cells := (us.map d64).flatten, sz := 1, elem := 3, st := 0 }), (q2, o2)]) (fun ⟨c, q, ds⟩ n => ds.length ≤ xs.length ∧ Dg 1073741824 ds ∧ c ≤ 1 ∧ val 1073741824 (xs.take ds.length) + 1073741824 ^ ds.length * c = val 1073741824 ds + val 1073741824 (ys.take ds.length) ∧ n0 ≤ q ∧ n0 ≤ n) (fun ⟨c, q, ds⟩ => xs.length - ds.length) (0, n0, []) ⟨J, J, J, J, J, J, trivial⟩ ⟨g0, g1 hqq g0, trivial⟩ ⟨Nat.zero_le _, by intro d hd; simp at hd, om, by simp [val], om, om⟩ ?_
 rintro ⟨c, q, ds⟩ n hF
 change WC _ _ _ _ _ (_ :: _) (outH _ _ _ _ _) n _
 obtain ⟨hdl, hdd, hc, hi, hq, hn⟩ := hF
 refine Rg 1 J <| aA (bZ J J) J <| bB (fun h11 => ?_) (fun h11 => ?_)
 rotate_left
 ·refine Wn <| aX J <| bA <| aS <| aR J <| Rg 2 J <| Um J J <| Ua J J <| Wn <| aN ?_
  have hl : ds.length = xs.length := by omega
  have hne : ds.map d64 ≠ [] := by intro h; rw [List.map_eq_nil_iff] at h; rw [h] at hl; simp at hl; omega
  refine ⟨.inr J, _, rfl, q, ds, (iU hne).trans (by rw [List.length_map]), outH_ne hne, hq, hdd, ?_, om, om⟩
  rw [List.take_of_length_le om, List.take_of_length_le om] at hi
  have hlt := eI (B := 1073741824) (by decide) hdd
  rcases (show c = 0 ∨ c = 1 by omega) with rfl | rfl
  ·omega
  ·omega
 refine Wn <| aT J <| aH <| aL <| Rg 2 J <| Um J J <| Ua J J <| cJ ?_
 have hxl : xs.getD ds.length default < 1073741824 := bP hx om
 refine Rg 7 J <| Um J J <| Um J J <| Um J J <| aA (cH (j := ds.length) J J J J om om J) J <| aA (cI (((xs.getD ds.length default : Nat) : Int)) (oLdA (f := d64) (us := us) (a := off + ds.length) J J (outH_get om g0) (fun _ => rfl) J (by decide) om J) (by rw [hxs]; exact congrArg Int.ofNat (seg_getD om hlen))) J <| aA (cI (((xs.getD ds.length default : Nat) : Int) - c) (aO J J om) om) J <| Ua J J <| Nk [0,1,5,6,7,9,10] J <| aB <| Rg 4 J <| Um J J <| Um J J <| aA (aW J J) J <| aA (bZ J J) J <| bB (fun h22 => ?_) (fun h22 => ?_)
 rotate_left
 ·refine Wn <| aX J <| aH <| Rg 2 J <| Um J J <| aA (bZ J J) J <| bB (fun h30 => ?_) (fun h30 => ?_)
  rotate_left
  ·refine Wn <| bV J <| Rg 5 J <| Um J J <| aA (cI (((xs.getD ds.length default - 0 - c : Nat) : Int)) (dK J) om) J <| aA (dJ (cs := [_]) (rows := [[_]]) J J (by decide) J J J) J <| dP (te := ti3) (f := d64) (q := q) (us := ds) J J J J J (fun _ => rfl) (by decide) (by show (2 * (ds.length + 1) + 256) * 8 ≤ _; omega) om (gN om (gN om J)) (gN om (gN om J)) J <| Ua J J <| Nk [0,1,5,9,10] J <| aI (z := 1) J <| Ua J J <| Wn <| aF <| aI (z := 2) J <| aA (cI (((ds.length + 1 : Nat) : Int)) (aO J J om) om) J <| Um J J <| Wn <| aG <| ⟨⟨0, _, ds ++ [(xs.getD ds.length default - 0 - c)]⟩, ⟨rfl, rfl, rfl, rfl, rfl, congrArg some (by simp), trivial⟩, lQ om om hqq, ⟨by simp; omega, hdd.snoc om, om, kD hi J (dW om).symm om om, om, om⟩, by simp; omega⟩
  refine Wn <| bY J <| Rg 6 J <| Um J J <| Um J J <| aA (cI (((xs.getD ds.length default + 1073741824 - 0 - c : Nat) : Int)) (aO J J om) om) J <| aA (dJ (cs := [_]) (rows := [[_]]) J J (by decide) J J J) J <| dP (te := ti3) (f := d64) (q := q) (us := ds) J J J J J (fun _ => rfl) (by decide) (by show (2 * (ds.length + 1) + 256) * 8 ≤ _; omega) om (gN om (gN om J)) (gN om (gN om J)) J <| Ua J J <| Nk [0,1,5,9,10] J <| aI (z := 1) J <| Ua J J <| Wn <| aF <| aI (z := 2) J <| aA (cI (((ds.length + 1 : Nat) : Int)) (aO J J om) om) J <| Um J J <| Wn <| aG <| ⟨⟨1, _, ds ++ [(xs.getD ds.length default + 1073741824 - 0 - c)]⟩, ⟨rfl, rfl, rfl, rfl, rfl, congrArg some (by simp), trivial⟩, lQ om om hqq, ⟨by simp; omega, hdd.snoc om, om, kE hi J (dW om).symm om om, om, om⟩, by simp; omega⟩
 refine Wn <| aT J ?_
 have hyl : ys.getD ds.length default < 1073741824 := bP hy om
 refine Rg 7 J <| Um J J <| Um J J <| Um J J <| aA (cG J J J J J om J) J <| aA (dY J J J) J <| aA (cI (((xs.getD ds.length default : Nat) : Int) - c - ((ys.getD ds.length default : Nat) : Int)) (cE J J om) om) J <| Ua J J <| Nk [0,1,5,6,9,10] J <| Rg 2 J <| Um J J <| aA (bZ J J) J <| bB (fun h30 => ?_) (fun h30 => ?_)
 rotate_left
 ·refine Wn <| bV J <| Rg 5 J <| Um J J <| aA (cI (((xs.getD ds.length default - ys.getD ds.length default - c : Nat) : Int)) (dK J) om) J <| aA (dJ (cs := [_]) (rows := [[_]]) J J (by decide) J J J) J <| dP (te := ti3) (f := d64) (q := q) (us := ds) J J J J J (fun _ => rfl) (by decide) (by show (2 * (ds.length + 1) + 256) * 8 ≤ _; omega) om (gN om (gN om J)) (gN om (gN om J)) J <| Ua J J <| Wn <| aI (z := 1) J <| Ua J J <| Wn <| aF <| aI (z := 2) J <| aA (cI (((ds.length + 1 : Nat) : Int)) (aO J J om) om) J <| Um J J <| Wn <| aG <| ⟨⟨0, _, ds ++ [(xs.getD ds.length default - ys.getD ds.length default - c)]⟩, ⟨rfl, rfl, rfl, rfl, rfl, congrArg some (by simp), trivial⟩, lQ om om hqq, ⟨by simp; omega, hdd.snoc om, om, kD hi J J om om, om, om⟩, by simp; omega⟩
 refine Wn <| bY J <| Rg 6 J <| Um J J <| Um J J <| aA (cI (((xs.getD ds.length default + 1073741824 - ys.getD ds.length default - c : Nat) : Int)) (aO J J om) om) J <| aA (dJ (cs := [_]) (rows := [[_]]) J J (by decide) J J J) J <| dP (te := ti3) (f := d64) (q := q) (us := ds) J J J J J (fun _ => rfl) (by decide) (by show (2 * (ds.length + 1) + 256) * 8 ≤ _; omega) om (gN om (gN om J)) (gN om (gN om J)) J <| Ua J J <| Wn <| aI (z := 1) J <| Ua J J <| Wn <| aF <| aI (z := 2) J <| aA (cI (((ds.length + 1 : Nat) : Int)) (aO J J om) om) J <| Um J J <| Wn <| aG <| ⟨⟨1, _, ds ++ [(xs.getD ds.length default + 1073741824 - ys.getD ds.length default - c)]⟩, ⟨rfl, rfl, rfl, rfl, rfl, congrArg some (by simp), trivial⟩, lQ om om hqq, ⟨by simp; omega, hdd.snoc om, om, kE hi J J om om, om, om⟩, by simp; omega⟩
theorem ndivided_run (k1 k2 : Nat) (xs ys : List Nat) (hk1 : k1 = 1 ∨ k1 = 0 ∧ xs.length = 0) (hx : Dg 1073741824 xs) (hy : Dg 1073741824 ys) (tx : Trm xs) (ty : Trm ys) (hyl : 1 ≤ ys.length) (lx : xs.length < 549755813888) (ly : ys.length < 549755813888) : ∃ r, Run Tryz.prog T E0 (.call 159 [.sl k1 (xs.map d64), .sl k2 (ys.map d64)] r) ∧ ∃ k3 qs k4 rs, r = .tup [.sl k3 (qs.map d64), .sl k4 (rs.map d64)] ∧ (k3 = 1 ∨ k3 = 0 ∧ qs.length = 0) ∧ (k4 = 1 ∨ k4 = 0 ∧ rs.length = 0) ∧ Dg 1073741824 qs ∧ Dg 1073741824 rs ∧ val 1073741824 qs * val 1073741824 ys + val 1073741824 rs = val 1073741824 xs ∧ val 1073741824 rs < val 1073741824 ys ∧ qs.length ≤ xs.length + 1 ∧ rs.length ≤ xs.length + ys.length := by
 refine iT Tryz.func159 J J (dH J) <| Rg 2 J <| Ua J J <| Ua J J <| Wn <| aB <| Rg 3 J <| Um J J <| aA (aW J J) J <| aA (dV J J) J <| bB (fun h18 => ?_) (fun h18 => ?_)
 ·refine Wn <| aT J <| aB ?_
  have hy1 : ys.length = 1 := by omega
  have hyv : val 1073741824 ys = ys.getD 0 default := by
   obtain ⟨y, rfl⟩ := List.length_eq_one_iff.1 hy1
   simp [val]
  have hyb : ys.getD 0 default < 1073741824 := bP hy om
  have hy0 : 0 < ys.getD 0 default := by
   obtain ⟨y, rfl⟩ := List.length_eq_one_iff.1 hy1
   have := ty y (by simp)
   simp; omega
  obtain ⟨r, hr, ds, rest, rfl, hdd, hrest, hval, hlen⟩ := oF k1 xs (ys.getD 0 default) hx hy0 hyb om
  refine Rg 10 J <| Um J J <| Um J J <| aA (cG (j := 0) J J J J om om J) J <| aA (dY J J J) J <| aA (aK J (hr) (by simp)) J <| Um J J <| aA (fB J J) J <| aA (fB J J) J <| Ua J J <| Ua J J <| Nk [6,7] J <| aB <| Rg 5 J <| Um J J <| Um J J <| aA (dJ (cs := [_]) (rows := [[_]]) J J (by decide) J J J) J <| Ua J J <| Ua J J <| Wn <| bI <| ⟨.tup [.sl 1 (ds.map d64), .sl 1 ([rest].map d64)], ⟨1, ds, 1, [rest], rfl, .inl J, .inl J, hdd, by intro d hd; simp at hd; omega, by rw [hyv]; simpa [val] using hval, by rw [hyv]; simpa [val] using hrest, om, by simp; omega⟩, ?_⟩
  exact postA (n := 0) [] (.inr J) J (.data (by simp) (.cons (fun m _ => (Weak.two _).snap (by simp [d64])) .nil)) (by intro p hp; simp at hp)
 refine Wn <| aX J <| aH <| aB <| Rg 4 J <| Um J J <| Um J J <| aA (aK J (lK k1 k2 xs ys hx hy tx ty om om) (by simp)) J <| aA (bZ J J) J <| bB (fun h33 => ?_) (fun h33 => ?_)
 ·refine Wn <| aT J <| aB <| Rg 3 J <| Um J J <| Ua J J <| Ua J J <| Wn <| bI <| ⟨.tup [.sl 0 ([].map d64), .sl k1 (xs.map d64)], ⟨0, [], k1, xs, rfl, .inr ⟨rfl, rfl⟩, hk1, by intro d hd; simp at hd, hx, by simp [val], ?_, by simp, om⟩, post (n := 0) (.inr J) J J (by simp)⟩
  have := Int.sign_neg_iff.1 h33; omega
 refine Wn <| aX J <| aH ?_
 have hge : val 1073741824 ys ≤ val 1073741824 xs := by
  rcases Nat.lt_or_ge (val 1073741824 xs) (val 1073741824 ys) with h | h
  ·exact absurd (Int.sign_neg_iff.2 (show (val 1073741824 xs : Int) - val 1073741824 ys < 0 by omega)) h33
  ·exact h
 have hll : ys.length ≤ xs.length := by
  rcases Nat.lt_or_ge xs.length ys.length with h | h
  ·have := eJ (by decide) hx ty h; omega
  ·exact h
 have hy2 : 2 ≤ ys.length := by omega
 obtain ⟨f, hf⟩ : ∃ f, f = 1073741824 / (ys.getD (ys.length - 1) default + 1) := ⟨_, rfl⟩
 obtain ⟨hf1, hf2, hnv, hyp⟩ := norm30 hy ty hy2 hf
 have hyt : ys.getD (ys.length - 1) default < 1073741824 := bP hy om
 refine Rg 9 J <| Um J J <| Um J J <| aA (aW J J) J <| aA (cE J J om) J <| aA (cG (j := ys.length - 1) J J J J om om J) J <| aA (dY J J J) J <| aA (cI (((ys.getD (ys.length - 1) default + 1 : Nat) : Int)) (aO J J om) om) J <| aA (cI ((f : Int)) (hJ (a := 1073741824) (b := ys.getD (ys.length - 1) default + 1) J J om (by decide)) (by rw [hf])) J <| Ua J J <| Nk [0,1,8] J ?_
 obtain ⟨_, _, _, hr1, us0, rfl, rfl, rfl, hud0, huv0, hul0⟩ := nscaled_own k1 xs f hx hf2 om
 obtain ⟨r2, hr2, zs, rfl, hzd, hzv, hzl⟩ := pX k2 ys f hy hf2 om
 obtain ⟨vs, hvs⟩ : ∃ vs, vs = zs.take ys.length := ⟨_, rfl⟩
 have hvd : Dg 1073741824 vs := by rw [hvs]; exact hzd.take _
 have hvl : vs.length = ys.length := by rw [hvs, List.length_take]; omega
 have hvv : val 1073741824 vs = val 1073741824 ys * f := by rw [hvs, (nO (by decide) om (by rw [hzv]; exact hnv)).1, hzv]
 have hvp : 1073741824 ^ (vs.length - 1) ≤ val 1073741824 vs := by
  rw [hvv, hvl]; have := Nat.mul_le_mul hyp hf1; omega
 have hv1 := top_pos (by decide) hvd om hvp
 have hV0 : 0 < val 1073741824 vs := Nat.lt_of_lt_of_le (Nat.pow_pos (by decide)) hvp
 have hv1b : vs.getD (vs.length - 1) default < 1073741824 := bP hvd om
 refine bR (z := 11) J kR <| Dm J J <| Dm J J <| WD.S (oCallO J hr1 (by simp)) J <| Dm J J <| Dm J J <| aC (aK J (hr2) (by simp)) J <| Dm J J <| aC (aW J J) J <| aC (aV (b := .sl 1 (vs.map d64)) (oSlH (j := ys.length) J J J gK J om (by simp; omega)) (by rw [hvs, List.map_take]; rfl)) J <| aC (gX J) J <| aC (gX J) J <| bG (aQ kR) J <| Rg 3 J <| Um J J <| aA (aW J J) J <| Ua J J <| Nk [8,9,10,11] J <| Rg 6 J <| Um J J <| aA (gY J J) J <| Um J J <| aA (cE J J om) J ?_
 refine bJ (oMk (a := xs.length + 1 - ys.length) (b := xs.length + 1 - ys.length) J J J J om om (by decide) om (by show 8 * (xs.length + 1 - ys.length) ≤ _; omega) om) J <| Ua J J <| Wn <| aB <| Rg 6 J <| Um J J <| aA (gY J J) J <| Um J J <| aA (cE J J om) J <| aA (cE J J om) J <| Ua J J <| Nk [4,8,9,10,11,12] J <| aL <| bF (α := Nat × (List Nat) × (List Nat)) (fun ⟨k, us, qs⟩ => [(4, .ref (0 + 2 + 3 + 4 + 9 + 11 + 3 + 4) 1 0 qs.length), (8, .v (.int .i64 (f : Int))), (9, .ref (0 + 2 + 3 + 4 + 9 + 2) 1 0 us.length), (10, .sl 1 (vs.map d64)), (11, .v (.int .i64 (vs.length : Int))), (12, .v (.int .i64 ((k : Int) - 1)))]) (fun ⟨k, us, qs⟩ => [((0 + 2 + 3 + 4 + 9 + 2), { cells := (us.map d64).flatten, sz := 1, elem := 3, st := 0 }), ((0 + 2 + 3 + 4 + 9 + 11 + 3 + 4), { cells := (qs.map d64).flatten, sz := 1, elem := 3, st := 0 })]) (fun ⟨k, us, qs⟩ n => k + vs.length ≤ us.length ∧ us.length = xs.length + 1 ∧ qs.length = xs.length + 1 - ys.length ∧ Dg 1073741824 us ∧ Dg 1073741824 qs ∧ val 1073741824 us0 = val 1073741824 (qs.drop k) * val 1073741824 vs * 1073741824 ^ k + val 1073741824 us ∧ val 1073741824 (us.drop k) < val 1073741824 vs ∧ 36 ≤ n) (fun ⟨k, us, qs⟩ => k) (xs.length + 1 - ys.length, us0, List.replicate (xs.length + 1 - ys.length) 0) ⟨congrArg some (by rw [List.length_replicate]; rfl), rfl, rfl, rfl, rfl, congrArg (fun z => some (LV.v (.int .i64 z))) om, trivial⟩ ⟨rfl, g0.trans (by rw [List.map_replicate]; rfl), trivial⟩ ⟨om, hul0, by simp, hud0, by intro d hd; simp at hd; rw [hd.2]; decide, by rw [List.drop_eq_nil_of_le (by simp)]; simp [val], by rw [hvv]; exact div_init (n := xs.length) (m := ys.length) huv0 (eI (by decide) hx) om om om hf1 hyp, om⟩ ?_
 rintro ⟨k, us, qs⟩ n hF
 change WC _ _ _ _ _ (_ :: _) (_ :: _) n _
 obtain ⟨hk, hul, hql0, hud, hqd, hU, hlt, hn30⟩ := hF
 refine aB <| Rg 2 J <| Um J J <| aA (hH J J) J <| bB (fun h65 => ?_) (fun h65 => ?_)
 rotate_left
 ·refine Wn <| aX J <| bA <| aS <| aR J ?_
  have hk0 : k = 0 := by omega
  subst hk0
  rw [List.drop_zero, Nat.pow_zero, Nat.mul_one] at hU
  rw [List.drop_zero] at hlt
  obtain ⟨hts, _⟩ := nO (n := vs.length) (by decide) om (Nat.lt_trans hlt (eI (by decide) hvd))
  obtain ⟨r, hr, rs, rest, rfl, hrd, hrest, hrv, hrl⟩ := oF 1 (us.take vs.length) f (hud.take _) hf1 hf2 (by simp; omega)
  have hr' : (us.take vs.length) = ((us.drop 0).take vs.length) := by simp
  rw [hr'] at hr
  refine Rg 9 J <| Um J J <| Um J J <| aA (oSlRh (j := vs.length) J J J J J J om) J <| Um J J <| bJ (mC [.sl 1 (((us.drop 0).take vs.length).map d64), .v (.int .i64 (f : Int))] [((0 + 2 + 3 + 4 + 9 + 2), { cells := (us.map d64).flatten, sz := 1, elem := 3, st := 1 })] J hr (.part g0 (by show (0 : Nat) ≠ 2; decide) J (by decide) (by simp [keys]) J (fun _ => rfl) om dM (.data (by simp) .nil)) (by intro p hp; simp at hp; subst hp; exact ⟨_, g0, by show (0 : Nat) ≠ 2; decide, rfl⟩)) J <| Um J J <| aA (fB J J) J <| aA (fB J J) J <| Ua J J <| Nk [4,5] J ?_
  obtain ⟨hx1, hx2⟩ := unshift (X := val 1073741824 xs) (Y := val 1073741824 ys) (Q := val 1073741824 qs) (U := val 1073741824 us) hf1 (by rw [← hvv, ← huv0, hU]) (by rw [← hvv]; exact hlt)
  have hre := rest_div hrv hrest
  rw [hts] at hre
  rw [← hre] at hx1 hx2
  refine Rg 4 J <| Um J J <| Um J J <| Ua J J <| Ua J J <| Wn <| aN <| ⟨.tup [.sl 1 (qs.map d64), .sl 1 (rs.map d64)], ⟨1, qs, 1, rs, rfl, .inl J, .inl J, hqd, hrd, hx1, hx2, om, by rw [hrl]; simp; omega⟩, ?_⟩
  exact postA (n := 0) [((0 + 2 + 3 + 4 + 9 + 11 + 3 + 4), { cells := (qs.map d64).flatten, sz := 1, elem := 3, st := 1 })] (.inr J) J (.own _ (by simp) (g1 (by decide) (g1 (by decide) g0)) (by show (0 : Nat) ≠ 2; decide) J (by decide) (by simp [keys]) J gK dM (.data (by simp) .nil)) (by intro p hp; rw [List.mem_singleton] at hp; subst hp; exact ⟨_, rfl, by show (0 : Nat) ≠ 2; decide, rfl⟩)
 refine Wn <| aT J <| aH <| aL ?_
 have hu0 : us.getD (k - 1 + vs.length) default < 1073741824 := bP hud om
 have hu1 : us.getD (k - 1 + vs.length - 1) default < 1073741824 := bP hud om
 obtain ⟨hst, hRB⟩ := div_start (B := 1073741824) (by decide) (j := k - 1) hud hvd om om hv1 (by rw [show k - 1 + 1 = k by omega]; exact hlt)
 obtain ⟨hsg, hsg0⟩ := seg_val (by decide) om hRB
 obtain ⟨x0, hx0⟩ : ∃ x0, x0 = (us.getD (k - 1 + vs.length) default * 1073741824 + us.getD (k - 1 + vs.length - 1) default) / vs.getD (vs.length - 1) default := ⟨_, rfl⟩
 rw [← hx0] at hst
 replace hst := min_if hst
 obtain ⟨e0, he0⟩ : ∃ e0, e0 = if 1073741823 < x0 then 1073741823 else x0 := ⟨_, rfl⟩
 replace hst : val 1073741824 (us.drop (k - 1)) / val 1073741824 vs ≤ e0 := by rw [he0]; exact hst
 have he1 : e0 < 1073741824 := by rw [he0]; exact if_lt (by decide)
 have hsl : ((us.drop (k - 1)).take (vs.length + 1)).length = vs.length + 1 := take_len om
 have hsd : Dg 1073741824 ((us.drop (k - 1)).take (vs.length + 1)) := (hud.drop _).take _
 refine bR (z := 23) J kR <| Dm J J <| Dm J J <| Dm J J <| aC (cI (((k - 1 + vs.length : Nat) : Int)) (aO J J om) om) J <| aC (cH (j := k - 1 + vs.length) J J J J om om J) J <| aC (eC (f := d64) (us := us) (j := k - 1 + vs.length) J J g0 (fun _ => rfl) J (by decide) om J) J <| aC (cI (((us.getD (k - 1 + vs.length) default * 1073741824 : Nat) : Int)) (gH J J om) om) J <| Dm J J <| Dm J J <| Dm J J <| aC (cI (((k - 1 + vs.length : Nat) : Int)) (aO J J om) om) J <| aC (cE J J om) J <| aC (cH (j := k - 1 + vs.length - 1) J J J J om om J) J <| aC (eC (f := d64) (us := us) (j := k - 1 + vs.length - 1) J J g0 (fun _ => rfl) J (by decide) om J) J <| aC (cI ((((us.getD (k - 1 + vs.length) default * 1073741824 + us.getD (k - 1 + vs.length - 1) default) : Nat) : Int)) (aO J J om) om) J <| Dm J J <| Dm J J <| aC (cE J J om) J <| aC (cG (j := vs.length - 1) J J J J om om J) J <| aC (dY J J J) J <| aC (cI ((x0 : Int)) (hJ (a := (us.getD (k - 1 + vs.length) default * 1073741824 + us.getD (k - 1 + vs.length - 1) default)) (b := vs.getD (vs.length - 1) default) J J hv1 om) (by rw [hx0])) J <| aC (cI ((e0 : Int)) (oMin J J) (by rw [he0]; exact if_cast (b := 1073741823))) J <| aC (gX J) J ?_
 refine bG (aQ kR) J <| Ck [4,8,9,10,11,12,13] J <| aL <| bF (α := Nat) (fun e => [(4, .ref (0 + 2 + 3 + 4 + 9 + 11 + 3 + 4) 1 0 qs.length), (8, .v (.int .i64 (f : Int))), (9, .ref (0 + 2 + 3 + 4 + 9 + 2) 1 0 us.length), (10, .sl 1 (vs.map d64)), (11, .v (.int .i64 (vs.length : Int))), (12, .v (.int .i64 ((k : Int) - 1))), (13, .v (.int .i64 (e : Int)))]) (fun e => [((0 + 2 + 3 + 4 + 9 + 2), { cells := (us.map d64).flatten, sz := 1, elem := 3, st := 0 }), ((0 + 2 + 3 + 4 + 9 + 11 + 3 + 4), { cells := (qs.map d64).flatten, sz := 1, elem := 3, st := 0 })]) (fun e n => val 1073741824 (us.drop (k - 1)) / val 1073741824 vs ≤ e ∧ e < 1073741824 ∧ 36 ≤ n) (fun e => e) (e0) ⟨J, J, J, J, J, J, J, trivial⟩ ⟨g0, g1 (by decide) g0, trivial⟩ ⟨hst, he1, om⟩ ?_
 rintro e n hG
 change WC _ _ _ _ _ (_ :: _) (_ :: _) n _
 obtain ⟨hG1, hG2, hn31⟩ := hG
 refine dL ?_
 obtain ⟨r, hr, ps, rfl, hpd, hpv, hpl⟩ := pX 1 vs e hvd hG2 om
 refine Rg 4 J <| Um J J <| Um J J <| aA (aK J (hr) (by simp)) J <| Ua J J <| Wn <| aB <| bR (z := 14) J kR <| Dm J J <| aC (aK J (ntrim_run 1 ps om om) (by simp)) J <| aC (dJ (cs := []) (rows := []) J J (by decide) J J J) J <| Dm J J <| Dm J J <| Dm J J <| Dm J J <| aC (cI (((k - 1 + vs.length : Nat) : Int)) (aO J J om) om) J <| aC (cI (((k - 1 + vs.length + 1 : Nat) : Int)) (aO J J om) om) J <| aC (aV (b := .ref (0 + 2 + 3 + 4 + 9 + 2) 1 (k - 1) (vs.length + 1)) (oSlR (i := k - 1) (j := k - 1 + vs.length + 1) J J J J J J om J om om) (by congr 1 <;> omega)) J <| WD.S (oAp2 (f := d64) (us := us) J J J J J (by decide) J (fun _ => rfl) g0 om om (by show (2 * (vs.length + 1) + 256) * 8 ≤ _; omega) om) J <| WD.S (mC [.sl 1 (((us.drop (k - 1)).take (vs.length + 1)).map d64)] [(n + 4 + 10, { cells := (((us.drop (k - 1)).take (vs.length + 1)).map d64).flatten, sz := 1, elem := 3, st := 1 })] J (ntrim_run 1 ((us.drop (k - 1)).take (vs.length + 1)) om om) (.own _ (by rw [List.length_map, hsl]) g0 (by show (0 : Nat) ≠ 2; decide) J (by decide) (by simp [keys]) J gK dM .nil) (by intro p hp; rw [List.mem_singleton] at hp; subst hp; exact ⟨_, g0, by show (0 : Nat) ≠ 2; decide, rfl⟩)) J <| aC (aK J (lK _ _ (trim ps) (trim ((us.drop (k - 1)).take (vs.length + 1))) (mY hpd) (mY hsd) (mZ _) (mZ _) (trim_lt om) (trim_lt om)) (by simp)) J <| aC (nL J J) J <| jD (fun h106 => ?_) (fun h106 => ?_)
 rotate_left
 ·refine bG (aQ kR) J <| Ck [4,8,9,10,11,12,13,14,106] J <| aX J <| aH ?_
  have hdc := div_dec (R := val 1073741824 (us.drop (k - 1))) (V := val 1073741824 vs) (e := e) (by
   intro h
   rw [hO, hO, hpv, hsg] at h106
   rw [Nat.mul_comm] at h
   have h9 : ((val 1073741824 vs * e : Nat) : Int) - (val 1073741824 (us.drop (k - 1)) : Int) ≤ 0 := by omega
   rcases Int.lt_or_eq_of_le h9 with h10 | h10
   ·have := Int.sign_eq_neg_one_of_neg h10; omega
   ·rw [h10] at h106; exact h106 (by decide)) hG1
  refine aI (z := 3) J <| Um J J <| aA (cI (((e - 1 : Nat) : Int)) (cE J J om) om) J <| Ua J J <| Wn <| dG <| aG <| ⟨e - 1, ⟨J, J, J, J, J, J, J, trivial⟩, ⟨g1 om (g1 om g0), g1 om (g1 om (g1 (by decide) g0)), trivial⟩, ⟨hdc.2, om, om⟩, by show e - 1 < e; omega⟩
 refine bG (aQ kR) J <| Ck [4,8,9,10,11,12,13,14,106] J <| aT J <| aB ?_
 have hle : e * val 1073741824 vs ≤ val 1073741824 (us.drop (k - 1)) := by
  rw [hO, hO, hpv, hsg] at h106
  rcases Nat.lt_or_ge (val 1073741824 (us.drop (k - 1))) (e * val 1073741824 vs) with h | h
  ·rw [Nat.mul_comm] at h
   have := Int.sign_eq_one_of_pos (a := ((val 1073741824 vs * e : Nat) : Int) - (val 1073741824 (us.drop (k - 1)) : Int)) om
   omega
  ·exact h
 refine gL (z := 10) J <| dS (dK J) J <| dS (dK J) J <| dS (dK J) J <| dS (dK J) J <| dS (cI (((k - 1 + vs.length : Nat) : Int)) (aO J J om) om) J <| dS (cI (((k - 1 + vs.length + 1 : Nat) : Int)) (aO J J om) om) J <| dS (aV (b := .ref (0 + 2 + 3 + 4 + 9 + 2) 1 (k - 1) (vs.length + 1)) (oSlR (i := k - 1) (j := k - 1 + vs.length + 1) J J J J J J om J om om) (by congr 1 <;> omega)) J <| dS (dK J) J <| qG (ls := [.ref (0 + 2 + 3 + 4 + 9 + 2) 1 (k - 1) (vs.length + 1), .sl 1 (ps.map d64)]) (Φ := fun r h' n' => ∃ r0 ds, r = .ref r0 1 0 ds.length ∧ h' = (r0, { cells := (ds.map d64).flatten, sz := 1, elem := 3, st := 0 }) :: [((0 + 2 + 3 + 4 + 9 + 2), { cells := (us.map d64).flatten, sz := 1, elem := 3, st := 0 }), ((0 + 2 + 3 + 4 + 9 + 11 + 3 + 4), { cells := (qs.map d64).flatten, sz := 1, elem := 3, st := 0 })] ∧ n + 4 + 14 + 10 ≤ r0 ∧ Dg 1073741824 ds ∧ val 1073741824 ds = val 1073741824 ((us.drop (k - 1)).take (vs.length + 1)) - val 1073741824 ps ∧ ds.length = vs.length + 1 ∧ n + 4 + 14 + 10 ≤ n') J Tryz.func143 J J (dH J) J (by refine iW _ ?_ (ndiff_share (0 + 2 + 3 + 4 + 9 + 2) (k - 1) (vs.length + 1) (0 + 2 + 3 + 4 + 9 + 11 + 3 + 4) (n + 4 + 14 + 10) _ us 1 ((us.drop (k - 1)).take (vs.length + 1)) ps (by decide) om om hud om J hpd om (by rw [hpv, hsg, Nat.mul_comm]; exact hle) om om); exact ⟨g1 om (g1 om g0), g1 om (g1 om (g1 (by decide) g0)), trivial⟩) ?_
 rintro r' h' n' ⟨r0, ds, rfl, rfl, hr0, hdd, hdv, hdl, hn'⟩
 refine dS (gX J) J <| WN.nil <| Ck [4,8,9,10,11,12,13,15] J <| aB <| Rg 5 J <| Um J J <| Um J J <| aA (aV (b := .ref (0 + 2 + 3 + 4 + 9 + 2) 1 (k - 1) (us.length - (k - 1))) (oSlRl (i := k - 1) J J J J J om om) (by congr 1; omega)) J <| Um J J <| bJ (oCopyR (f := d64) (us := us) (ds := ds) J J J J (by decide) J (fun _ => rfl) (g1 om g0) g0 om om) J <| Wn <| bA <| kZ J <| aS <| aR J ?_
 obtain ⟨hs4, hltF⟩ := div_done (V := val 1073741824 vs) (e := e) (ds := ds) (m := vs.length) (by decide) hV0 om hRB (by rw [hdv, hsg, hpv, Nat.mul_comm]) hdl hle hG1
 have hUF := iO (qs := qs) (j := k - 1) om (by rw [show k - 1 + 1 = k by omega]; exact hU) hs4
 have hlF : (us.take (k - 1) ++ (ds ++ us.drop (k - 1 + ds.length))).length = us.length := by simp; omega
 have hdF : Dg 1073741824 (us.take (k - 1) ++ (ds ++ us.drop (k - 1 + ds.length))) := by
  intro d hd; rcases List.mem_append.1 hd with h | h
  ·exact hud.take _ d h
  ·rcases List.mem_append.1 h with h | h
   ·exact hdd d h
   ·exact hud.drop _ d h
 rw [← hdl] at hs4 hltF hUF
 refine aI (z := 5) J <| Um J J <| Um J J <| Um J J <| aA (cH (j := k - 1) J J J J om om J) J <| bH (fG (f := d64) (us := qs) e J J J (g1 (by decide) (g1 om (g1 (by decide) g0))) (fun _ => rfl) J J om J) <| Wn <| aF <| Ck [4,8,9,10,11,12] J <| aI (z := 3) J <| Um J J <| aA (cI (((k - 1 : Nat) : Int) - 1) (cE J J om) om) J <| Ua J J <| Wn <| aG <| ⟨⟨k - 1, (us.take (k - 1) ++ (ds ++ us.drop (k - 1 + ds.length))), qs.set (k - 1) e⟩, ⟨congrArg some (by rw [List.length_set]), rfl, congrArg some (by rw [hlF]), rfl, rfl, rfl, trivial⟩, ⟨g1 (by decide) g0, g0, trivial⟩, ⟨by rw [hlF]; omega, by rw [hlF]; exact hul, by rw [List.length_set]; exact hql0, hdF, hqd.set _ om, hUF, hltF, om⟩, by show k - 1 < k; omega⟩
end Go.Proofs.YtohfklpfeilcpaaGreat
namespace Go.Proofs.YtohfklpfeilcpaaGreat
open Go.Ab Go.RowKit
theorem nplus_run (v w : Int) (hv : len30 v < 1099511627775) (hw : len30 w < 1099511627775) : Run Tryz.prog T E0 (.call 108 [lvN v, lvN w] (lvN (v + w))) := by
 obtain ⟨xs, hxs, dv, qv, tv, lxv⟩ := ns_of v
 obtain ⟨ys, hys, dw, qw, tw, lyw⟩ := ns_of w
 have bv := pV v
 have bw := pV w
 refine bL Tryz.func108 J J (dH J) ?_
 have J3 : ∀  (n : Nat) , WC Tryz.prog T E0 Tryz.f108.ntmps (codeR (codeR (codeOf Tryz.f108))) [(2, .ptr 0 0), (3, .ptr 1 0), (4, .ptr 2 0)] [(2, { cells := [.v (.int .i64 0), .v (.bool false), .sl 0 []], sz := 3, elem := 33, st := 0 }), (1, { cells := (lvN w).cells, sz := 3, elem := 33, st := 0 }), (0, { cells := (lvN v).cells, sz := 3, elem := 33, st := 0 })] n (Post T Tryz.f108.results.toList (lvN (v + w))) := by
  intro  n
  refine bR (z := 6) J kR <| aC (aM (l := .agg [_, _, _]) J J J J J) J <| aC (aK J ((hxs ▸ jL v)) (by simp)) J <| aC (aM (l := .agg [_, _, _]) J J J J J) J <| aC (aK J ((hys ▸ jL w)) (by simp)) J <| aC (gX J) J <| aC (gX J) J <| bG (aQ kR) J <| bR (z := 8) J kR <| aC (aM (l := .agg [_, _, _]) J J J J J) J <| aC (aK J (eR _) (by simp)) J <| aC (aV (b := .v (.bool (decide (v < 0)))) (bZ J J) (by rw [rE])) J <| aC (aM (l := .agg [_, _, _]) J J J J J) J <| aC (aK J (eR _) (by simp)) J <| aC (aV (b := .v (.bool (decide (w < 0)))) (bZ J J) (by rw [rE])) J <| aC (gX J) J <| aC (gX J) J <| bG (aQ kR) J <| Ck [4,5,6,7,8] J <| aL <| Rg 4 J <| Um J J <| Um J J <| aA (oEqB J J J) J ?_
  refine dT (fun h38 => ?_) (fun h38 => ?_)
  ·refine Ua J J <| Wn <| bY J ?_
   obtain ⟨r, hr, ds, rfl, hdd, hvl, hln⟩ := nsum_run (if xs.length = 0 then 0 else 1) (if ys.length = 0 then 0 else 1) xs ys qv qw om om
   refine Rg 6 J <| Um J J <| Um J J <| Um J J <| aA (aK J (hr) (by simp)) J <| aA (aK J (jM (decide (v < 0)) _ ds qS hdd om) (by simp)) J <| bH (cP (cs' := [_, _, _]) J J J J J J J J) <| Wn <| aN <| aP <| post (n := 0) (.inr J) J ?_ (by simp)
   rw [← plus_same h38, ← dv, ← dw, ← hvl]; rfl
  refine Ua J J <| Wn <| bV J <| Rg 5 J <| Um J J <| Um J J <| aA (aK J (lK _ _ xs ys qv qw tv tw om om) (by simp)) J <| aA (hH J J) J <| bB (fun h48 => ?_) (fun h48 => ?_)
  ·refine Ua J J <| Wn <| bY J ?_
   have hge : val 1073741824 ys ≤ val 1073741824 xs := by
    rcases Nat.lt_or_ge (val 1073741824 xs) (val 1073741824 ys) with h | h
    ·have := Int.sign_eq_neg_one_of_neg (a := (val 1073741824 xs : Int) - val 1073741824 ys) om; omega
    ·exact h
   have hll : ys.length ≤ xs.length := by
    rcases Nat.lt_or_ge xs.length ys.length with h | h
    ·have := eJ (by decide) qv tw h; omega
    ·exact h
   obtain ⟨r, hr, ds, rfl, hdd, hvl, hln⟩ := ndiff_run (if xs.length = 0 then 0 else 1) (if ys.length = 0 then 0 else 1) xs ys qv qw om hll hge
   refine Rg 6 J <| Um J J <| Um J J <| Um J J <| aA (aK J (hr) (by simp)) J <| aA (aK J (jM (decide (v < 0)) _ ds qS hdd om) (by simp)) J <| bH (cP (cs' := [_, _, _]) J J J J J J J J) <| Nk [4] J <| aN <| aP <| post (n := 0) (.inr J) J ?_ (by simp)
   rw [← plus_diff h38 om, ← dv, ← dw, ← hvl]; rfl
  refine Ua J J <| Wn <| bV J <| cA <| aF ?_
  have hge : val 1073741824 xs ≤ val 1073741824 ys := by
   rcases Nat.lt_or_ge (val 1073741824 ys) (val 1073741824 xs) with h | h
   ·have := Int.sign_eq_one_of_pos (a := (val 1073741824 xs : Int) - val 1073741824 ys) om; omega
   ·exact h
  have hll : xs.length ≤ ys.length := by
   rcases Nat.lt_or_ge ys.length xs.length with h | h
   ·have := eJ (by decide) qw tv h; omega
   ·exact h
  obtain ⟨r, hr, ds, rfl, hdd, hvl, hln⟩ := ndiff_run (if ys.length = 0 then 0 else 1) (if xs.length = 0 then 0 else 1) ys xs qw qv om hll hge
  refine Rg 6 J <| Um J J <| Um J J <| Um J J <| aA (aK J (hr) (by simp)) J <| aA (aK J (jM (decide (w < 0)) _ ds qS hdd om) (by simp)) J <| bH (cP (cs' := [_, _, _]) J J J J J J J J) <| Nk [4] J <| aN <| post (n := 0) (.inr J) J ?_ (by simp)
  rw [← plus_diff' h38 om, ← dv, ← dw, ← hvl]; rfl
 refine Rg 3 J <| bJ (eO J J) J <| bJ (eO J J) J <| bJ (fD J) J <| Wn <| aB <| Rg 10 J <| aA (aU J J J J J) J <| aA (aM J J J J J) J <| aA (aW J J) J <| aA (dV J J) J <| bB (fun h12 => ?_) (fun h12 => ?_)
 rotate_left
 ·refine Um J J <| K1 J J <| K1 J J <| K1 J J <| K1 J J <| aA (bK J J) J <| Nk [2,3,4,18] J <| aX J <| aH <| Ck [2,3,4] J ?_
  exact J3 _
 refine Um J J <| aE J (aU J J J J J) J <| aE J (aM J J J J J) J <| aE J (aW J J) J <| aE J (dV J J) J <| bB (fun h17 => ?_) (fun h17 => ?_)
 rotate_left
 ·refine aA (bM J J) J <| Nk [2,3,4,18] J <| aX J <| aH <| Ck [2,3,4] J ?_
  exact J3 _
 refine aA (bM J J) J <| Nk [2,3,4,18] J <| aT J <| aB ?_
 have h1 := fR (jG.1 h12)
 have h2 := fR (jG.1 h17)
 refine Rg 7 J <| aA (aU J J J J J) J <| aA (cI v (aM J J J J J) h1) J <| aA (aU J J J J J) J <| aA (cI w (aM J J J J J) h2) J <| aA (aO J J om) J <| aA (aK J (jH _ (by unfold I64; omega)) (by simp)) J <| bH (cP (cs' := [_, _, _]) J J J J J J J J) <| Wn <| bI <| post (n := 0) (.inr J) J ?_ (by simp)
 rfl
theorem jW (v w : Int) (hv : len30 v < 549755813888) (hw : len30 w < 549755813888) : Run Tryz.prog T E0 (.call 107 [lvN v, lvN w] (lvN (v * w))) := by
 obtain ⟨xs, hxs, dv, qv, tv, lxv⟩ := ns_of v
 obtain ⟨ys, hys, dw, qw, tw, lyw⟩ := ns_of w
 have bv := pV v
 have bw := pV w
 refine bL Tryz.func107 J J (dH J) ?_
 have J3 : ∀  (n : Nat) (hn : 3 ≤ n), WC Tryz.prog T E0 Tryz.f107.ntmps (codeR (codeR (codeOf Tryz.f107))) [(2, .ptr 0 0), (3, .ptr 1 0), (4, .ptr 2 0)] [(2, { cells := [.v (.int .i64 0), .v (.bool false), .sl 0 []], sz := 3, elem := 33, st := 0 }), (1, { cells := (lvN w).cells, sz := 3, elem := 33, st := 0 }), (0, { cells := (lvN v).cells, sz := 3, elem := 33, st := 0 })] n (Post T Tryz.f107.results.toList (lvN (v * w))) := by
  intro  n hn
  refine bR (z := 6) J kR <| aC (aM (l := .agg [_, _, _]) J J J J J) J <| aC (aK J ((hxs ▸ jL v)) (by simp)) J <| aC (aM (l := .agg [_, _, _]) J J J J J) J <| aC (aK J ((hys ▸ jL w)) (by simp)) J <| aC (gX J) J <| aC (gX J) J <| bG (aQ kR) J <| Rg 7 J <| Um J J <| aA (aW J J) J <| Um J J <| aA (aW J J) J <| aA (aO J J om) J <| bJ (oMk (a := xs.length + ys.length) (b := xs.length + ys.length) J J J J om om (by decide) om (by show 8 * (xs.length + ys.length) ≤ _; omega) om) J <| Ua J J <| Nk [2,3,4,5,6,7] J <| aB <| Rg 3 J <| Um J J <| aA (aW J J) J <| Um J J <| cJ ?_
  refine aL <| bF (α := Nat × Nat × (List Nat)) (fun ⟨i, q, us⟩ => [(2, .ptr 0 0), (3, .ptr 1 0), (4, .ptr 2 0), (5, .sl (if xs.length = 0 then 0 else 1) (xs.map d64)), (6, .sl (if ys.length = 0 then 0 else 1) (ys.map d64)), (7, .ref q 1 0 us.length), (58, .v (.int .i64 (xs.length : Int))), (59, .v (.int .i64 (i : Int)))]) (fun ⟨i, q, us⟩ => [(q, { cells := (us.map d64).flatten, sz := 1, elem := 3, st := 0 }), (2, { cells := [.v (.int .i64 0), .v (.bool false), .sl 0 []], sz := 3, elem := 33, st := 0 }), (1, { cells := (lvN w).cells, sz := 3, elem := 33, st := 0 }), (0, { cells := (lvN v).cells, sz := 3, elem := 33, st := 0 })]) (fun ⟨i, q, us⟩ n => i ≤ xs.length ∧ us.length = xs.length + ys.length ∧ Dg 1073741824 us ∧ val 1073741824 us = val 1073741824 (xs.take i) * val 1073741824 ys ∧ (∀ j, i + ys.length ≤ j → us.getD j default = 0) ∧ 2 < q) (fun ⟨i, q, us⟩ => xs.length - i) (0, n + 6 + 5, List.replicate (xs.length + ys.length) 0) ⟨rfl, rfl, rfl, rfl, rfl, congrArg some (by rw [List.length_replicate]; rfl), rfl, rfl, trivial⟩ ⟨g0.trans (by rw [List.map_replicate]; rfl), g1 om g0, g1 om (g1 (by decide) g0), g1 om (g1 (by decide) (g1 (by decide) g0)), trivial⟩ ⟨Nat.zero_le _, by simp, by intro d hd; simp at hd; rw [hd.2]; decide, by rw [nB]; simp [val], by intro j _; exact jQ _ _, om⟩ ?_
  rintro ⟨i, q, us⟩ n hF
  change WC _ _ _ _ _ (_ :: _) (_ :: _) n _
  obtain ⟨hi, hul, hud, huv, huz, hq⟩ := hF
  refine Rg 1 J <| aA (bZ J J) J <| bB (fun h60 => ?_) (fun h60 => ?_)
  rotate_left
  ·refine Wn <| aX J <| bA <| aS <| aR J ?_
   obtain ⟨q', rfl⟩ : ∃ q', q = q' + 3 := ⟨q - 3, om⟩
   have hE : val 1073741824 us = v.natAbs * w.natAbs := by
    rw [huv, List.take_of_length_le om, dv, dw]
   refine bR (z := 8) J kR <| aC (aM (l := .agg [_, _, _]) J J (g1 om (g1 (by decide) (g1 (by decide) g0))) J J) J <| aC (aK J (eR _) (by simp)) J <| aC (aM (l := .agg [_, _, _]) J J (g1 om (g1 (by decide) g0)) J J) J <| aC (aK J (eR _) (by simp)) J <| aC (gJ J J) J <| Dm J J <| WD.S (mC [.v (.bool (decide (v.sign ≠ w.sign))), .sl 1 (us.map d64)] [(q' + 3, { cells := (us.map d64).flatten, sz := 1, elem := 3, st := 1 })] J (jM (decide (v.sign ≠ w.sign)) 1 us (.inl J) hud om) (.data (by simp) (.own _ (by simp) g0 (by show (0 : Nat) ≠ 2; decide) J (by decide) (by simp [keys]) J gK dM .nil)) (by intro p hp; rw [List.mem_singleton] at hp; subst hp; exact ⟨_, g0, by show (0 : Nat) ≠ 2; decide, rfl⟩)) J <| cO (cP (cs' := [_, _, _]) J J J (g1 om (g1 om g0)) J J J J) <| bG (aQ kR) J <| Ck [4] J <| aN <| post (n := 0) (.inr J) J ?_ (by simp)
   have e1 : (if decide (v.sign ≠ w.sign) = true then -((val 1073741824 us : Nat) : Int) else ((val 1073741824 us : Nat) : Int)) = v * w := by
    rw [made_mul (by intro h; rw [hE]; rcases h with h | h <;> rw [h] <;> simp), hE, Int.natCast_mul]
    have h1 := fP v
    have h2 := fP w
    grind
   rw [← e1]; rfl
  refine Wn <| aT J <| aH <| aL <| Rg 2 J <| Um J J <| Ua J J <| Wn <| Rg 1 J <| Ua J J <| Wn <| aB <| Rg 3 J <| Um J J <| aA (aW J J) J <| Um J J <| Nk [2,3,4,5,6,7,8,9,58,59,63,64] J <| aL <| bF (α := Nat × Nat × (List Nat)) (fun ⟨k, c, us1⟩ => [(2, .ptr 0 0), (3, .ptr 1 0), (4, .ptr 2 0), (5, .sl (if xs.length = 0 then 0 else 1) (xs.map d64)), (6, .sl (if ys.length = 0 then 0 else 1) (ys.map d64)), (7, .ref q 1 0 us1.length), (8, .v (.int .i64 (i : Int))), (9, .v (.int .i64 (c : Int))), (58, .v (.int .i64 (xs.length : Int))), (59, .v (.int .i64 (i : Int))), (63, .v (.int .i64 (ys.length : Int))), (64, .v (.int .i64 (k : Int)))]) (fun ⟨k, c, us1⟩ => [(q, { cells := (us1.map d64).flatten, sz := 1, elem := 3, st := 0 }), (2, { cells := [.v (.int .i64 0), .v (.bool false), .sl 0 []], sz := 3, elem := 33, st := 0 }), (1, { cells := (lvN w).cells, sz := 3, elem := 33, st := 0 }), (0, { cells := (lvN v).cells, sz := 3, elem := 33, st := 0 })]) (fun ⟨k, c, us1⟩ n => k ≤ ys.length ∧ us1.length = us.length ∧ Dg 1073741824 us1 ∧ c < 1073741824 ∧ val 1073741824 us1 + 1073741824 ^ (i + k) * c = val 1073741824 us + 1073741824 ^ i * (xs.getD i default * val 1073741824 (ys.take k)) ∧ (∀ j, i + k ≤ j → us1.getD j default = us.getD j default)) (fun ⟨k, c, us1⟩ => ys.length - k) (0, 0, us) ⟨J, J, J, J, J, J, J, J, J, J, J, J, trivial⟩ ⟨g0, g1 om g0, g1 om (g1 (by decide) g0), g1 om (g1 (by decide) (g1 (by decide) g0)), trivial⟩ ⟨Nat.zero_le _, rfl, hud, by decide, by simp [val], fun _ _ => rfl⟩ ?_
  rintro ⟨k, c, us1⟩ n hG
  change WC _ _ _ _ _ (_ :: _) (_ :: _) n _
  obtain ⟨hk, hl1, hd1, hc1, hv1, hz1⟩ := hG
  refine Rg 1 J <| aA (bZ J J) J <| bB (fun h65 => ?_) (fun h65 => ?_)
  rotate_left
  ·refine Wn <| aX J <| bA <| aS <| aR J <| aI (z := 8) J <| Um J J <| Um J J <| Um J J <| aA (aW J J) J <| aA (cI (((i + ys.length : Nat) : Int)) (aO J J om) om) J <| Um J J <| aA (cH J J J J J om J) J <| bH (fG (f := d64) (us := us1) c J J J g0 (fun _ => rfl) J J om J) <| Wn <| aF <| Ck [2,3,4,5,6,7,58,59] J <| aI (z := 2) J <| aA (cI (((i + 1 : Nat) : Int)) (aO J J om) om) J <| Um J J <| Wn <| aG <| ⟨⟨i + 1, q, us1.set (i + ys.length) c⟩, ⟨rfl, rfl, rfl, rfl, rfl, congrArg some (by rw [List.length_set]), rfl, rfl, trivial⟩, ⟨g0, g1 om (g1 om g0), g1 om (g1 om (g1 (by decide) g0)), g1 om (g1 om (g1 (by decide) (g1 (by decide) g0))), trivial⟩, ⟨om, by rw [List.length_set]; omega, hd1.set _ hc1, ?_, ?_, hq⟩, by show xs.length - (i + 1) < xs.length - i; omega⟩
   ·have hk' : k = ys.length := by omega
    subst hk'
    have h1 := iA (B := 1073741824) us1 (i + ys.length) c om
    rw [hz1 _ (Nat.le_refl _), huz _ (Nat.le_refl _), Nat.mul_zero, Nat.add_zero] at h1
    rw [h1, hv1, huv, cQ, List.take_of_length_le (Nat.le_refl _), Nat.add_mul, Nat.mul_assoc]
   ·intro j hj
    rw [gV om, hz1 j om]; exact huz j om
  refine Wn <| aT J <| aH <| aL <| Rg 2 J <| Um J J <| Ua J J <| Nk [2,3,4,5,6,7,8,9,10,58,59,63,64] J ?_
  have hp : xs.getD i default < 1073741824 := bP qv om
  have hqk : ys.getD k default < 1073741824 := bP qw om
  have ho : us1.getD (i + k) default < 1073741824 := bP hd1 om
  have hpq := mul30 hp hqk
  refine bR (z := 19) J kR <| Dm J J <| Dm J J <| Dm J J <| Dm J J <| aC (cI (((i + k : Nat) : Int)) (aO J J om) om) J <| aC (cH J J J J J om J) J <| aC (eC (f := d64) (us := us1) (j := i + k) J J g0 (fun _ => rfl) J (by decide) om J) J <| Dm J J <| Dm J J <| aC (cG J J J J J om J) J <| aC (dY J J J) J <| Dm J J <| Dm J J <| aC (cG J J J J J om J) J <| aC (dY J J J) J <| aC (cI (((xs.getD i default * ys.getD k default : Nat) : Int)) (gH J J (by rw [← Int.natCast_mul]; omega)) (by simp)) J <| aC (cI (((xs.getD i default * ys.getD k default + us1.getD (i + k) default : Nat) : Int)) (aO J J om) om) J <| aC (cI ((((c + (xs.getD i default * ys.getD k default + us1.getD (i + k) default)) : Nat) : Int)) (aO J J om) om) J <| aC (gX J) J <| bG (aQ kR) J <| Ck [2,3,4,5,6,7,8,9,10,58,59,63,64] J <| Rg 8 J <| Um J J ?_
  refine Um J J <| Um J J <| aA (cI (((i + k : Nat) : Int)) (aO J J om) om) J <| Um J J <| aA (jA (a := (c + (xs.getD i default * ys.getD k default + us1.getD (i + k) default))) (b := 1073741824) J J (by decide)) J <| aA (cH J J J J J om J) J <| bH (fG (f := d64) (us := us1) ((c + (xs.getD i default * ys.getD k default + us1.getD (i + k) default)) % 1073741824) J J J g0 (fun _ => rfl) J J om J) <| Nk [2,3,4,5,6,7,8,9,58,59,63,64] J <| aI (z := 3) J <| Um J J <| aA (hJ (a := (c + (xs.getD i default * ys.getD k default + us1.getD (i + k) default))) (b := 1073741824) J J (by decide) om) J <| Ua J J <| Wn <| aF <| aI (z := 2) J <| aA (cI (((k + 1 : Nat) : Int)) (aO J J om) om) J <| Um J J <| Wn <| aG <| ⟨⟨k + 1, (c + (xs.getD i default * ys.getD k default + us1.getD (i + k) default)) / 1073741824, us1.set (i + k) ((c + (xs.getD i default * ys.getD k default + us1.getD (i + k) default)) % 1073741824)⟩, ⟨rfl, rfl, rfl, rfl, rfl, congrArg some (by rw [List.length_set]), rfl, rfl, rfl, rfl, rfl, rfl, trivial⟩, ⟨g0, g1 om (g1 om g0), g1 om (g1 om (g1 (by decide) g0)), g1 om (g1 om (g1 (by decide) (g1 (by decide) g0))), trivial⟩, ⟨om, by rw [List.length_set]; exact hl1, hd1.set _ (Nat.mod_lt _ (by decide)), om, mul_step hv1 om, ?_⟩, by show ys.length - (k + 1) < ys.length - k; omega⟩
  intro j hj
  rw [gV om]; exact hz1 j om
 refine Rg 3 J <| bJ (eO J J) J <| bJ (eO J J) J <| bJ (fD J) J <| Wn <| aB <| Rg 30 J <| aA (aU J J J J J) J <| aA (aM J J J J J) J <| aA (aW J J) J <| aA (dV J J) J <| bB (fun h14 => ?_) (fun h14 => ?_)
 rotate_left
 ·refine Um J J <| K1 J J <| K1 J J <| K1 J J <| K1 J J <| aA (bK J J) J <| Um J J <| K1 J J <| K1 J J <| K1 J J <| aA (bK J J) J <| Um J J <| K1 J J <| K1 J J <| K1 J J <| aA (bK J J) J <| Um J J <| K1 J J <| K1 J J <| K1 J J <| aA (bK J J) J <| Um J J <| K1 J J <| K1 J J ?_
  refine K1 J J <| aA (bK J J) J <| Nk [2,3,4,40] J <| aX J <| aH <| Ck [2,3,4] J ?_
  exact J3 _ om
 refine Um J J <| aE J (aU J J J J J) J <| aE J (aM J J J J J) J <| aE J (aW J J) J <| aE J (dV J J) J <| bB (fun h19 => ?_) (fun h19 => ?_)
 rotate_left
 ·refine aA (bM J J) J <| Um J J <| K1 J J <| K1 J J <| K1 J J <| aA (bK J J) J <| Um J J <| K1 J J <| K1 J J <| K1 J J <| aA (bK J J) J <| Um J J <| K1 J J <| K1 J J <| K1 J J <| aA (bK J J) J <| Um J J <| K1 J J <| K1 J J <| K1 J J <| aA (bK J J) J <| Nk [2,3,4,40] J <| aX J ?_
  refine aH <| Ck [2,3,4] J ?_
  exact J3 _ om
 refine aA (bM J J) J <| Um J J <| aE J (aU J J J J J) J <| aE J (aM J J J J J) J <| aE J (eB J J) J <| bB (fun h24 => ?_) (fun h24 => ?_)
 rotate_left
 ·refine aA (bM J J) J <| Um J J <| K1 J J <| K1 J J <| K1 J J <| aA (bK J J) J <| Um J J <| K1 J J <| K1 J J <| K1 J J <| aA (bK J J) J <| Um J J <| K1 J J <| K1 J J <| K1 J J <| aA (bK J J) J <| Nk [2,3,4,40] J <| aX J <| aH <| Ck [2,3,4] J ?_
  exact J3 _ om
 refine aA (bM J J) J <| Um J J <| aE J (aU J J J J J) J <| aE J (aM J J J J J) J <| aE J (bZ J J) J <| bB (fun h29 => ?_) (fun h29 => ?_)
 rotate_left
 ·refine aA (bM J J) J <| Um J J <| K1 J J <| K1 J J <| K1 J J <| aA (bK J J) J <| Um J J <| K1 J J <| K1 J J <| K1 J J <| aA (bK J J) J <| Nk [2,3,4,40] J <| aX J <| aH <| Ck [2,3,4] J ?_
  exact J3 _ om
 refine aA (bM J J) J <| Um J J <| aE J (aU J J J J J) J <| aE J (aM J J J J J) J <| aE J (eB J J) J <| bB (fun h34 => ?_) (fun h34 => ?_)
 rotate_left
 ·refine aA (bM J J) J <| Um J J <| K1 J J <| K1 J J <| K1 J J <| aA (bK J J) J <| Nk [2,3,4,40] J <| aX J <| aH <| Ck [2,3,4] J ?_
  exact J3 _ om
 refine aA (bM J J) J <| Um J J <| aE J (aU J J J J J) J <| aE J (aM J J J J J) J <| aE J (bZ J J) J <| bB (fun h39 => ?_) (fun h39 => ?_)
 rotate_left
 ·refine aA (bM J J) J <| Nk [2,3,4,40] J <| aX J <| aH <| Ck [2,3,4] J ?_
  exact J3 _ om
 refine aA (bM J J) J <| Nk [2,3,4,40] J <| aT J <| aB ?_
 have h1 := fR (jG.1 h14)
 have h2 := fR (jG.1 h19)
 have h3 := prod_small (v := v) (w := w) om om
 refine Rg 7 J <| aA (aU J J J J J) J <| aA (cI v (aM J J J J J) h1) J <| aA (aU J J J J J) J <| aA (cI w (aM J J J J J) h2) J <| aA (gH J J om) J <| aA (gS (cs := [_, _, _]) J J J J J) J <| bH (cP (cs' := [_, _, _]) J J J J J J J J) <| Wn <| bI <| post (n := 0) (.inr J) J ?_ (by simp)
 rw [eM (v := v * w) (by unfold smallN; omega)]; rfl
theorem pC (v w : Int) (hw0 : w ≠ 0) (hv : len30 v < 549755813888) (hw : len30 w < 549755813888) : Run Tryz.prog T E0 (.call 135 [lvN v, lvN w] (.tup [lvN (v.tdiv w), lvN (v.tmod w)])) := by
 obtain ⟨xs, hxs, dv, qv, tv, lxv⟩ := ns_of v
 obtain ⟨ys, hys, dw, qw, tw, lyw⟩ := ns_of w
 have bv := pV v
 have bw := pV w
 refine bL Tryz.func135 J J (dH J) ?_
 have J3 : ∀  (n : Nat) , WC Tryz.prog T E0 Tryz.f135.ntmps (codeR (codeR (codeOf Tryz.f135))) [(2, .ptr 0 0), (3, .ptr 1 0), (4, .ptr 2 0), (5, .ptr 3 0)] [(3, { cells := [.v (.int .i64 0), .v (.bool false), .sl 0 []], sz := 3, elem := 33, st := 0 }), (2, { cells := [.v (.int .i64 0), .v (.bool false), .sl 0 []], sz := 3, elem := 33, st := 0 }), (1, { cells := (lvN w).cells, sz := 3, elem := 33, st := 0 }), (0, { cells := (lvN v).cells, sz := 3, elem := 33, st := 0 })] n (Post T Tryz.f135.results.toList (.tup [lvN (v.tdiv w), lvN (v.tmod w)])) := by
  intro  n
  have hy1 : 1 ≤ ys.length := by
   rcases Nat.eq_zero_or_pos ys.length with h | h
   ·rw [List.length_eq_zero_iff.1 h] at dw; simp [val] at dw; omega
   ·exact h
  obtain ⟨r, hr, k3, qs, k4, rs, rfl, hk3, hk4, hqd, hrd, hval, hrest, hql, hrl⟩ := ndivided_run (if xs.length = 0 then 0 else 1) (if ys.length = 0 then 0 else 1) xs ys qS qv qw tv tw hy1 om om
  obtain ⟨hq1, hq2⟩ := mS (v := v) (w := w) (q := val 1073741824 qs) (r := val 1073741824 rs) (by rw [← dw, ← dv]; exact hval) (by rw [← dw]; exact hrest)
  have hz : v = 0 → val 1073741824 qs = 0 ∧ val 1073741824 rs = 0 := by
   intro h
   rw [dv, h] at hval
   have hy0 : 0 < val 1073741824 ys := by omega
   have h2 : val 1073741824 qs * val 1073741824 ys = 0 := by simp at hval; omega
   rcases Nat.mul_eq_zero.1 h2 with h3 | h3
   ·simp at hval; omega
   ·omega
  refine bR (z := 10) J kR <| aC (aM (l := .agg [_, _, _]) J J J J J) J <| aC (aK J ((hxs ▸ jL v)) (by simp)) J <| aC (aM (l := .agg [_, _, _]) J J J J J) J <| aC (aK J ((hys ▸ jL w)) (by simp)) J <| aC (aK J (hr) (by simp)) J <| Dm J J <| aC (fB J J) J <| aC (fB J J) J <| aC (gX J) J <| aC (gX J) J <| bG (aQ kR) J <| bR (z := 14) J kR <| aC (aM (l := .agg [_, _, _]) J J J J J) J <| aC (aK J (eR _) (by simp)) J <| aC (aM (l := .agg [_, _, _]) J J J J J) J <| aC (aK J (eR _) (by simp)) J <| aC (gJ J J) J <| Dm J J <| aC (aK J (jM (decide (v.sign ≠ w.sign)) k3 qs hk3 hqd om) (by simp)) J <| aC (aM (l := .agg [_, _, _]) J J J J J) J <| aC (aK J (eR _) (by simp)) J <| aC (aV (b := .v (.bool (decide (v < 0)))) (bZ J J) (by rw [rE])) J <| Dm J J ?_
  refine aC (aK J (jM (decide (v < 0)) k4 rs hk4 hrd om) (by simp)) J <| cO (cP (cs' := [_, _, _]) J J J J J J J J) <| cO (cP (cs' := [_, _, _]) J J J J J J J J) <| bG (aQ kR) J <| Ck [4,5] J <| aN <| post (n := 0) (.inr J) J ?_ (by simp)
  rw [hq1, hq2, ← made_quo (fun h => (hz h).1) hw0, ← made_sg (fun h => (hz h).2)]; rfl
 refine Rg 4 J <| bJ (eO J J) J <| bJ (eO J J) J <| bJ (fD J) J <| bJ (fD J) J <| Wn <| aB <| Rg 10 J <| aA (aU J J J J J) J <| aA (aM J J J J J) J <| aA (aW J J) J <| aA (dV J J) J <| bB (fun h11 => ?_) (fun h11 => ?_)
 rotate_left
 ·refine Um J J <| K1 J J <| K1 J J <| K1 J J <| K1 J J <| aA (bK J J) J <| Nk [2,3,4,5,17] J <| aX J <| aH <| Ck [2,3,4,5] J ?_
  exact J3 _
 refine Um J J <| aE J (aU J J J J J) J <| aE J (aM J J J J J) J <| aE J (aW J J) J <| aE J (dV J J) J <| bB (fun h16 => ?_) (fun h16 => ?_)
 rotate_left
 ·refine aA (bM J J) J <| Nk [2,3,4,5,17] J <| aX J <| aH <| Ck [2,3,4,5] J ?_
  exact J3 _
 refine aA (bM J J) J <| Nk [2,3,4,5,17] J <| aT J <| aB ?_
 have hia := fR (jG.1 h11)
 have hiw := fR (jG.1 h16)
 have sv := jG.1 h11
 have b1 : (v.tdiv w).natAbs ≤ v.natAbs := by rw [Int.natAbs_tdiv]; exact Nat.div_le_self _ _
 have b2 : (v.tmod w).natAbs ≤ v.natAbs := by rw [Int.natAbs_tmod]; exact Nat.mod_le _ _
 unfold smallN at sv
 refine bR (z := 14) J kR <| aC (aU J J J J J) J <| aC (cI v (aM J J J J J) hia) J <| aC (aU J J J J J) J <| aC (cI w (aM J J J J J) hiw) J <| aC (mD J J hw0 om) J <| aC (gS (cs := [_, _, _]) J J J J J) J <| aC (aU J J J J J) J <| aC (cI v (aM J J J J J) hia) J <| aC (aU J J J J J) J <| aC (cI w (aM J J J J J) hiw) J <| aC (oRem J J hw0) J <| aC (gS (cs := [_, _, _]) J J J J J) J <| cO (cP (cs' := [_, _, _]) J J J J J J J J) <| cO (cP (cs' := [_, _, _]) J J J J J J J J) <| bG (aQ kR) J <| Ck [4,5] J <| bI <| post (n := 0) (.inr J) J ?_ (by simp)
 rw [eM (v := v.tdiv w) (by unfold smallN; omega), eM (v := v.tmod w) (by unfold smallN; omega)]; rfl
theorem nless_run (v w : Int) (hv : len30 v < 1099511627775) (hw : len30 w < 1099511627775) : Run Tryz.prog T E0 (.call 137 [lvN v, lvN w] (lvN (v - w))) := by
 refine bL Tryz.func137 J J (dH J) <| Rg 3 J <| bJ (eO J J) J <| bJ (eO J J) J <| bJ (fD J) J <| Wn <| bR (z := 5) J kR <| aC (aM (l := .agg [_, _, _]) J J J J J) J <| aC (aM (l := .agg [_, _, _]) J J J J J) J <| aC (aK J (jU _) (by simp)) J <| aC (aK J (nplus_run v (-w) hv (by rw [oU]; exact hw)) (by simp)) J <| cO (cP (cs' := [_, _, _]) J J J J J J J J) <| bG (aQ kR) J <| aN <| post (n := 0) (.inr J) J ?_ (by simp)
 rw [Int.sub_eq_add_neg]; rfl
theorem ncmp_run (v w : Int) (hv : len30 v < 1099511627775) (hw : len30 w < 1099511627775) : Run Tryz.prog T E0 (.call 104 [lvN v, lvN w] (.v (.int .i64 (v - w).sign))) := by
 refine bL Tryz.func104 J J (dH J) <| Rg 3 J <| bJ (eO J J) J <| bJ (eO J J) J <| Ua J J <| Wn <| Rg 5 J <| aA (aM (l := .agg [_, _, _]) J J J J J) J <| aA (aM (l := .agg [_, _, _]) J J J J J) J <| aA (aK J (nless_run v w hv hw) (by simp)) J <| aA (aK J (eR _) (by simp)) J <| Ua J J <| Wn <| aN ?_
 exact post (n := 0) (.inr J) J J (by simp)
theorem nabs_run (v : Int) : Run Tryz.prog T E0 (.call 136 [lvN v] (lvN v.natAbs)) := by
 refine bL Tryz.func136 J J (dH J) <| Rg 2 J <| bJ (eO J J) J <| bJ (fD J) J <| Wn <| aB <| Rg 3 J <| aA (aM (l := .agg [_, _, _]) J J J J J) J <| aA (aK J (eR _) (by simp)) J <| aA (bZ J J) J <| bB (fun h5 => ?_) (fun h5 => ?_)
 rotate_left
 ·refine Wn <| aX J <| aH <| Rg 2 J <| aA (aM (l := .agg [_, _, _]) J J J J J) J <| bH (cP (cs' := [_, _, _]) J J J J J J J J) <| Wn <| aN <| post (n := 0) (.inr J) J ?_ (by simp)
  have : ¬ v < 0 := fun k => h5 (Int.sign_neg_iff.2 k)
  have e : (v.natAbs : Int) = v := by omega
  rw [e]; rfl
 refine Wn <| aT J <| aB <| Rg 3 J <| aA (aM (l := .agg [_, _, _]) J J J J J) J <| aA (aK J (jU _) (by simp)) J <| bH (cP (cs' := [_, _, _]) J J J J J J J J) <| Wn <| bI <| post (n := 0) (.inr J) J ?_ (by simp)
 have := Int.sign_neg_iff.1 h5
 have e : (v.natAbs : Int) = -v := by omega
 rw [e]; rfl
theorem ngcd_run (v w : Int) (hv : len30 v < 549755813888) (hw : len30 w < 549755813888) : Run Tryz.prog T E0 (.call 103 [lvN v, lvN w] (lvN (v.gcd w : Nat))) := by
 refine bL Tryz.func103 J J (dH J) <| Rg 3 J <| bJ (eO J J) J <| bJ (eO J J) J <| bJ (fD J) J <| Wn <| aL <| bF (α := Int × Int) (fun ⟨a, b⟩ => [(2, .ptr 0 0), (3, .ptr 1 0), (4, .ptr 2 0)]) (fun ⟨a, b⟩ => [(0, { cells := (lvN a).cells, sz := 3, elem := 33, st := 0 }), (1, { cells := (lvN b).cells, sz := 3, elem := 33, st := 0 }), (2, { cells := [.v (.int .i64 0), .v (.bool false), .sl 0 []], sz := 3, elem := 33, st := 0 })]) (fun ⟨a, b⟩ n => Int.gcd a b = v.gcd w ∧ len30 a < 549755813888 ∧ len30 b < 549755813888 ∧ 3 ≤ n) (fun ⟨a, b⟩ => b.natAbs) (v, w) ⟨J, J, J, trivial⟩ ⟨J, J, J, trivial⟩ ⟨rfl, hv, hw, om⟩ ?_
 rintro ⟨a, b⟩ n hF
 change WC _ _ _ _ _ (_ :: _) (_ :: _) n _
 obtain ⟨hg, hla, hlb, hn3⟩ := hF
 refine aB <| Rg 3 J <| aA (aM (l := .agg [_, _, _]) J J J J J) J <| aA (aK J (eR _) (by simp)) J <| aA (gJ J J) J <| bB (fun h9 => ?_) (fun h9 => ?_)
 rotate_left
 ·refine Wn <| aX J <| bA <| aS <| aR J <| Rg 3 J <| aA (aM (l := .agg [_, _, _]) J J J J J) J <| aA (aK J (nabs_run a) (by simp)) J <| bH (cP (cs' := [_, _, _]) J J J J J J J J) <| Wn <| aN <| post (n := 0) (.inr J) J ?_ (by simp)
  have hb0 : b = 0 := by
   have := Int.sign_eq_zero_iff_zero (a := b); omega
  subst hb0
  rw [Int.gcd_zero_right] at hg
  rw [← hg]; rfl
 refine Wn <| aT J <| aH <| dL ?_
 have hb0 : b ≠ 0 := by
  intro h; subst h; simp at h9
 have hlm : len30 (a.tmod b) < 549755813888 := by have := len30_tmod a b; omega
 have hlt : (a.tmod b).natAbs < b.natAbs := by rw [Int.natAbs_tmod]; exact Nat.mod_lt _ om
 refine Rg 10 J <| aA (aM (l := .agg [_, _, _]) J J J J J) J <| aA (aM (l := .agg [_, _, _]) J J J J J) J <| aA (aK J (pC a b hb0 hla hlb) (by simp)) J <| Um J J <| aA (fB J J) J <| aA (fB J J) J <| bJ (fD J) J <| bJ (fD J) J <| bH (cP (cs' := [_, _, _]) J J J (g1 om g0) J J J J) <| bH (cP (cs' := [_, _, _]) J J J (g1 om g0) J J J J) <| Wn <| dN (z := 4) J kR <| aC (aM (l := .agg [_, _, _]) J J (g1 om (g1 om (g1 om (g1 om (g1 (by decide) g0))))) J J) J <| aC (aM (l := .agg [_, _, _]) J J g0 J J) J <| cO (cP (cs' := [_, _, _]) J J J (g1 om (g1 om (g1 om (g1 om g0)))) J J J J) <| cO (cP (cs' := [_, _, _]) J J J (g1 (by decide) (g1 om (g1 om (g1 om (g1 om (g1 (by decide) g0)))))) J J J J) <| bG (aQ kR) J <| dG <| aG <| ⟨⟨b, a.tmod b⟩, ⟨J, J, J, trivial⟩, ⟨g1 (by decide) g0, g0, g1 (by decide) (g1 (by decide) (g1 om (g1 om (g1 om (g1 om (g1 (by decide) (g1 (by decide) g0))))))), trivial⟩, ⟨by rw [gcd_tmod, hg], hlb, hlm, om⟩, hlt⟩
theorem nmake_run (v w : Int) (hw0 : w ≠ 0) (hv : len30 v < 549755813888) (hw : len30 w < 549755813888) : Run Tryz.prog T E0 (.call 106 [lvN v, lvN w] (lvQ (Rat.divInt v w))) := by
 refine bL Tryz.func106 J J (dH J) ?_
 have J3 : ∀ (a b : Int) (hb : 0 < b) (hab : Rat.divInt v w = Rat.divInt a b) (ha1 : len30 a < 549755813888) (hb1 : len30 b < 549755813888) (n : Nat) (hn : 3 ≤ n), WC Tryz.prog T E0 Tryz.f106.ntmps (codeR (codeR (codeOf Tryz.f106))) [(2, .ptr 0 0), (3, .ptr 1 0), (4, .ptr 2 0)] [(0, { cells := (lvN a).cells, sz := 3, elem := 33, st := 0 }), (1, { cells := (lvN b).cells, sz := 3, elem := 33, st := 0 }), (2, { cells := [.v (.int .i64 0), .v (.bool false), .sl 0 [], .v (.int .i64 0), .v (.bool false), .sl 0 []], sz := 6, elem := 35, st := 0 })] n (Post T Tryz.f106.results.toList (lvQ (Rat.divInt v w))) := by
  intro a b hb hab ha1 hb1 n hn
  obtain ⟨hm1, hm2⟩ := make_law (p := a) hb
  have hgp : 0 < a.gcd b := Int.gcd_pos_of_ne_zero_right _ om
  have hlg : len30 ((a.gcd b : Nat) : Int) < 549755813888 := by
   have h1 : a.gcd b ≤ b.natAbs := Nat.le_of_dvd om (Nat.gcd_dvd_right _ _)
   have := len30_mono (v := ((a.gcd b : Nat) : Int)) (w := b) (by simpa using h1)
   omega
  obtain ⟨g, hg⟩ : ∃ g : Int, g = (a.gcd b : Nat) := ⟨_, rfl⟩
  rw [← hg] at hm1 hm2 hlg
  have l1 : len30 (1 : Int) ≤ 3 := pU (by decide)
  refine Rg 5 J <| aA (aM (l := .agg [_, _, _]) J J g0 J J) J <| aA (aM (l := .agg [_, _, _]) J J (g1 (by decide) g0) J J) J <| aA (aK J (hg ▸ ngcd_run a b ha1 hb1) (by simp)) J <| bJ (fD J) J <| bH (cP (cs' := [_, _, _]) J J J g0 J J J J) <| Wn <| aB <| bR (z := 4) J kR <| aC (aM (l := .agg [_, _, _]) J J g0 J J) J <| aC (aK J (jH _ (by unfold I64; omega)) (by simp)) J <| aC (aK J (ncmp_run g 1 om om) (by simp)) J <| aC (gJ J J) J <| jD (fun h19 => ?_) (fun h19 => ?_)
  rotate_left
  ·refine bG (aQ kR) J <| aX J <| aH <| Rg 4 J <| aA (aM (l := .agg [_, _, _]) J J (g1 om (g1 om g0)) J J) J <| aA (aM (l := .agg [_, _, _]) J J (g1 om (g1 om (g1 (by decide) g0))) J J) J <| aA (gS (cs := [_, _, _, _, _, _]) J J J J J) J <| bH (cP (cs' := [_, _, _, _, _, _]) J J J (g1 om (g1 om (g1 (by decide) (g1 (by decide) g0)))) J J J J) <| Wn <| aN <| post (n := 0) (.inr J) J ?_ (by simp)
   have hg1 : g = 1 := by
    have := Int.sign_eq_zero_iff_zero (a := g - 1); omega
   rw [hg1, Int.tdiv_one] at hm1 hm2
   rw [hab, lvQ_eq, ← hm1, ← hm2]; rfl
  refine bG (aQ kR) J <| aT J <| aB <| Rg 7 J <| aA (aM (l := .agg [_, _, _]) J J (g1 om (g1 om g0)) J J) J <| aA (aM (l := .agg [_, _, _]) J J g0 J J) J <| aA (aK J (pC a g om ha1 hlg) (by simp)) J <| Um J J <| aA (fB J J) J <| aA (fB J J) J <| bH (cP (cs' := [_, _, _]) J J J (g1 om (g1 om g0)) J J J J) <| Nk [2,3,4,5] J <| Rg 7 J <| aA (aM (l := .agg [_, _, _]) J J (g1 (by decide) (g1 om (g1 om (g1 (by decide) g0)))) J J) J <| aA (aM (l := .agg [_, _, _]) J J (g1 om g0) J J) J <| aA (aK J (pC b g om hb1 hlg) (by simp)) J <| Um J J <| aA (fB J J) J <| aA (fB J J) J <| bH (cP (cs' := [_, _, _]) J J J (g1 (by decide) (g1 om (g1 om (g1 (by decide) g0)))) J J J J) <| Wn <| Rg 4 J <| aA (aM (l := .agg [_, _, _]) J J (g1 (by decide) g0) J J) J ?_
  refine aA (aM (l := .agg [_, _, _]) J J g0 J J) J <| aA (gS (cs := [_, _, _, _, _, _]) J J J J J) J <| bH (cP (cs' := [_, _, _, _, _, _]) J J J (g1 (by decide) (g1 (by decide) (g1 om (g1 om (g1 (by decide) (g1 (by decide) g0)))))) J J J J) <| Wn <| aN <| post (n := 0) (.inr J) J ?_ (by simp)
  rw [hab, lvQ_eq, ← hm1, ← hm2]; rfl
 refine Rg 3 J <| bJ (eO J J) J <| bJ (eO J J) J <| bJ (fD J) J <| Wn <| aB <| Rg 3 J <| aA (aM (l := .agg [_, _, _]) J J J J J) J <| aA (aK J (eR _) (by simp)) J <| aA (bZ J J) J <| bB (fun h8 => ?_) (fun h8 => ?_)
 rotate_left
 ·refine Wn <| aX J <| aH <| Ck [2,3,4] J ?_
  have hw1 : ¬ w < 0 := fun k => h8 (Int.sign_neg_iff.2 k)
  refine iW _ ?_ (J3 v w om J hv hw _ om)
  exact ⟨J, J, J, trivial⟩
 refine Wn <| aT J <| bR (z := 6) J kR <| aC (aM (l := .agg [_, _, _]) J J J J J) J <| aC (aK J (jU _) (by simp)) J <| aC (aM (l := .agg [_, _, _]) J J J J J) J <| aC (aK J (jU _) (by simp)) J <| cO (cP (cs' := [_, _, _]) J J J J J J J J) <| cO (cP (cs' := [_, _, _]) J J J J J J J J) <| bG (aQ kR) J <| Ck [2,3,4] J ?_
 have hw1 := Int.sign_neg_iff.1 h8
 refine iW _ ?_ (J3 (-v) (-w) om (divInt_pos hw1) (by rw [oU]; exact hv) (by rw [oU]; exact hw) _ om)
 exact ⟨J, J, J, trivial⟩
theorem nK (v : Int) (hv : I64 v) : Run Tryz.prog T E0 (.call 11 [.v (.int .i64 v)] (lvQ (v : Rat))) := by
 refine bL Tryz.func11 J J (dH J) <| Rg 1 J <| bJ (fD J) J <| Wn <| Rg 5 J <| Um J J <| aA (aK J (jH v hv) (by simp)) J <| aA (aK J (jH _ (by unfold I64; omega)) (by simp)) J <| aA (gS (cs := [_, _, _, _, _, _]) J J J J J) J <| bH (cP (cs' := [_, _, _, _, _, _]) J J J J J J J J) <| Wn <| aN <| post (n := 0) (.inr J) J ?_ (by simp)
 rfl
theorem pD (x y : Rat) (hx : Bd 34359738368 x) (hy : Bd 34359738368 y) : Run Tryz.prog T E0 (.call 71 [lvQ x, lvQ y] (lvQ (x + y))) := by
 obtain ⟨hx1, hx2⟩ := hx.l30
 obtain ⟨hy1, hy2⟩ := hy.l30
 have m1 := kO x.num y.den
 have m2 := kO y.num x.den
 have m3 := len30_add (x.num * y.den) (y.num * x.den)
 have m4 := kO x.den y.den
 refine bL Tryz.func71 J J (dH J) <| Rg 3 J <| bJ (eO J J) J <| bJ (eO J J) J <| bJ (fD J) J <| Wn <| bR (z := 18) J kR <| aC (aU J J J J J) J <| aC (aM (l := .agg [_, _, _]) J J J J J) J <| aC (aU J J J J J) J <| aC (aM (l := .agg [_, _, _]) J J J J J) J <| aC (aK J (jW x.num y.den om om) (by simp)) J <| aC (aU J J J J J) J <| aC (aM (l := .agg [_, _, _]) J J J J J) J <| aC (aU J J J J J) J <| aC (aM (l := .agg [_, _, _]) J J J J J) J <| aC (aK J (jW y.num x.den om om) (by simp)) J <| aC (aK J (nplus_run (x.num * y.den) (y.num * x.den) om om) (by simp)) J <| aC (aU J J J J J) J <| aC (aM (l := .agg [_, _, _]) J J J J J) J <| aC (aU J J J J J) J <| aC (aM (l := .agg [_, _, _]) J J J J J) J <| aC (aK J (jW x.den y.den om om) (by simp)) J <| aC (aK J (nmake_run (x.num * y.den + y.num * x.den) (x.den * y.den) (Int.mul_ne_zero (fZ _) (fZ _)) om om) (by simp)) J ?_
 refine cO (cP (cs' := [_, _, _, _, _, _]) J J J J J J J J) <| bG (aQ kR) J <| Ck [4] J <| aN <| post (n := 0) (.inr J) J ?_ (by simp)
 rw [← add_raw]; rfl
theorem nrmul_run (x y : Rat) (hx : Bd 34359738368 x) (hy : Bd 34359738368 y) : Run Tryz.prog T E0 (.call 72 [lvQ x, lvQ y] (lvQ (x * y))) := by
 obtain ⟨hx1, hx2⟩ := hx.l30
 obtain ⟨hy1, hy2⟩ := hy.l30
 have m1 := kO x.num y.num
 have m4 := kO x.den y.den
 refine bL Tryz.func72 J J (dH J) <| Rg 3 J <| bJ (eO J J) J <| bJ (eO J J) J <| bJ (fD J) J <| Wn <| bR (z := 12) J kR <| aC (aU J J J J J) J <| aC (aM (l := .agg [_, _, _]) J J J J J) J <| aC (aU J J J J J) J <| aC (aM (l := .agg [_, _, _]) J J J J J) J <| aC (aK J (jW x.num y.num om om) (by simp)) J <| aC (aU J J J J J) J <| aC (aM (l := .agg [_, _, _]) J J J J J) J <| aC (aU J J J J J) J <| aC (aM (l := .agg [_, _, _]) J J J J J) J <| aC (aK J (jW x.den y.den om om) (by simp)) J <| aC (aK J (nmake_run (x.num * y.num) (x.den * y.den) (Int.mul_ne_zero (fZ _) (fZ _)) om om) (by simp)) J <| cO (cP (cs' := [_, _, _, _, _, _]) J J J J J J J J) <| bG (aQ kR) J <| Ck [4] J <| aN <| post (n := 0) (.inr J) J ?_ (by simp)
 rw [← mul_raw]; rfl
theorem nrneg_run (x : Rat) : Run Tryz.prog T E0 (.call 38 [lvQ x] (lvQ (-x))) := by
 refine bL Tryz.func38 J J (dH J) <| Rg 2 J <| bJ (eO J J) J <| bJ (fD J) J <| Wn <| bR (z := 7) J kR <| aC (aU J J J J J) J <| aC (aM (l := .agg [_, _, _]) J J J J J) J <| aC (aK J (jU x.num) (by simp)) J <| aC (aU J J J J J) J <| aC (aM (l := .agg [_, _, _]) J J J J J) J <| aC (gS (cs := [_, _, _, _, _, _]) J J J J J) J <| cO (cP (cs' := [_, _, _, _, _, _]) J J J J J J J J) <| bG (aQ kR) J <| aN <| post (n := 0) (.inr J) J ?_ (by simp)
 rw [lvQ_eq (-x), Rat.neg_num, Rat.neg_den]; rfl
theorem iP (x : Rat) : Run Tryz.prog T E0 (.call 64 [lvQ x] (.v (.int .i64 x.num.sign))) := by
 refine bL Tryz.func64 J J (dH J) <| Rg 2 J <| bJ (eO J J) J <| Ua J J <| Wn <| Rg 4 J <| aA (aU J J J J J) J <| aA (aM (l := .agg [_, _, _]) J J J J J) J <| aA (aK J (eR x.num) (by simp)) J <| Ua J J <| Wn <| aN ?_
 exact post (n := 0) (.inr J) J J (by simp)
theorem nrless_run (x y : Rat) (hx : Bd 34359738368 x) (hy : Bd 34359738368 y) : Run Tryz.prog T E0 (.call 67 [lvQ x, lvQ y] (lvQ (x - y))) := by
 refine bL Tryz.func67 J J (dH J) <| Rg 3 J <| bJ (eO J J) J <| bJ (eO J J) J <| bJ (fD J) J <| Wn <| bR (z := 5) J kR <| aC (aM (l := .agg [_, _, _, _, _, _]) J J J J J) J <| aC (aM (l := .agg [_, _, _, _, _, _]) J J J J J) J <| aC (aK J (nrneg_run y) (by simp)) J <| aC (aK J (pD x (-y) hx hy.neg) (by simp)) J <| cO (cP (cs' := [_, _, _, _, _, _]) J J J J J J J J) <| bG (aQ kR) J <| aN <| post (n := 0) (.inr J) J ?_ (by simp)
 rw [Rat.sub_eq_add_neg]; rfl
theorem mQ (x y : Rat) (hx : Bd 34359738368 x) (hy : Bd 34359738368 y) : Run Tryz.prog T E0 (.call 19 [lvQ x, lvQ y] (.v (.int .i64 (x - y).num.sign))) := by
 refine bL Tryz.func19 J J (dH J) <| Rg 3 J <| bJ (eO J J) J <| bJ (eO J J) J <| Ua J J <| Wn <| Rg 5 J <| aA (aM (l := .agg [_, _, _, _, _, _]) J J J J J) J <| aA (aM (l := .agg [_, _, _, _, _, _]) J J J J J) J <| aA (aK J (nrless_run x y hx hy) (by simp)) J <| aA (aK J (iP (x - y)) (by simp)) J <| Ua J J <| Wn <| aN ?_
 exact post (n := 0) (.inr J) J J (by simp)
theorem pW (a : NM) (h1 : I64 a.1) (h2 : I64 a.2) : Run Tryz.prog T E0 (.call 66 [lvM a] (.v (.bool (decide (VN a))))) := by
 have m1 := len30_i64 h1
 have m2 := len30_i64 h2
 have l1 : len30 (1 : Int) ≤ 3 := pU (by decide)
 have l2 : len30 ((a.1.gcd a.2 : Nat) : Int) ≤ 3 := jR (by
  unfold I64 at h1 h2
  by_cases h0 : a.2 = 0
  ·rw [h0]; simp; omega
  ·have h1 : a.1.gcd a.2 ≤ a.2.natAbs := Nat.le_of_dvd om (Nat.gcd_dvd_right _ _)
   simp; omega)
 have h1' := h1
 have h2' := h2
 unfold I64 at h1 h2
 refine bL Tryz.func66 J J (dH J) <| Rg 2 J <| bJ (eO J J) J <| Ua J J <| Wn <| aB <| Rg 18 J <| aA (aU J J J J J) J <| aA (aM J J J J J) J <| aA (bZ J J) J <| bB (fun h5 => ?_) (fun h5 => ?_)
 ·refine Um J J <| K1 J J <| K1 J J <| K1 J J <| aA (bM J J) J <| Um J J <| K1 J J <| K1 J J <| K1 J J <| aA (bM J J) J <| Um J J <| K1 J J <| K1 J J <| K1 J J <| aA (bM J J) J <| Nk [1,20] J <| aT J <| aB ?_
  have hV : ¬ VN a := by unfold VN; omega
  refine Rg 1 J <| Ua J J <| Wn <| bI <| post (n := 0) (.inr J) J ?_ (by simp)
  exact congrArg (fun z => LV.v (.bool z)) (decide_eq_false hV).symm
 refine Um J J <| aE J (aU J J J J J) J <| aE J (aM J J J J J) J <| aE J (eB J J) J <| bB (fun h9 => ?_) (fun h9 => ?_)
 ·refine aA (bK J J) J <| Um J J <| K1 J J <| K1 J J <| K1 J J <| aA (bM J J) J <| Um J J <| K1 J J <| K1 J J <| K1 J J <| aA (bM J J) J <| Nk [1,20] J <| aT J <| aB ?_
  have hV : ¬ VN a := by unfold VN; omega
  refine Rg 1 J <| Ua J J <| Wn <| bI <| post (n := 0) (.inr J) J ?_ (by simp)
  exact congrArg (fun z => LV.v (.bool z)) (decide_eq_false hV).symm
 refine aA (bK J J) J <| Um J J <| aE J (aU J J J J J) J <| aE J (aM J J J J J) J <| aE J (eB J J) J <| bB (fun h14 => ?_) (fun h14 => ?_)
 ·refine aA (bK J J) J <| Um J J <| K1 J J <| K1 J J <| K1 J J <| aA (bM J J) J <| Nk [1,20] J <| aT J <| aB ?_
  have hV : ¬ VN a := by unfold VN; omega
  refine Rg 1 J <| Ua J J <| Wn <| bI <| post (n := 0) (.inr J) J ?_ (by simp)
  exact congrArg (fun z => LV.v (.bool z)) (decide_eq_false hV).symm
 refine aA (bK J J) J <| Um J J <| aE J (aU J J J J J) J <| aE J (aM J J J J J) J <| aE J (bZ J J) J <| bB (fun h19 => ?_) (fun h19 => ?_)
 ·refine aA (bK J J) J <| Nk [1,20] J <| aT J <| aB ?_
  have hV : ¬ VN a := by unfold VN; omega
  refine Rg 1 J <| Ua J J <| Wn <| bI <| post (n := 0) (.inr J) J ?_ (by simp)
  exact congrArg (fun z => LV.v (.bool z)) (decide_eq_false hV).symm
 refine aA (bK J J) J <| Nk [1,20] J <| aX J <| aH <| bR (z := 11) J kR <| aC (aU J J J J J) J <| aC (aM J J J J J) J <| aC (aK J (jH _ (by unfold I64; omega)) (by simp)) J <| aC (aU J J J J J) J <| aC (aM J J J J J) J <| aC (aK J (jH _ (by unfold I64; omega)) (by simp)) J <| aC (aK J (ngcd_run a.1 a.2 om om) (by simp)) J <| aC (aK J (jH _ (by unfold I64; omega)) (by simp)) J <| aC (aK J (ncmp_run (a.1.gcd a.2 : Nat) 1 om om) (by simp)) J <| aC (dV J J) J <| aC (gX J) J <| bG (aQ kR) J <| aN <| post (n := 0) (.inr J) J ?_ (by simp)
 have hV : decide ((((a.1.gcd a.2 : Nat) : Int) - 1).sign = 0) = decide (VN a) := by
  apply decide_eq_decide.2; rw [gcd_one]; unfold VN; omega
 exact congrArg (fun z => LV.v (.bool z)) hV
theorem oG (a : NM) (h1 : I64 a.1) (h2 : I64 a.2) (hv : VN a) : Run Tryz.prog T E0 (.call 18 [lvM a] (lvQ (Rat.divInt a.1 a.2))) := by
 refine bL Tryz.func18 J J (dH J) <| Rg 2 J <| bJ (eO J J) J <| bJ (fD J) J <| Wn <| bR (z := 8) J kR <| aC (aU J J J J J) J <| aC (aM J J J J J) J <| aC (aK J (jH a.1 h1) (by simp)) J <| aC (aU J J J J J) J <| aC (aM J J J J J) J <| aC (aK J (jH a.2 h2) (by simp)) J <| aC (gS (cs := [_, _, _, _, _, _]) J J J J J) J <| cO (cP (cs' := [_, _, _, _, _, _]) J J J J J J J J) <| bG (aQ kR) J <| aN <| post (n := 0) (.inr J) J ?_ (by simp)
 obtain ⟨e1, e2⟩ := valid_rat hv
 rw [lvQ_eq, e1, e2]; rfl
end Go.Proofs.YtohfklpfeilcpaaGreat
namespace Go.Proofs.YtohfklpfeilcpaaGreat
open Go.Ab Go.RowKit
theorem idx1_run (k : Nat) (ns : List NM) (g : FuncId) (cap : List LV) (p : NM → Bool) (hcap : ∀ c, c ∈ cap → Go.Ab.Data c) (ln : ns.length < 4611686018427387904) (hp : ∀ a, a ∈ ns → Run Tryz.prog T E0 (.call g ([lvM a] ++ cap) (.v (.bool (p a))))) : Run Tryz.prog T E0 (.call 131 [.sl k (ns.map mc), .fn (.func g) [] cap] (.v (.int .i64 (fidx p ns)))) := by
 refine bL Tryz.func131 J J (dH J) <| Rg 1 J <| Ua J J <| Wn <| aB <| Rg 3 J <| Um J J <| aA (aW J J) J <| Um J J <| Wn <| aL <| bF (α := Nat) (fun i => [(0, .sl k (ns.map mc)), (1, .fn (.func g) [] cap), (7, .v (.int .i64 (ns.length : Int))), (8, .v (.int .i64 (i : Int)))]) (fun i => []) (fun i n => i ≤ ns.length ∧ (ns.take i).any p = false) (fun i => ns.length - i) (0) ⟨J, J, J, J, trivial⟩ trivial ⟨Nat.zero_le _, by simp⟩ ?_
 rintro i n hF
 change WC _ _ _ _ _ (_ :: _) ([]) n _
 obtain ⟨hi, ha⟩ := hF
 refine Rg 1 J <| aA (bZ J J) J <| bB (fun h9 => ?_) (fun h9 => ?_)
 rotate_left
 ·refine Wn <| aX J <| bA <| aS <| aR J <| Rg 1 J <| Ua J J <| Wn <| aN <| post (n := 0) (.inr J) J ?_ (by first | (simp [-cB]; done) | simp)
  exact congrArg (fun z => LV.v (.int .i64 z)) (fidx_none ha om).symm
 refine Wn <| aT J <| aH <| aL <| Rg 2 J <| Um J J <| Ua J J <| Wn <| Rg 6 J <| Um J J <| Um J J <| Um J J <| aA (cG J J J J J om J) J <| aA (dY (l := .agg [_, _]) J J J) J <| aA (oCallV J J (hp _ (bS om)) (aJ (by simpa [-cB] using hcap))) J <| dT (fun h16 => ?_) (fun h16 => ?_)
 rotate_left
 ·refine Wn <| bV J <| cA <| aF <| aI (z := 2) J <| aA (cI (((i + 1 : Nat) : Int)) (aO J J om) om) J <| Um J J <| Wn <| aG <| ⟨i + 1, ⟨J, J, J, J, trivial⟩, trivial, ⟨om, take_any ha om h16⟩, by show ns.length - (i + 1) < ns.length - i; omega⟩
 refine Wn <| bY J <| Rg 2 J <| Um J J <| Ua J J <| Nk [4] J <| aN <| aP <| cR <| aP <| post (n := 0) (.inr J) J ?_ (by first | (simp [-cB]; done) | simp)
 exact congrArg (fun z => LV.v (.int .i64 z)) (fidx_hit ha om h16).symm
theorem con1_run (k : Nat) (ns : List NM) (g : FuncId) (cap : List LV) (p : NM → Bool) (hcap : ∀ c, c ∈ cap → Go.Ab.Data c) (ln : ns.length < 4611686018427387904) (hp : ∀ a, a ∈ ns → Run Tryz.prog T E0 (.call g ([lvM a] ++ cap) (.v (.bool (p a))))) : Run Tryz.prog T E0 (.call 92 [.sl k (ns.map mc), .fn (.func g) [] cap] (.v (.bool (ns.any p)))) := by
 refine bL Tryz.func92 J J (dH J) <| Rg 1 J <| Ua J J <| Wn <| Rg 5 J <| Um J J <| Um J J <| aA (aK J (idx1_run k ns g cap p hcap ln hp) (by simpa [-cB] using hcap)) J <| aA (hH J J) J <| Ua J J <| Wn <| aN <| post (n := 0) (.inr J) J ?_ (by first | (simp [-cB]; done) | simp)
 exact congrArg (fun z => LV.v (.bool z)) (pP p ns)
theorem not1_run (a : NM) (g : FuncId) (cap : List LV) (b : Bool) (hcap : ∀ c, c ∈ cap → Go.Ab.Data c) (hg : Run Tryz.prog T E0 (.call g ([lvM a] ++ cap) (.v (.bool b)))) : Run Tryz.prog T E0 (.call 138 [lvM a, .ro [.fn (.func g) [] cap]] (.v (.bool (!b)))) := by
 refine bL Tryz.func138 J J (dH J) <| Rg 2 J <| bJ (eO J J) J <| Ua J J <| Wn <| Rg 5 J <| aA (dY (cs := [.fn (.func g) [] cap]) (l := .fn (.func g) [] cap) J J J) J <| aA (aM (l := .agg [_, _]) J J J J J) J <| aA (oCallV J J hg (aJ (by simpa [-cB] using hcap))) J <| aA (dE J) J <| Ua J J <| Wn <| aN ?_
 exact post (n := 0) (.inr J) J J (by simp)
theorem all1_run (k : Nat) (ns : List NM) (g : FuncId) (cap : List LV) (p : NM → Bool) (hcap : ∀ c, c ∈ cap → Go.Ab.Data c) (ln : ns.length < 4611686018427387904) (hp : ∀ a, a ∈ ns → Run Tryz.prog T E0 (.call g ([lvM a] ++ cap) (.v (.bool (p a))))) : Run Tryz.prog T E0 (.call 105 [.sl k (ns.map mc), .fn (.func g) [] cap] (.v (.bool (ns.all p)))) := by
 refine bL Tryz.func105 J J (dH J) <| Rg 2 J <| bJ (eO J J) J <| Ua J J <| Wn <| Rg 5 J <| Um J J <| aA (oMf J) J <| bJ (mC [.sl k (ns.map mc), .fn (.func 138) [] [.ro [.fn (.func g) [] cap]]] [(0, { cells := [.fn (.func g) [] cap], sz := 1, elem := 111, st := 1 })] J (con1_run k ns 138 [.ro [.fn (.func g) [] cap]] (fun a => !p a) (by simpa [-cB] using hcap) ln (fun a ha => not1_run a g cap (p a) hcap (hp a ha))) (.data (by simp [-cB]) (.fnp g0 (by show (0 : Nat) ≠ 2; decide) (by simp [keys]) (fun c hc => by have hc' := List.mem_singleton.1 hc; subst hc'; exact .fn _ _ _ (by simp) hcap) .nil)) (by intro q hq; rw [List.mem_singleton] at hq; subst hq; exact ⟨_, g0, by show (0 : Nat) ≠ 2; decide, rfl⟩)) J <| aA (dE J) J <| Ua J J <| Wn <| aN <| post (n := 0) (.inr J) J ?_ (by first | (simp [-cB]; done) | simp)
 exact congrArg (fun z => LV.v (.bool z)) (qN p ns)
theorem idx2_run (k : Nat) (ns : List M1) (g : FuncId) (cap : List LV) (p : M1 → Bool) (hcap : ∀ c, c ∈ cap → Go.Ab.Data c) (ln : ns.length < 4611686018427387904) (hp : ∀ a, a ∈ ns → Run Tryz.prog T E0 (.call g ([.sl a.1 (a.2.map mc)] ++ cap) (.v (.bool (p a))))) : Run Tryz.prog T E0 (.call 96 [.sl k (ns.map fM), .fn (.func g) [] cap] (.v (.int .i64 (fidx p ns)))) := by
 refine bL Tryz.func96 J J (dH J) <| Rg 1 J <| Ua J J <| Wn <| aB <| Rg 3 J <| Um J J <| aA (aW J J) J <| Um J J <| Wn <| aL <| bF (α := Nat) (fun i => [(0, .sl k (ns.map fM)), (1, .fn (.func g) [] cap), (7, .v (.int .i64 (ns.length : Int))), (8, .v (.int .i64 (i : Int)))]) (fun i => []) (fun i n => i ≤ ns.length ∧ (ns.take i).any p = false) (fun i => ns.length - i) (0) ⟨J, J, J, J, trivial⟩ trivial ⟨Nat.zero_le _, by simp⟩ ?_
 rintro i n hF
 change WC _ _ _ _ _ (_ :: _) ([]) n _
 obtain ⟨hi, ha⟩ := hF
 refine Rg 1 J <| aA (bZ J J) J <| bB (fun h9 => ?_) (fun h9 => ?_)
 rotate_left
 ·refine Wn <| aX J <| bA <| aS <| aR J <| Rg 1 J <| Ua J J <| Wn <| aN <| post (n := 0) (.inr J) J ?_ (by first | (simp [-cB]; done) | simp)
  exact congrArg (fun z => LV.v (.int .i64 z)) (fidx_none ha om).symm
 refine Wn <| aT J <| aH <| aL <| Rg 2 J <| Um J J <| Ua J J <| Wn <| Rg 6 J <| Um J J <| Um J J <| Um J J <| aA (cG J J J J J om J) J <| aA (dY J J J) J <| aA (oCallV J J (hp _ (bS om)) (aJ (by simpa [-cB] using hcap))) J <| dT (fun h16 => ?_) (fun h16 => ?_)
 rotate_left
 ·refine Wn <| bV J <| cA <| aF <| aI (z := 2) J <| aA (cI (((i + 1 : Nat) : Int)) (aO J J om) om) J <| Um J J <| Wn <| aG <| ⟨i + 1, ⟨J, J, J, J, trivial⟩, trivial, ⟨om, take_any ha om h16⟩, by show ns.length - (i + 1) < ns.length - i; omega⟩
 refine Wn <| bY J <| Rg 2 J <| Um J J <| Ua J J <| Nk [4] J <| aN <| aP <| cR <| aP <| post (n := 0) (.inr J) J ?_ (by first | (simp [-cB]; done) | simp)
 exact congrArg (fun z => LV.v (.int .i64 z)) (fidx_hit ha om h16).symm
theorem rD (k : Nat) (ns : List M1) (g : FuncId) (cap : List LV) (p : M1 → Bool) (hcap : ∀ c, c ∈ cap → Go.Ab.Data c) (ln : ns.length < 4611686018427387904) (hp : ∀ a, a ∈ ns → Run Tryz.prog T E0 (.call g ([.sl a.1 (a.2.map mc)] ++ cap) (.v (.bool (p a))))) : Run Tryz.prog T E0 (.call 57 [.sl k (ns.map fM), .fn (.func g) [] cap] (.v (.bool (ns.any p)))) := by
 refine bL Tryz.func57 J J (dH J) <| Rg 1 J <| Ua J J <| Wn <| Rg 5 J <| Um J J <| Um J J <| aA (aK J (idx2_run k ns g cap p hcap ln hp) (by simpa [-cB] using hcap)) J <| aA (hH J J) J <| Ua J J <| Wn <| aN <| post (n := 0) (.inr J) J ?_ (by first | (simp [-cB]; done) | simp)
 exact congrArg (fun z => LV.v (.bool z)) (pP p ns)
theorem not2_run (a : M1) (g : FuncId) (cap : List LV) (b : Bool) (hcap : ∀ c, c ∈ cap → Go.Ab.Data c) (hg : Run Tryz.prog T E0 (.call g ([.sl a.1 (a.2.map mc)] ++ cap) (.v (.bool b)))) : Run Tryz.prog T E0 (.call 147 [.sl a.1 (a.2.map mc), .ro [.fn (.func g) [] cap]] (.v (.bool (!b)))) := by
 refine bL Tryz.func147 J J (dH J) <| Rg 1 J <| Ua J J <| Wn <| Rg 5 J <| aA (dY (cs := [.fn (.func g) [] cap]) (l := .fn (.func g) [] cap) J J J) J <| Um J J <| aA (oCallV J J hg (aJ (by simpa [-cB] using hcap))) J <| aA (dE J) J <| Ua J J <| Wn <| aN ?_
 exact post (n := 0) (.inr J) J J (by simp)
theorem all2_run (k : Nat) (ns : List M1) (g : FuncId) (cap : List LV) (p : M1 → Bool) (hcap : ∀ c, c ∈ cap → Go.Ab.Data c) (ln : ns.length < 4611686018427387904) (hp : ∀ a, a ∈ ns → Run Tryz.prog T E0 (.call g ([.sl a.1 (a.2.map mc)] ++ cap) (.v (.bool (p a))))) : Run Tryz.prog T E0 (.call 114 [.sl k (ns.map fM), .fn (.func g) [] cap] (.v (.bool (ns.all p)))) := by
 refine bL Tryz.func114 J J (dH J) <| Rg 2 J <| bJ (eO J J) J <| Ua J J <| Wn <| Rg 5 J <| Um J J <| aA (oMf J) J <| bJ (mC [.sl k (ns.map fM), .fn (.func 147) [] [.ro [.fn (.func g) [] cap]]] [(0, { cells := [.fn (.func g) [] cap], sz := 1, elem := 54, st := 1 })] J (rD k ns 147 [.ro [.fn (.func g) [] cap]] (fun a => !p a) (by simpa [-cB] using hcap) ln (fun a ha => not2_run a g cap (p a) hcap (hp a ha))) (.data (by simp [-cB]) (.fnp g0 (by show (0 : Nat) ≠ 2; decide) (by simp [keys]) (fun c hc => by have hc' := List.mem_singleton.1 hc; subst hc'; exact .fn _ _ _ (by simp) hcap) .nil)) (by intro q hq; rw [List.mem_singleton] at hq; subst hq; exact ⟨_, g0, by show (0 : Nat) ≠ 2; decide, rfl⟩)) J <| aA (dE J) J <| Ua J J <| Wn <| aN <| post (n := 0) (.inr J) J ?_ (by first | (simp [-cB]; done) | simp)
 exact congrArg (fun z => LV.v (.bool z)) (qN p ns)
theorem vv_run (k : Nat) (ns : List NM) (hI : IV ns) (ln : ns.length < 4611686018427387904) : Run Tryz.prog T E0 (.call 68 [.sl k (ns.map mc)] (.v (.bool (VV ns)))) := by
 refine bL Tryz.func68 J J (dH J) <| Rg 1 J <| Ua J J <| Wn <| Rg 8 J <| Um J J <| aA (aW J J) J <| aA (nL J J) J <| bB (fun h5 => ?_) (fun h5 => ?_)
 ·refine Um J J <| aE J (dK J) J <| aE J (aK J (all1_run k ns 59 [] vn (by simp) ln (fun a ha => nJ a (hI a ha).1 (hI a ha).2)) (by first | (simp [-cB]; done) | simp)) J <| aA (bM J J) J <| Ua J J <| Wn <| aN <| post (n := 0) (.inr J) J ?_ (by first | (simp [-cB]; done) | simp)
  exact congrArg (fun z => LV.v (.bool z)) (show ns.all vn = VV ns by unfold VV; rw [decide_eq_true om, Bool.true_and])
 refine Um J J <| K1 J J <| K1 J J <| aA (bK J J) J <| Ua J J <| Wn <| aN <| post (n := 0) (.inr J) J ?_ (by first | (simp [-cB]; done) | simp)
 exact congrArg (fun z => LV.v (.bool z)) (show false = VV ns by unfold VV; rw [decide_eq_false om, Bool.false_and])
theorem vrow_run (r : M1) (k : Nat) (a : List M1) (hI : IV r.2) (hne : 0 < a.length) (ln : r.2.length < 4611686018427387904) : Run Tryz.prog T E0 (.call 115 [.sl r.1 (r.2.map mc), .ro [.sl k (a.map fM)]] (.v (.bool (VMr a r)))) := by
 refine bL Tryz.func115 J J (dH J) <| Rg 1 J <| Ua J J <| Wn <| Rg 12 J <| Um J J <| aA (aW J J) J <| aA (dY (cs := [.sl k (a.map fM)]) J J J) J <| aA (cG (j := 0) J J J J om om J) J <| aA (dY J J J) J <| aA (aW J J) J <| aA (dV J J) J <| bB (fun h10 => ?_) (fun h10 => ?_)
 ·refine Um J J <| aE J (dK J) J <| aE J (aK J (vv_run r.1 r.2 hI ln) (by first | (simp [-cB]; done) | simp)) J <| aA (bM J J) J <| Ua J J <| Wn <| aN <| post (n := 0) (.inr J) J ?_ (by first | (simp [-cB]; done) | simp)
  exact congrArg (fun z => LV.v (.bool z)) (show VV r.2 = VMr a r by unfold VMr; rw [decide_eq_true om, Bool.true_and])
 refine Um J J <| K1 J J <| K1 J J <| aA (bK J J) J <| Ua J J <| Wn <| aN <| post (n := 0) (.inr J) J ?_ (by first | (simp [-cB]; done) | simp)
 exact congrArg (fun z => LV.v (.bool z)) (show false = VMr a r by unfold VMr; rw [decide_eq_false om, Bool.false_and])
theorem mvalid_run (k : Nat) (a : List M1) (hI : IM a) (ln : a.length < 4611686018427387904) (lr : ∀ r, r ∈ a → r.2.length < 4611686018427387904) : Run Tryz.prog T E0 (.call 78 [.sl k (a.map fM)] (.v (.bool (VM a)))) := by
 refine bL Tryz.func78 J J (dH J) <| Rg 2 J <| bJ (eO J J) J <| Ua J J <| Wn <| Rg 9 J <| aA (aM J J J J J) J <| aA (aW J J) J <| aA (nL J J) J <| bB (fun h5 => ?_) (fun h5 => ?_)
 ·refine Um J J <| aE J (aM J J J J J) J <| aE J (oMf J) J <| WO.Sg J (mC [.sl k (a.map fM), .fn (.func 115) [] [.ro [.sl k (a.map fM)]]] [(0, { cells := [.sl k (a.map fM)], sz := 1, elem := 22, st := 1 })] J (all2_run k a 115 [.ro [.sl k (a.map fM)]] (VMr a) (by simp [-cB]) ln (fun r hr => vrow_run r k a (hI r hr) (List.length_pos_of_mem hr) (lr r hr))) (.data (by simp [-cB]) (.fnp g0 (by show (0 : Nat) ≠ 2; decide) (by simp [keys]) (fun c hc => by have hc' := List.mem_singleton.1 hc; subst hc'; exact qI dfM _ _) .nil)) (by intro q hq; rw [List.mem_singleton] at hq; subst hq; exact ⟨_, g0, by show (0 : Nat) ≠ 2; decide, rfl⟩)) J <| aA (bM J J) J <| Ua J J <| Wn <| aN <| post (n := 0) (.inr J) J ?_ (by first | (simp [-cB]; done) | simp)
  exact congrArg (fun z => LV.v (.bool z)) (show a.all (VMr a) = VM a by unfold VM; rw [decide_eq_true om, Bool.true_and])
 refine Um J J <| K1 J J <| K1 J J <| K1 J J <| aA (bK J J) J <| Ua J J <| Wn <| aN <| post (n := 0) (.inr J) J ?_ (by first | (simp [-cB]; done) | simp)
 exact congrArg (fun z => LV.v (.bool z)) (show false = VM a by unfold VM; rw [decide_eq_false om, Bool.false_and])
theorem nwidth_run (k : Nat) (a : List M1) : Run Tryz.prog T E0 (.call 36 [.sl k (a.map fM)] (.v (.int .i64 ((wd a : Nat) : Int)))) := by
 refine bL Tryz.func36 J J (dH J) <| Rg 1 J <| Ua J J <| Wn <| aB <| Rg 3 J <| Um J J <| aA (aW J J) J <| aA (dV J J) J <| bB (fun h5 => ?_) (fun h5 => ?_)
 ·refine Wn <| aT J <| aB <| Rg 1 J <| Ua J J <| Wn <| bI <| post (n := 0) (.inr J) J ?_ (by first | (simp [-cB]; done) | simp)
  exact congrArg (fun z => LV.v (.int .i64 ((z : Nat) : Int))) (show 0 = wd a by unfold wd; rw [if_pos om])
 refine Wn <| aX J <| aH <| Rg 5 J <| Um J J <| aA (cG (j := 0) J J J J om om J) J <| aA (dY J J J) J <| aA (aW J J) J <| Ua J J <| Wn <| aN <| post (n := 0) (.inr J) J ?_ (by first | (simp [-cB]; done) | simp)
 exact congrArg (fun z => LV.v (.int .i64 ((z : Nat) : Int))) (show (a.getD 0 default).2.length = wd a by unfold wd; rw [if_neg om])
theorem eN (k : Nat) (ns : List NM) (ln : ns.length < 1099511627776) (hI : IV ns) (h0 : ∀ a, a ∈ ns → a.2 ≠ 0) : Run Tryz.prog T E0 (.call 41 [.sl k (ns.map mc)] (.sl (kd (ns.map nx).length) ((ns.map nx).map xc))) := by
 refine bL Tryz.func41 J J (dH J) <| Rg 1 J <| Ua J J <| Wn <| Rg 1 J <| Ua J J <| Wn <| aB <| Rg 3 J <| Um J J <| aA (aW J J) J <| Um J J <| Wn <| aL <| bF (α := Nat × Nat × (List X)) (fun ⟨i, q, ds⟩ => [(3, outV q 4 (ds.map xc)), (6, .sl k (ns.map mc)), (7, .v (.int .i64 (ns.length : Int))), (8, .v (.int .i64 (i : Int)))]) (fun ⟨i, q, ds⟩ => outH q 4 88 (ds.map xc) []) (fun ⟨i, q, ds⟩ n => i ≤ ns.length ∧ ds = (ns.take i).map nx ∧ ds.length = i ∧ q < n) (fun ⟨i, q, ds⟩ => ns.length - i) (0, 0, []) ⟨J, J, J, J, trivial⟩ trivial ⟨Nat.zero_le _, by simp, rfl, om⟩ ?_
 rintro ⟨i, q, ds⟩ n hF
 change WC _ _ _ _ _ (_ :: _) (outH _ _ _ _ _) n _
 obtain ⟨hi, hds, hdl, hq⟩ := hF
 refine Rg 1 J <| aA (bZ J J) J <| bB (fun h9 => ?_) (fun h9 => ?_)
 rotate_left
 ·refine Wn <| aX J <| bA <| aS <| aR J <| Rg 2 J <| Um J J <| Ua J J <| Wn <| aN ?_
  rw [List.take_of_length_le om] at hds
  rw [← hds, ← qX]
  exact lM (n := 0) (.inr J) J (by decide) (fE (n := 4) (fun _ => rfl)) (aY nG)
 refine Wn <| aT J <| aH <| aL <| Rg 4 J <| aA (cG J J J J J om J) J <| aA (dY (l := .agg [_, _]) J J J) J <| bJ (fD J) J <| bH (cP (cs' := [_, _]) J J J g0 J J J J) <| cJ ?_
 have hm := bS (us := ns) (i := i) om
 refine aI (z := 6) J <| Um J J <| aA (aM (l := .agg [_, _]) J J g0 J J) J <| aA (aK J (jV (ns.getD i default) (hI _ hm).1 (hI _ hm).2 (h0 _ hm)) (by first | (simp [-cB]; done) | simp)) J <| aA (dJ (cs := [_, _, _, _]) (rows := [[_, _, _, _]]) J J (by decide) J J J) J <| lX (outH q 4 88 ((ds).map xc) []) (Hp.le_skip (fY om J) (Hp.le_skip (fY om J) (Hp.le_refl _))) <| dP (te := ti88) (f := xc) (q := q) (us := ds) (u := (nx (ns.getD i default))) J J J J J (fun _ => rfl) (by decide) (by show (2 * (ds.length + 1) + 256) * 64 ≤ _; omega) om J J J <| Ua J J <| Wn <| aF <| aI (z := 2) J <| aA (cI (((i + 1 : Nat) : Int)) (aO J J om) om) J <| Um J J <| Wn <| aG <| ⟨⟨i + 1, _, ds ++ [nx (ns.getD i default)]⟩, ⟨J, J, J, J, trivial⟩, cL, ⟨om, by rw [iV om, hds], by simp; omega, om⟩, by show ns.length - (i + 1) < ns.length - i; omega⟩
theorem pH (k : Nat) (ns : List NM) (ln : ns.length < 1099511627776) (hI : IV ns) (h0 : ∀ a, a ∈ ns → VN a) : Run Tryz.prog T E0 (.call 24 [.sl k (ns.map mc)] (.sl (kd (ns.map nq).length) ((ns.map nq).map qc))) := by
 refine bL Tryz.func24 J J (dH J) <| Rg 1 J <| Ua J J <| Wn <| Rg 1 J <| Ua J J <| Wn <| aB <| Rg 3 J <| Um J J <| aA (aW J J) J <| Um J J <| Wn <| aL <| bF (α := Nat × Nat × (List Rat)) (fun ⟨i, q, ds⟩ => [(3, outV q 6 (ds.map qc)), (6, .sl k (ns.map mc)), (7, .v (.int .i64 (ns.length : Int))), (8, .v (.int .i64 (i : Int)))]) (fun ⟨i, q, ds⟩ => outH q 6 35 (ds.map qc) []) (fun ⟨i, q, ds⟩ n => i ≤ ns.length ∧ ds = (ns.take i).map nq ∧ ds.length = i ∧ q < n) (fun ⟨i, q, ds⟩ => ns.length - i) (0, 0, []) ⟨J, J, J, J, trivial⟩ trivial ⟨Nat.zero_le _, by simp, rfl, om⟩ ?_
 rintro ⟨i, q, ds⟩ n hF
 change WC _ _ _ _ _ (_ :: _) (outH _ _ _ _ _) n _
 obtain ⟨hi, hds, hdl, hq⟩ := hF
 refine Rg 1 J <| aA (bZ J J) J <| bB (fun h9 => ?_) (fun h9 => ?_)
 rotate_left
 ·refine Wn <| aX J <| bA <| aS <| aR J <| Rg 2 J <| Um J J <| Ua J J <| Wn <| aN ?_
  rw [List.take_of_length_le om] at hds
  rw [← hds, ← qX]
  exact lM (n := 0) (.inr J) J (by decide) (fE (n := 6) (fun _ => rfl)) (aY qH)
 refine Wn <| aT J <| aH <| aL <| Rg 4 J <| aA (cG J J J J J om J) J <| aA (dY (l := .agg [_, _]) J J J) J <| bJ (fD J) J <| bH (cP (cs' := [_, _]) J J J g0 J J J J) <| cJ ?_
 have hm := bS (us := ns) (i := i) om
 refine aI (z := 6) J <| Um J J <| aA (aM (l := .agg [_, _]) J J g0 J J) J <| aA (aK J (oG (ns.getD i default) (hI _ hm).1 (hI _ hm).2 (h0 _ hm)) (by first | (simp [-cB]; done) | simp)) J <| aA (dJ (cs := [_, _, _, _, _, _]) (rows := [[_, _, _, _, _, _]]) J J (by decide) J J J) J <| lX (outH q 6 35 ((ds).map qc) []) (Hp.le_skip (fY om J) (Hp.le_skip (fY om J) (Hp.le_refl _))) <| dP (te := ti35) (f := qc) (q := q) (us := ds) (u := (nq (ns.getD i default))) J J J J J (fun _ => rfl) (by decide) (by show (2 * (ds.length + 1) + 256) * 80 ≤ _; omega) om J J J <| Ua J J <| Wn <| aF <| aI (z := 2) J <| aA (cI (((i + 1 : Nat) : Int)) (aO J J om) om) J <| Um J J <| Wn <| aG <| ⟨⟨i + 1, _, ds ++ [nq (ns.getD i default)]⟩, ⟨J, J, J, J, trivial⟩, cL, ⟨om, by rw [iV om, hds], by simp; omega, om⟩, by show ns.length - (i + 1) < ns.length - i; omega⟩
theorem nouts_run (k : Nat) (ns : List X) (ln : ns.length < 1099511627776)  : Run Tryz.prog T E0 (.call 90 [.sl k (ns.map xc)] (lvOV (ns.mapM (fun x => outN x.1)))) := by
 refine bL Tryz.func90 J J (dH J) <| Rg 2 J <| Ua J J <| Ua J J <| Wn <| Rg 1 J <| Ua J J <| Wn <| aB <| Rg 3 J <| Um J J <| aA (aW J J) J <| Um J J <| Wn <| aL <| bF (α := Nat × Nat × (List NM)) (fun ⟨i, q, ds⟩ => [(4, outV q 2 (ds.map mc)), (9, .sl k (ns.map xc)), (10, .v (.int .i64 (ns.length : Int))), (11, .v (.int .i64 (i : Int)))]) (fun ⟨i, q, ds⟩ => outH q 2 40 (ds.map mc) []) (fun ⟨i, q, ds⟩ n => i ≤ ns.length ∧ (ns.take i).mapM (fun x => outN x.1) = some ds ∧ ds.length = i ∧ q < n) (fun ⟨i, q, ds⟩ => ns.length - i) (0, 0, []) ⟨J, J, J, J, trivial⟩ trivial ⟨Nat.zero_le _, by simp, rfl, om⟩ ?_
 rintro ⟨i, q, ds⟩ n hF
 change WC _ _ _ _ _ (_ :: _) (outH _ _ _ _ _) n _
 obtain ⟨hi, hds, hdl, hq⟩ := hF
 refine Rg 1 J <| aA (bZ J J) J <| bB (fun h12 => ?_) (fun h12 => ?_)
 rotate_left
 ·refine Wn <| aX J <| bA <| aS <| aR J <| Rg 3 J <| Um J J <| Ua J J <| Ua J J <| Wn <| aN ?_
  rw [List.take_of_length_le om] at hds
  rw [hds]
  exact postOutT (n := 0) (.inr J) J (by decide) (fE (n := 2) (fun _ => rfl)) (aY eS) (by simp [lvOV, qX])
 refine Wn <| aT J <| aH <| aL <| Rg 4 J <| aA (cG J J J J J om J) J <| aA (dY (l := .agg [_, _, _, _]) J J J) J <| bJ (fD J) J <| bH (cP (cs' := [_, _, _, _]) J J J g0 J J J J) <| Wn <| Rg 8 J <| aA (aM (l := .agg [_, _, _, _]) J J g0 J J) J <| aA (aV (b := .tup [lvM ((outN (ns.getD i default).1).getD (0, 0)), .v (.int .i64 (if (outN (ns.getD i default).1).isSome = true then 0 else 3))]) (aK J (nout_run (ns.getD i default)) (by first | (simp [-cB]; done) | simp)) (by rw [lvO_eq])) J <| Um J J <| aA (fB J J) J <| aA (fB J J) J <| bJ (fD J) J <| bH (cP (cs' := [_, _]) J J J g0 J J J J) <| Ua J J <| Nk [4,7,8,9,10,11] J <| aB <| Rg 2 J <| Um J J ?_
 refine aA (gJ J J) J <| bB (fun h21 => ?_) (fun h21 => ?_)
 ·refine Wn <| aT J <| aB ?_
  have hno2 : outN (ns.getD i default).1 = none := by
   cases ho : outN (ns.getD i default).1 with
   | none => rfl
   | some _ => rw [ho] at h21; exact absurd rfl h21
  have hno : ns.mapM (fun x => outN x.1) = none := mapM_no (i := i) om hno2
  refine Rg 3 J <| Um J J <| Ua J J <| Ua J J <| Wn <| bI <| aP <| cR <| aP <| post (n := 0) (.inr J) J ?_ (by first | (simp [-cB]; done) | simp)
  first | (rw [hno]; rfl) | (rw [hno, hno2]; rfl)
 refine Wn <| aX J <| aH ?_
 obtain ⟨o, ho⟩ : ∃ o, outN (ns.getD i default).1 = some o := by
  cases ho : outN (ns.getD i default).1 with
  | none => rw [ho] at h21; exact absurd (by decide) h21
  | some o => exact ⟨o, rfl⟩
 refine aI (z := 5) J <| Um J J <| aA (aV (b := lvM o) (aM (l := .agg [_, _]) J J g0 J J) (by simp only [ho, Option.getD_some]; rfl)) J <| aA (dJ (cs := [_, _]) (rows := [[_, _]]) J J (by decide) J J J) J <| lX (outH q 2 40 ((ds).map mc) []) (Hp.le_skip (fY om J) (Hp.le_skip (fY om J) (Hp.le_skip (fY om J) (Hp.le_skip (fY om J) (Hp.le_refl _))))) <| dP (te := ti40) (f := mc) (q := q) (us := ds) (u := o) J J J J J (fun _ => rfl) (by decide) (by show (2 * (ds.length + 1) + 256) * 16 ≤ _; omega) om J J J <| Ua J J <| Wn <| aF <| aI (z := 2) J <| aA (cI (((i + 1 : Nat) : Int)) (aO J J om) om) J <| Um J J <| Wn <| aG <| ⟨⟨i + 1, _, ds ++ [o]⟩, ⟨J, J, J, J, trivial⟩, cL, ⟨om, mapM_take hds om ho, by simp; omega, om⟩, by show ns.length - (i + 1) < ns.length - i; omega⟩
theorem qall_run (k : Nat) (ns : List NM) (hI : IV ns) (ln : ns.length < 1099511627776) : Run Tryz.prog T E0 (.call 69 [.sl k (ns.map mc)] (.v (.bool (ns.all vn)))) := by
 refine bL Tryz.func69 J J (dH J) <| Rg 1 J <| Ua J J <| Wn <| aB <| Rg 3 J <| Um J J <| aA (aW J J) J <| Um J J <| Wn <| aL <| bF (α := Nat) (fun i => [(5, .sl k (ns.map mc)), (6, .v (.int .i64 (ns.length : Int))), (7, .v (.int .i64 (i : Int)))]) (fun i => []) (fun i n => i ≤ ns.length ∧ (ns.take i).all vn = true) (fun i => ns.length - i) (0) ⟨J, J, J, trivial⟩ trivial ⟨Nat.zero_le _, by simp⟩ ?_
 rintro i n hF
 change WC _ _ _ _ _ (_ :: _) ([]) n _
 obtain ⟨hi, ha⟩ := hF
 refine Rg 1 J <| aA (bZ J J) J <| bB (fun h8 => ?_) (fun h8 => ?_)
 rotate_left
 ·refine Wn <| aX J <| bA <| aS <| aR J <| Rg 1 J <| Ua J J <| Wn <| aN <| post (n := 0) (.inr J) J ?_ (by first | (simp [-cB]; done) | simp)
  exact congrArg (fun z => LV.v (.bool z)) ((qM ha om).symm)
 refine Wn <| aT J <| aH <| aL <| Rg 4 J <| aA (cG J J J J J om J) J <| aA (dY (l := .agg [_, _]) J J J) J <| bJ (fD J) J <| bH (cP (cs' := [_, _]) J J J g0 J J J J) <| cJ ?_
 have hm := bS (us := ns) (i := i) om
 refine Rg 3 J <| aA (aM (l := .agg [_, _]) J J g0 J J) J <| aA (aV (b := .v (.bool (vn (ns.getD i default)))) (aK J (pW (ns.getD i default) (hI _ hm).1 (hI _ hm).2) (by first | (simp [-cB]; done) | simp)) J) J <| dT (fun h12 => ?_) (fun h12 => ?_)
 ·refine aA (dE J) J <| Wn <| bV J <| cA <| aF <| aI (z := 2) J <| aA (cI (((i + 1 : Nat) : Int)) (aO J J om) om) J <| Um J J <| Wn <| aG <| ⟨i + 1, ⟨J, J, J, trivial⟩, trivial, ⟨om, kV ha om h12⟩, by show ns.length - (i + 1) < ns.length - i; omega⟩
 refine aA (dE J) J <| Wn <| bY J <| Rg 1 J <| Ua J J <| Wn <| aN <| aP <| cR <| aP <| post (n := 0) (.inr J) J ?_ (by first | (simp [-cB]; done) | simp)
 exact congrArg (fun z => LV.v (.bool z)) ((kI (i := i) om h12).symm)
theorem kF (k : Nat) (ns : List NM) (hI : IV ns) (ln : ns.length < 1099511627776) : Run Tryz.prog T E0 (.call 21 [.sl k (ns.map mc)] (.v (.bool (VV ns)))) := by
 refine bL Tryz.func21 J J (dH J) <| Rg 1 J <| Ua J J <| Wn <| Rg 8 J <| Um J J <| aA (aW J J) J <| aA (nL J J) J <| bB (fun h5 => ?_) (fun h5 => ?_)
 ·refine Um J J <| aE J (dK J) J <| aE J (aK J (qall_run k ns hI ln) (by first | (simp [-cB]; done) | simp)) J <| aA (bM J J) J <| Ua J J <| Wn <| aN <| post (n := 0) (.inr J) J ?_ (by first | (simp [-cB]; done) | simp)
  exact congrArg (fun z => LV.v (.bool z)) (show ns.all vn = VV ns by unfold VV; rw [decide_eq_true om, Bool.true_and])
 refine Um J J <| K1 J J <| K1 J J <| aA (bK J J) J <| Ua J J <| Wn <| aN <| post (n := 0) (.inr J) J ?_ (by first | (simp [-cB]; done) | simp)
 exact congrArg (fun z => LV.v (.bool z)) (show false = VV ns by unfold VV; rw [decide_eq_false om, Bool.false_and])
theorem qvalid_run (k : Nat) (a : List M1) (hI : IM a) (ln : a.length < 1099511627776) (lr : ∀ r, r ∈ a → r.2.length < 1099511627776) : Run Tryz.prog T E0 (.call 35 [.sl k (a.map fM)] (.v (.bool (VM a)))) := by
 refine bL Tryz.func35 J J (dH J) <| Rg 1 J <| Ua J J <| Wn <| aB <| Rg 3 J <| Um J J <| aA (aW J J) J <| aA (eB J J) J <| bB (fun h7 => ?_) (fun h7 => ?_)
 ·refine Wn <| aT J <| aB <| Rg 1 J <| Ua J J <| Wn <| bI <| post (n := 0) (.inr J) J ?_ (by first | (simp [-cB]; done) | simp)
  exact congrArg (fun z => LV.v (.bool z)) (show false = VM a by unfold VM; rw [decide_eq_false om, Bool.false_and])
 refine Wn <| aX J <| aH <| aB <| Rg 3 J <| Um J J <| aA (aW J J) J <| Um J J <| Wn <| aL <| bF (α := Nat) (fun i => [(0, .sl k (a.map fM)), (8, .sl k (a.map fM)), (9, .v (.int .i64 (a.length : Int))), (10, .v (.int .i64 (i : Int)))]) (fun i => []) (fun i n => i ≤ a.length ∧ (a.take i).all (VMr a) = true) (fun i => a.length - i) (0) ⟨J, J, J, J, trivial⟩ trivial ⟨Nat.zero_le _, by simp⟩ ?_
 rintro i n hF
 change WC _ _ _ _ _ (_ :: _) ([]) n _
 obtain ⟨hi, ha⟩ := hF
 refine Rg 1 J <| aA (bZ J J) J <| bB (fun h11 => ?_) (fun h11 => ?_)
 rotate_left
 ·refine Wn <| aX J <| bA <| aS <| aR J <| Rg 1 J <| Ua J J <| Wn <| aN <| post (n := 0) (.inr J) J ?_ (by first | (simp [-cB]; done) | simp)
  exact congrArg (fun z => LV.v (.bool z)) (show true = VM a by unfold VM; rw [decide_eq_true om, Bool.true_and]; exact (qM ha om).symm)
 refine Wn <| aT J <| aH <| aL <| Rg 3 J <| aA (cG J J J J J om J) J <| aA (dY J J J) J <| Ua J J <| cJ ?_
 have hm := bS (us := a) (i := i) om
 refine Rg 12 J <| Um J J <| aA (aW J J) J <| Um J J <| aA (cG (j := 0) J J J J om om J) J <| aA (dY J J J) J <| aA (aW J J) J <| aA (gJ J J) J <| bB (fun h20 => ?_) (fun h20 => ?_)
 ·refine Um J J <| K1 J J <| K1 J J <| K1 J J <| aA (bM J J) J <| Nk [0,8,9,10,22,23,24,25] J <| bY J <| Rg 1 J <| Ua J J <| Wn <| aN <| aP <| cR <| aP <| post (n := 0) (.inr J) J ?_ (by first | (simp [-cB]; done) | simp)
  exact congrArg (fun z => LV.v (.bool z)) (show false = VM a by unfold VM; rw [kI (i := i) om (by unfold VMr; rw [decide_eq_false om, Bool.false_and]), Bool.and_false])
 refine Um J J <| aE J (dK J) J <| aE J (aK J (kF (a.getD i default).1 (a.getD i default).2 (hI _ hm) (lr _ hm)) (by first | (simp [-cB]; done) | simp)) J <| dT (fun h23 => ?_) (fun h23 => ?_)
 ·refine aE J (dE J) J <| aA (bK J J) J <| Nk [0,8,9,10,22,23,24,25] J <| bV J <| cA <| aF <| aI (z := 2) J <| aA (cI (((i + 1 : Nat) : Int)) (aO J J om) om) J <| Um J J <| Wn <| aG ?_
  have hr : VMr a (a.getD i default) = true := by unfold VMr; rw [decide_eq_true om, Bool.true_and]; exact h23
  refine ⟨i + 1, ⟨J, J, J, J, trivial⟩, trivial, ⟨om, kV ha om hr⟩, by show a.length - (i + 1) < a.length - i; omega⟩
 refine aE J (dE J) J <| aA (bK J J) J <| Nk [0,8,9,10,22,23,24,25] J <| bY J <| Rg 1 J <| Ua J J <| Wn <| aN <| aP <| cR <| aP <| post (n := 0) (.inr J) J ?_ (by first | (simp [-cB]; done) | simp)
 exact congrArg (fun z => LV.v (.bool z)) (show false = VM a by unfold VM; rw [kI (i := i) om (by unfold VMr; rw [h23, Bool.and_false]), Bool.and_false])
end Go.Proofs.YtohfklpfeilcpaaGreat
set_option maxHeartbeats 8000000
namespace Go.Proofs.YtohfklpfeilcpaaGreat
open Go.Ab Go.RowKit
theorem rsub_run (x y : X) (hx : Bd 34359738368 x.1) (hy : Bd 34359738368 y.1) : Run Tryz.prog T E0 (.call 100 [lvX x, lvX y] (lvX (xadd x (xneg y)))) := by
 refine bL Tryz.func100 J J (dH J) <| Rg 3 J <| bJ (eO J J) J <| bJ (eO J J) J <| bJ (fD J) J <| Wn <| bR (z := 5) J kR <| aC (aM (l := lvX x) J J (by repeat (first | exact g0 | refine g1 (by decide) ?_)) J J) J ?_
 refine aC (aM (l := lvX y) J J (by repeat (first | exact g0 | refine g1 (by decide) ?_)) J J) J ?_
 refine aC (aK J (oM y) dD) J <| aC (aK J (oJ x (xneg y) (hx.mono (by decide)) (hy.neg.mono (by decide))) dD) J <| cO (cP (cs' := xc (xadd x (xneg y))) J J J (by repeat (first | exact g0 | refine g1 (by decide) ?_)) J J J J) ?_
 refine bG (aQ kR) J <| aN <| post (n := 0) (.inr J) J ?_ dD
 rfl
theorem oL (x y : X) (hx : Bd 34359738368 x.1) (hy : Bd 34359738368 y.1) : Run Tryz.prog T E0 (.call 61 [lvX x, lvX y] (.v (.int .i64 (x.1 - y.1).num.sign))) := by
 refine bL Tryz.func61 J J (dH J) <| Rg 3 J <| bJ (eO J J) J <| bJ (eO J J) J <| Ua J J <| Wn <| Rg 5 J <| aA (aM (l := lvX x) J J (by repeat (first | exact g0 | refine g1 (by decide) ?_)) J J) J ?_
 refine aA (aM (l := lvX y) J J (by repeat (first | exact g0 | refine g1 (by decide) ?_)) J J) J ?_
 refine aA (aK J (rsub_run x y hx hy) dD) J <| aA (aV (b := .v (.int .i64 (x.1 - y.1).num.sign)) (aK J (fH (xadd x (xneg y))) dD) (by rw [show (xadd x (xneg y)).1 = x.1 - y.1 from (Rat.sub_eq_add_neg _ _).symm])) J <| Ua J J <| Wn <| aN <| post (n := 0) (.inr J) J ?_ dD
 rfl
end Go.Proofs.YtohfklpfeilcpaaGreat
set_option maxHeartbeats 16000000
namespace Go.Proofs.YtohfklpfeilcpaaGreat
open Go.Ab Go.RowKit
theorem lvalid1_run (p : PB) (r : M1) : Run Tryz.prog T E0 (.call 79 [.sl r.1 (r.2.map mc), .ro (pbc p)] (.v (.bool (!wid p.2.2.2.length r)))) := by
 refine bL Tryz.func79 J J (dH J) <| Rg 1 J <| Ua J J <| Wn <| Rg 7 J <| Um J J <| aA (aW J J) J <| aA (oFa J J J J J) J <| aA (dY (l := .sl p.2.2.1 (p.2.2.2.map mc)) J J J) J <| aA (aW J J) J <| aA (gJ J J) J <| Ua J J <| Wn <| aN <| post (n := 0) (.inr J) J ?_ dD
 exact congrArg (fun z => LV.v (.bool z)) (by unfold wid; rw [← decide_not]; exact decide_eq_decide.2 om)
theorem nI (p : PB) (hI : IP p) : Run Tryz.prog T E0 (.call 40 [lvPb p] (.v (.bool (vP p)))) := by
 refine bL Tryz.func40 J J (dH J) <| Rg 2 J <| bJ (eO J J) J <| Ua J J <| Wn <| Rg 42 J <| aA (aU J J J J J) J <| aA (aM (l := .sl p.1.1 (p.1.2.map fM)) J J gG J J) J ?_
 refine aA (aK J (mvalid_run p.1.1 p.1.2 hI.m (by have := hI.lm; omega) (fun r hr => by have := hI.lw r hr; omega)) (aJ (by intro c hc; simp only [List.mem_cons, List.not_mem_nil, or_false] at hc; rcases hc with rfl; exact (.sl _ _ (aY dfM))))) J <| dT (fun h5 => ?_) (fun h5 => ?_)
 rotate_left
 ·refine Um J J <| K1 J J <| K1 J J <| K1 J J <| K1 J J <| aA (bK J J) J <| Um J J <| K1 J J <| K1 J J <| K1 J J <| aA (bK J J) J <| Um J J <| K1 J J <| K1 J J <| K1 J J <| K1 J J <| K1 J J <| K1 J J <| K1 J J <| aA (bK J J) J <| Um J J <| K1 J J <| K1 J J <| K1 J J ?_
  refine aA (bK J J) J <| Um J J <| K1 J J <| K1 J J <| K1 J J <| K1 J J <| aA (bK J J) J <| Um J J <| K1 J J <| K1 J J <| K1 J J <| K1 J J <| K1 J J <| aA (bK J J) J <| Ua J J <| Nk [2] J <| aN <| post (n := 0) (.inr J) J ?_ dD
  refine congrArg (fun z => LV.v (.bool z)) ?_
  first | exact nP h5 | exact vP_2 h10 | exact nQ h15 | exact vP_4 h24 | exact nR h29 | exact vP_6 h35 | exact vP_9 h5 h10 h15 h24 h29 h35
 refine Um J J <| aE J (aU J J J J J) J <| aE J (aM (l := .sl p.1.1 (p.1.2.map fM)) J J gG J J) J ?_
 refine aE J (aW J J) J <| aE J (nL J J) J <| bB (fun h10 => ?_) (fun h10 => ?_)
 rotate_left
 ·refine aA (bM J J) J <| Um J J <| K1 J J <| K1 J J <| K1 J J <| aA (bK J J) J <| Um J J <| K1 J J <| K1 J J <| K1 J J <| K1 J J <| K1 J J <| K1 J J <| K1 J J <| aA (bK J J) J <| Um J J <| K1 J J <| K1 J J <| K1 J J <| aA (bK J J) J <| Um J J <| K1 J J <| K1 J J <| K1 J J ?_
  refine K1 J J <| aA (bK J J) J <| Um J J <| K1 J J <| K1 J J <| K1 J J <| K1 J J <| K1 J J <| aA (bK J J) J <| Ua J J <| Nk [2] J <| aN <| post (n := 0) (.inr J) J ?_ dD
  refine congrArg (fun z => LV.v (.bool z)) ?_
  first | exact nP h5 | exact vP_2 h10 | exact nQ h15 | exact vP_4 h24 | exact nR h29 | exact vP_6 h35 | exact vP_9 h5 h10 h15 h24 h29 h35
 refine aA (bM J J) J <| Um J J <| aE J (aU J J J J J) J <| aE J (aM (l := .sl p.2.1.1 (p.2.1.2.map mc)) J J gG J J) J ?_
 refine aE J (aK J (vv_run p.2.1.1 p.2.1.2 hI.r (by have := hI.lr; omega)) (aJ (by intro c hc; simp only [List.mem_cons, List.not_mem_nil, or_false] at hc; rcases hc with rfl; exact (.sl _ _ (aY eS))))) J <| dT (fun h15 => ?_) (fun h15 => ?_)
 rotate_left
 ·refine aA (bM J J) J <| Um J J <| K1 J J <| K1 J J <| K1 J J <| K1 J J <| K1 J J <| K1 J J <| K1 J J <| aA (bK J J) J <| Um J J <| K1 J J <| K1 J J <| K1 J J <| aA (bK J J) J <| Um J J <| K1 J J <| K1 J J <| K1 J J <| K1 J J <| aA (bK J J) J <| Um J J <| K1 J J <| K1 J J ?_
  refine K1 J J <| K1 J J <| K1 J J <| aA (bK J J) J <| Ua J J <| Nk [2] J <| aN <| post (n := 0) (.inr J) J ?_ dD
  refine congrArg (fun z => LV.v (.bool z)) ?_
  first | exact nP h5 | exact vP_2 h10 | exact nQ h15 | exact vP_4 h24 | exact nR h29 | exact vP_6 h35 | exact vP_9 h5 h10 h15 h24 h29 h35
 refine aA (bM J J) J <| Um J J <| aE J (aU J J J J J) J <| aE J (aM (l := .sl p.2.1.1 (p.2.1.2.map mc)) J J gG J J) J ?_
 refine aE J (aW J J) J <| aE J (aU J J J J J) J <| aE J (aM (l := .sl p.1.1 (p.1.2.map fM)) J J gG J J) J ?_
 refine aE J (aW J J) J <| aE J (dV J J) J <| bB (fun h24 => ?_) (fun h24 => ?_)
 rotate_left
 ·refine aA (bM J J) J <| Um J J <| K1 J J <| K1 J J <| K1 J J <| aA (bK J J) J <| Um J J <| K1 J J <| K1 J J <| K1 J J <| K1 J J <| aA (bK J J) J <| Um J J <| K1 J J <| K1 J J <| K1 J J <| K1 J J <| K1 J J <| aA (bK J J) J <| Ua J J <| Nk [2] J <| aN <| post (n := 0) (.inr J) J ?_ dD
  refine congrArg (fun z => LV.v (.bool z)) ?_
  first | exact nP h5 | exact vP_2 h10 | exact nQ h15 | exact vP_4 h24 | exact nR h29 | exact vP_6 h35 | exact vP_9 h5 h10 h15 h24 h29 h35
 refine aA (bM J J) J <| Um J J <| aE J (aU J J J J J) J <| aE J (aM (l := .sl p.2.2.1 (p.2.2.2.map mc)) J J gG J J) J ?_
 refine aE J (aK J (vv_run p.2.2.1 p.2.2.2 hI.g (by have := hI.lg; omega)) (aJ (by intro c hc; simp only [List.mem_cons, List.not_mem_nil, or_false] at hc; rcases hc with rfl; exact (.sl _ _ (aY eS))))) J <| dT (fun h29 => ?_) (fun h29 => ?_)
 rotate_left
 ·refine aA (bM J J) J <| Um J J <| K1 J J <| K1 J J <| K1 J J <| K1 J J <| aA (bK J J) J <| Um J J <| K1 J J <| K1 J J <| K1 J J <| K1 J J <| K1 J J <| aA (bK J J) J <| Ua J J <| Nk [2] J <| aN <| post (n := 0) (.inr J) J ?_ dD
  refine congrArg (fun z => LV.v (.bool z)) ?_
  first | exact nP h5 | exact vP_2 h10 | exact nQ h15 | exact vP_4 h24 | exact nR h29 | exact vP_6 h35 | exact vP_9 h5 h10 h15 h24 h29 h35
 refine aA (bM J J) J <| Um J J <| aE J (aU J J J J J) J <| aE J (aM (l := .sl p.2.2.1 (p.2.2.2.map mc)) J J gG J J) J ?_
 refine aE J (aW J J) J <| aE J (nL J J) J <| bB (fun h35 => ?_) (fun h35 => ?_)
 ·refine aA (bM J J) J <| Um J J <| aE J (aU J J J J J) J <| aE J (aM (l := .sl p.1.1 (p.1.2.map fM)) J J gG J J) J ?_
  refine aE J (oMf J) J <| aE J (oCallB [0] [.sl p.1.1 (p.1.2.map fM), .fn (.func 79) [] [.ro (pbc p)]] J (rD p.1.1 p.1.2 79 [.ro (pbc p)] (fun r => !wid p.2.2.2.length r) (by intro c hc; rw [List.mem_singleton] at hc; subst hc; exact .ro _ (pbc_data p)) (by have := hI.lm; omega) (fun r hr => lvalid1_run p r)) (.data (.sl _ _ (aY dfM)) (.fn .nil (.box (ob := { cells := pbc p, sz := 3, elem := (25), st := 0 }) gG (by simp) (by show (0 : Nat) ≠ 2; decide) (pbc_data p) .nil) .nil)) (.cons gG (by show (0 : Nat) ≠ 2; decide) lent0)) J ?_
  refine aE J (dE J) J <| aA (bM J J) J <| Ua J J <| Nk [2] J <| aN <| post (n := 0) (.inr J) J ?_ dD
  refine congrArg (fun z => LV.v (.bool z)) ?_
  first | exact nP h5 | exact vP_2 h10 | exact nQ h15 | exact vP_4 h24 | exact nR h29 | exact vP_6 h35 | exact vP_9 h5 h10 h15 h24 h29 h35
 refine aA (bM J J) J <| Um J J <| K1 J J <| K1 J J <| K1 J J <| K1 J J <| K1 J J <| aA (bK J J) J <| Ua J J <| Nk [2] J <| aN <| post (n := 0) (.inr J) J ?_ dD
 refine congrArg (fun z => LV.v (.bool z)) ?_
 first | exact nP h5 | exact vP_2 h10 | exact nQ h15 | exact vP_4 h24 | exact nR h29 | exact vP_6 h35 | exact vP_9 h5 h10 h15 h24 h29 h35
theorem kN (ka kb : Nat) (a b : List X) (hab : a.length ≤ b.length) (hl : a.length ≤ 1000) (β : Nat) (h2 : 2 ≤ β) (hβ : β ≤ 1000000) (ha : ∀ x, x ∈ a → Bd β x.1) (hb : ∀ x, x ∈ b → Bd β x.1) : Run Tryz.prog T E0 (.call 54 [.sl ka (a.map xc), .sl kb (b.map xc)] (lvX (dtX a b a.length))) := by
 refine bL Tryz.func54 J J (dH J) <| Rg 1 J <| bJ (fD J) J <| Wn <| Rg 1 J <| bJ (fD J) J <| Wn <| aB <| Rg 3 J <| Um J J <| aA (aW J J) J <| Um J J <| Wn <| aL <| bF (α := Nat) (fun i => [(0, .sl ka (a.map xc)), (1, .sl kb (b.map xc)), (4, .ptr 0 0), (5, .ptr 1 0), (8, .v (.int .i64 (a.length : Int))), (9, .v (.int .i64 (i : Int)))]) (fun i => [(1, { cells := xc (dtX a b i), sz := 4, elem := (88), st := 0 }), (0, { cells := xc x0, sz := 4, elem := (88), st := 0 })]) (fun i n => i ≤ a.length ∧ 1 < n) (fun i => a.length - i) (0) ⟨J, J, J, J, J, J, trivial⟩ ⟨gG, gG, trivial⟩ ⟨Nat.zero_le _, om⟩ ?_
 rintro i n hF
 change WC _ _ _ _ _ (_ :: _) (_ :: _) n _
 obtain ⟨hi, hn⟩ := hF
 refine Rg 1 J <| aA (bZ J J) J <| bB (fun h10 => ?_) (fun h10 => ?_)
 rotate_left
 ·refine Wn <| aX J <| bA <| aS <| aR J <| Rg 2 J <| aA (aM (l := lvX (dtX a b i)) J J gG J J) J ?_
  refine bH (cP (cs' := xc (dtX a b i)) J J J gG J J J J) ?_
  refine Wn <| aN ?_
  have hia : i = a.length := by omega
  subst hia
  exact post (n := 0) (.inr J) J J gZ
 refine Wn <| aT J <| aH <| aL <| Rg 2 J <| Um J J <| Ua J J <| cJ ?_
 have hda := ha _ (bS (us := a) (i := i) om)
 have hdb := hb _ (bS (us := b) (i := i) om)
 have hdt := dtX_bd ha hb h2 i om om
 have hnl : i * (2 * β + 1) ≤ 1000 * (2 * β + 1) := Nat.mul_le_mul_right _ om
 refine dN (z := 12) J kR <| aC (aM (l := lvX (dtX a b i)) J J gG J J) J ?_
 refine Dm J J <| Dm J J <| aC (cG (j := i) J J J J om om J) J <| aC (dY (l := lvX (a.getD i default)) J J J) J <| Dm J J <| Dm J J <| aC (cG (j := i) J J J J om om J) J <| aC (dY (l := lvX (b.getD i default)) J J J) J <| aC (aK J (mG (a.getD i default) (b.getD i default) (hda.mono om) (hdb.mono om)) (aJ (by intro c hc; simp only [List.mem_cons, List.not_mem_nil, or_false] at hc; rcases hc with rfl | rfl; exact gZ; exact gZ))) J <| aC (aV (b := lvX (dtX a b (i + 1))) (aK J (oJ (dtX a b i) (xmul (a.getD i default) (b.getD i default)) (hdt.mono om) ((hda.mul hdb).mono om)) (aJ (by intro c hc; simp only [List.mem_cons, List.not_mem_nil, or_false] at hc; rcases hc with rfl | rfl; exact gZ; exact gZ))) J) J <| cO (cP (cs' := xc (dtX a b (i + 1))) J J J gG J J J J) ?_
 refine bG (dX (rn n) (by simp only [List.reverse_cons, List.reverse_nil, List.nil_append, List.cons_append, List.map_cons, List.map_nil, ren, keys, Nat.add_assoc, iR, show rn n 1 = 0 from kG om]; kernel_rfl)) J <| aF <| Ck [0,1,4,5,8,9] J <| aI (z := 2) J <| aA (cI (((i + 1 : Nat) : Int)) (aO J J om) om) J <| Um J J <| Wn <| aG <| ⟨i + 1, ⟨J, J, J, J, J, J, trivial⟩, ⟨gG, gG, trivial⟩, ⟨om, om⟩, by show a.length - (i + 1) < a.length - i; omega⟩
theorem lpos1_run (a : NM) (h1 : I64 a.1) (h2 : I64 a.2) : Run Tryz.prog T E0 (.call 93 [lvM a] (.v (.bool (!posN a)))) := by
 refine bL Tryz.func93 J J (dH J) <| Rg 2 J <| bJ (eO J J) J <| Ua J J <| Wn <| Rg 9 J <| aA (aM (l := lvM a) J J g0 J J) J <| aA (aV (b := .v (.bool (vn a))) (aK J (nJ a h1 h2) dD) J) J <| dT (fun h4 => ?_) (fun h4 => ?_)
 ·refine aA (dE J) J <| Um J J <| aE J (aU J J J J J) J <| aE J (aM J J g0 J J) J <| aE J (bZ J J) J <| aA (bK J J) J <| Ua J J <| Wn <| aN <| post (n := 0) (.inr J) J ?_ dD
  exact congrArg (fun z => LV.v (.bool z)) (by unfold posN; first | (rw [h4]; rfl) | (rw [h4, decide_eq_false (show ¬ 0 ≤ a.1 by omega)]; rfl) | (rw [h4, decide_eq_true (show 0 ≤ a.1 by omega)]; rfl) | (rw [h4, Bool.true_and, ← decide_not]; exact decide_eq_decide.2 om))
 refine aA (dE J) J <| Um J J <| K1 J J <| K1 J J <| K1 J J <| aA (bM J J) J <| Ua J J <| Wn <| aN <| post (n := 0) (.inr J) J ?_ dD
 exact congrArg (fun z => LV.v (.bool z)) (by unfold posN; first | (rw [h4]; rfl) | (rw [h4, decide_eq_false (show ¬ 0 ≤ a.1 by omega)]; rfl) | (rw [h4, decide_eq_true (show 0 ≤ a.1 by omega)]; rfl) | (rw [h4, Bool.true_and, ← decide_not]; exact decide_eq_decide.2 om))
theorem nZ (k : Nat) (l : List NM) (m : Nat) (hI : IV l) (ll : l.length < 1000000) : Run Tryz.prog T E0 (.call 52 [.sl k (l.map mc), .v (.int .i64 (m : Int))] (.v (.bool (posS l m)))) := by
 refine bL Tryz.func52 J J (dH J) <| Rg 1 J <| Ua J J <| Wn <| Rg 10 J <| Um J J <| aA (aW J J) J <| Um J J <| aA (dV J J) J <| bB (fun h8 => ?_) (fun h8 => ?_)
 ·refine Um J J <| aE J (dK J) J <| aE J (oCallB [] [.sl k (l.map mc), .fn (.func 93) [] []] J (con1_run k l 93 [] (fun a => !posN a) (by simp) om (fun a ha => lpos1_run a (hI a ha).1 (hI a ha).2)) (SnapB.datas (by intro c hc; simp only [List.mem_cons, List.not_mem_nil, or_false] at hc; rcases hc with rfl | rfl; exact .sl _ _ (aY eS); exact dfn d0 d0)) lent0) J <| aE J (dE J) J <| aA (bM J J) J <| Ua J J <| Wn <| aN <| post (n := 0) (.inr J) J ?_ dD
  exact congrArg (fun z => LV.v (.bool z)) (by unfold posS; first | (rw [decide_eq_false (show ¬ l.length = m by omega)]; rfl) | (rw [decide_eq_true (show l.length = m by omega), Bool.true_and]; exact qN posN l))
 refine Um J J <| K1 J J <| K1 J J <| K1 J J <| aA (bK J J) J <| Ua J J <| Wn <| aN <| post (n := 0) (.inr J) J ?_ dD
 exact congrArg (fun z => LV.v (.bool z)) (by unfold posS; first | (rw [decide_eq_false (show ¬ l.length = m by omega)]; rfl) | (rw [decide_eq_true (show l.length = m by omega), Bool.true_and]; exact qN posN l))
end Go.Proofs.YtohfklpfeilcpaaGreat
namespace Go.Proofs.YtohfklpfeilcpaaGreat
open Go.Ab Go.RowKit
theorem oW (kx : Nat) (p : PB) (x : List NM) (hV : VP p) (hI : IP p) (hx : IV x) (lx : x.length < 1000000) : Run Tryz.prog T E0 (.call 56 [lvPb p, .sl kx (x.map mc)] (.v (.bool (feaS p x)))) := by
 have hrows := hV.rows
 have hcols := hV.cols
 have hrl := hV.rl
 obtain ⟨hr60, hrv⟩ := nT hV.r
 refine bL Tryz.func56 J J (dH J) <| Rg 2 J <| bJ (eO J J) J <| Ua J J <| Wn <| aB <| Rg 6 J <| Um J J <| aA (aU J J J J J) J <| aA (aM (l := .sl p.2.2.1 (p.2.2.2.map mc)) J J gG J J) J ?_
 refine aA (aW J J) J <| aA (aK J (nZ kx x p.2.2.2.length hx lx) (aJ (by intro c hc; simp only [List.mem_cons, List.not_mem_nil, or_false] at hc; rcases hc with rfl | rfl; exact (.sl _ _ (aY eS)); exact (.v _)))) J <| dT (fun h12 => ?_) (fun h12 => ?_)
 rotate_left
 ·refine aA (dE J) J <| Wn <| aT J <| aB <| Rg 1 J <| Ua J J <| Wn <| bI <| post (n := 0) (.inr J) J ?_ dD
  exact congrArg (fun z => LV.v (.bool z)) (feaS_1 h12)
 refine aA (dE J) J <| Wn <| aX J <| aH ?_
 obtain ⟨hxl, hxv⟩ := hN h12
 refine Rg 3 J <| Um J J <| aA (aK J (eN kx x om hx (fun a ha => (hxv a ha).1.all3.2.2)) (aJ (by intro c hc; simp only [List.mem_cons, List.not_mem_nil, or_false] at hc; rcases hc with rfl; exact (.sl _ _ (aY eS))))) J <| Ua J J <| Wn <| aB <| Rg 4 J <| aA (aU J J J J J) J <| aA (aM (l := .sl p.1.1 (p.1.2.map fM)) J J gG J J) J ?_
 refine aA (aW J J) J <| Um J J <| Nk [2,5,17,18,19] J <| aL <| bF (α := Nat) (fun i => [(2, .ptr 0 0), (5, .sl (kd (x.map nx).length) ((x.map nx).map xc)), (17, .sl p.1.1 (p.1.2.map fM)), (18, .v (.int .i64 (p.1.2.length : Int))), (19, .v (.int .i64 (i : Int)))]) (fun i => [(0, { cells := pbc p, sz := 3, elem := (25), st := 0 })]) (fun i n => i ≤ p.1.2.length ∧ (∀ a, a < i → feaR p x a = true) ∧ 0 < n) (fun i => p.1.2.length - i) (0) ⟨J, J, J, J, J, trivial⟩ ⟨gG, trivial⟩ ⟨Nat.zero_le _, fun a ha => absurd ha om, om⟩ ?_
 rintro i n hF
 change WC _ _ _ _ _ (_ :: _) (_ :: _) n _
 obtain ⟨hi, hok, hn⟩ := hF
 refine Rg 1 J <| aA (bZ J J) J <| bB (fun h20 => ?_) (fun h20 => ?_)
 rotate_left
 ·refine Wn <| aX J <| bA <| aS <| aR J <| Rg 1 J <| Ua J J <| Wn <| aN <| post (n := 0) (.inr J) J ?_ dD
  exact congrArg (fun z => LV.v (.bool z)) (feaS_3 h12 (fun a ha => hok a om))
 refine Wn <| aT J <| aH <| aL ?_
 obtain ⟨hwl, hwv⟩ := hV.rowlen (i := i) om
 have hIr := hI.m _ (bS (us := p.1.2) (i := i) om)
 have hbv := hrv _ (bS (us := p.2.1.2) (i := i) om)
 have hbd := dtN_bd hwv (fun a ha => (hxv a ha).1) om om
 have he : (dtX ((p.1.2.getD i default).2.map nx) (x.map nx) ((p.1.2.getD i default).2.map nx).length).1 = dtN (p.1.2.getD i default).2 x := by rw [List.length_map]; exact lD om
 refine Rg 5 J <| Um J J <| aA (cG J J J J J om J) J <| aA (dY (l := .sl (p.1.2.getD i default).1 ((p.1.2.getD i default).2.map mc)) J J J) J <| Ua J J <| Ua J J <| Wn <| bR (z := 12) J kR <| Dm J J <| aC (aK J (eN (p.1.2.getD i default).1 (p.1.2.getD i default).2 om hIr (fun a ha => (hwv a ha).all3.2.2)) (aJ (by intro c hc; simp only [List.mem_cons, List.not_mem_nil, or_false] at hc; rcases hc with rfl; exact (.sl _ _ (aY eS))))) J <| Dm J J <| aC (aK J (kN _ _ ((p.1.2.getD i default).2.map nx) (x.map nx) (by rw [List.length_map, List.length_map]; omega) (by rw [List.length_map]; omega) 2 om om (fN hwv) (fN (fun a ha => (hxv a ha).1))) (aJ (by intro c hc; simp only [List.mem_cons, List.not_mem_nil, or_false] at hc; rcases hc with rfl | rfl; exact (.sl _ _ (aY nG)); exact (.sl _ _ (aY nG))))) J <| aC (aU J J J J J) J <| aC (aM (l := .sl p.2.1.1 (p.2.1.2.map mc)) J J gG J J) J ?_
 refine Dm J J <| aC (cG (j := i) J J J J om om J) J <| aC (dY (l := lvM (p.2.1.2.getD i default)) J J J) J <| aC (aV (b := lvX (nx (p.2.1.2.getD i default))) (aK J (jV (p.2.1.2.getD i default) hbv.all3.1 hbv.all3.2.1 hbv.all3.2.2) (aJ (by intro c hc; simp only [List.mem_cons, List.not_mem_nil, or_false] at hc; rcases hc with rfl; exact (.agg _ (eS _))))) J) J <| aC (aK J (oL (dtX ((p.1.2.getD i default).2.map nx) (x.map nx) ((p.1.2.getD i default).2.map nx).length) (nx (p.2.1.2.getD i default)) (by rw [he]; rw [List.length_map] at he; rw [← lD (show (p.1.2.getD i default).2.length ≤ x.length by omega)]; exact hbd.mono om) (hbv.bd.mono om)) (aJ (by intro c hc; simp only [List.mem_cons, List.not_mem_nil, or_false] at hc; rcases hc with rfl | rfl; exact gZ; exact gZ))) J <| aC (eB J J) J <| jD (fun h35 => ?_) (fun h35 => ?_)
 ·refine bG (dX (rn n) (by simp only [List.reverse_cons, List.reverse_nil, List.nil_append, List.cons_append, List.map_cons, List.map_nil, ren, keys, Nat.add_assoc, iR, show rn n 0 = 0 from kG om]; kernel_rfl)) J <| Ck [2,5,17,18,19,35] J <| bY J <| Rg 1 J <| Ua J J <| Wn <| aN <| aP <| cR <| aP ?_
  rw [he] at h35
  refine post (n := 0) (.inr J) J ?_ dD
  exact congrArg (fun z => LV.v (.bool z)) (feaS_2 (i := i) om (feaR_F h35))
 refine bG (dX (rn n) (by simp only [List.reverse_cons, List.reverse_nil, List.nil_append, List.cons_append, List.map_cons, List.map_nil, ren, keys, Nat.add_assoc, iR, show rn n 0 = 0 from kG om]; kernel_rfl)) J <| Ck [2,5,17,18,19,35] J <| bV J <| cA <| aF <| aI (z := 2) J <| aA (cI (((i + 1 : Nat) : Int)) (aO J J om) om) J <| Um J J <| Wn <| aG ?_
 rw [he] at h35
 refine ⟨i + 1, ⟨J, J, J, J, J, trivial⟩, ⟨gG, trivial⟩, ⟨om, fun a ha => ?_, om⟩, by show p.1.2.length - (i + 1) < p.1.2.length - i; omega⟩
 by_cases e : a = i
 ·rw [e]; exact feaR_T h35
 ·exact hok a om
theorem lcov_run (ky kl : Nat) (p : PB) (y : List NM) (ls : List X) (hV : VP p) (hI : IP p) (hy : IV y) (hyv : ∀ a, a ∈ y → VN a) (hyl : y.length = p.1.2.length) (hls : ls.length = p.2.2.2.length) (hlb : ∀ x, x ∈ ls → Bd 1000000 x.1) : Run Tryz.prog T E0 (.call 53 [lvPb p, .sl ky (y.map mc), .sl kl (ls.map xc)] (.v (.bool (covS p y (rvs ls))))) := by
 have hrows := hV.rows
 have hcols := hV.cols
 refine bL Tryz.func53 J J (dH J) <| Rg 2 J <| bJ (eO J J) J <| Ua J J <| Wn <| aB <| Rg 4 J <| aA (aU J J J J J) J <| aA (aM (l := .sl p.2.2.1 (p.2.2.2.map mc)) J J gG J J) J ?_
 refine aA (aW J J) J <| Um J J <| Wn <| aL <| bF (α := Nat) (fun kk => [(1, .sl ky (y.map mc)), (2, .sl kl (ls.map xc)), (3, .ptr 0 0), (13, .v (.int .i64 (p.2.2.2.length : Int))), (14, .v (.int .i64 (kk : Int)))]) (fun kk => [(0, { cells := pbc p, sz := 3, elem := (25), st := 0 })]) (fun kk n => kk ≤ p.2.2.2.length ∧ (∀ a, a < kk → ¬ (colS p y a p.1.2.length - (rvs ls).getD a default).num.sign < 0) ∧ 0 < n) (fun kk => p.2.2.2.length - kk) (0) ⟨J, J, J, J, J, trivial⟩ ⟨gG, trivial⟩ ⟨Nat.zero_le _, fun a ha => absurd ha om, om⟩ ?_
 rintro kk n hF
 change WC _ _ _ _ _ (_ :: _) (_ :: _) n _
 obtain ⟨hk, hok, hn⟩ := hF
 refine Rg 1 J <| aA (bZ J J) J <| bB (fun h15 => ?_) (fun h15 => ?_)
 rotate_left
 ·refine Wn <| aX J <| bA <| aS <| aR J <| Rg 1 J <| Ua J J <| Wn <| aN <| post (n := 0) (.inr J) J ?_ dD
  exact congrArg (fun z => LV.v (.bool z)) (covS_T (fun a ha => hok a om))
 refine Wn <| aT J <| aH <| aL <| Rg 2 J <| Um J J <| Ua J J <| cJ ?_
 obtain ⟨nM, hnM⟩ : ∃ z, z = n := ⟨n, rfl⟩
 subst hnM
 refine Rg 1 J <| bJ (fD J) J <| Wn <| aB <| Rg 4 J <| aA (aU J J J J J) J <| aA (aM (l := .sl p.1.1 (p.1.2.map fM)) J J gG J J) J ?_
 refine aA (aW J J) J <| Um J J <| Wn <| aL <| bF (α := Nat) (fun i => [(1, .sl ky (y.map mc)), (2, .sl kl (ls.map xc)), (3, .ptr 0 0), (7, .v (.int .i64 (kk : Int))), (8, .ptr (nM + 1 + 2 + 0) 0), (13, .v (.int .i64 (p.2.2.2.length : Int))), (14, .v (.int .i64 (kk : Int))), (18, .sl p.1.1 (p.1.2.map fM)), (19, .v (.int .i64 (p.1.2.length : Int))), (20, .v (.int .i64 (i : Int)))]) (fun i => [((nM + 1 + 2 + 0), { cells := xc (colX p y kk i), sz := 4, elem := (88), st := 0 }), (0, { cells := pbc p, sz := 3, elem := (25), st := 0 })]) (fun i n => i ≤ p.1.2.length ∧ nM + 3 < n) (fun i => p.1.2.length - i) (0) ⟨J, J, J, J, J, J, J, J, J, J, trivial⟩ ⟨gG, gG, trivial⟩ ⟨Nat.zero_le _, om⟩ ?_
 rintro i n hF
 change WC _ _ _ _ _ (_ :: _) (_ :: _) n _
 obtain ⟨hi, hn2⟩ := hF
 refine Rg 1 J <| aA (bZ J J) J <| bB (fun h21 => ?_) (fun h21 => ?_)
 ·refine Wn <| aT J <| aH <| aL ?_
  obtain ⟨hwl, hwv⟩ := hV.rowlen (i := i) om
  have hav := hwv _ (bS (us := (p.1.2.getD i default).2) (i := kk) om)
  have hbv := hyv _ (bS (us := y) (i := i) om)
  have hcb := qP hV (k := kk) om hyv hyl i om
  refine Rg 5 J <| Um J J <| aA (cG J J J J J om J) J <| aA (dY (l := .sl (p.1.2.getD i default).1 ((p.1.2.getD i default).2.map mc)) J J J) J <| Ua J J <| Ua J J <| Nk [1,2,3,7,8,9,10,13,14,18,19,20] J <| dN (z := 14) J kR <| aC (aM (l := lvX (colX p y kk i)) J J gG J J) J ?_
  refine Dm J J <| Dm J J <| aC (cG (j := kk) J J J J om om J) J <| aC (dY (l := lvM ((p.1.2.getD i default).2.getD kk default)) J J J) J <| aC (aV (b := lvX (nx ((p.1.2.getD i default).2.getD kk default))) (aK J (jV ((p.1.2.getD i default).2.getD kk default) hav.all3.1 hav.all3.2.1 hav.all3.2.2) (aJ (by intro c hc; simp only [List.mem_cons, List.not_mem_nil, or_false] at hc; rcases hc with rfl; exact (.agg _ (eS _))))) J) J <| Dm J J <| Dm J J <| aC (cG (j := i) J J J J om om J) J <| aC (dY (l := lvM (y.getD i default)) J J J) J <| aC (aV (b := lvX (nx (y.getD i default))) (aK J (jV (y.getD i default) hbv.all3.1 hbv.all3.2.1 hbv.all3.2.2) (aJ (by intro c hc; simp only [List.mem_cons, List.not_mem_nil, or_false] at hc; rcases hc with rfl; exact (.agg _ (eS _))))) J) J <| aC (aK J (mG (nx ((p.1.2.getD i default).2.getD kk default)) (nx (y.getD i default)) (hav.bd.mono om) (hbv.bd.mono om)) (aJ (by intro c hc; simp only [List.mem_cons, List.not_mem_nil, or_false] at hc; rcases hc with rfl | rfl; exact gZ; exact gZ))) J <| aC (aV (b := lvX (colX p y kk (i + 1))) (aK J (oJ (colX p y kk i) (xmul (nx ((p.1.2.getD i default).2.getD kk default)) (nx (y.getD i default))) (hcb.mono om) ((hav.bd.mul hbv.bd).mono om)) (aJ (by intro c hc; simp only [List.mem_cons, List.not_mem_nil, or_false] at hc; rcases hc with rfl | rfl; exact gZ; exact gZ))) J) J <| cO (cP (cs' := xc (colX p y kk (i + 1))) J J J gG J J J J) ?_
  refine bG (dX (rn n) (by simp only [List.reverse_cons, List.reverse_nil, List.nil_append, List.cons_append, List.map_cons, List.map_nil, ren, keys, Nat.add_assoc, iR, show rn n (nM + 3) = 0 from kG om]; kernel_rfl)) J <| aF <| Ck [1,2,3,7,8,13,14,18,19,20] J <| aI (z := 2) J <| aA (cI (((i + 1 : Nat) : Int)) (aO J J om) om) J <| Um J J <| Wn <| aG <| ⟨i + 1, ⟨J, J, J, J, J, J, J, J, J, J, trivial⟩, ⟨gG, gG, trivial⟩, ⟨om, om⟩, by show p.1.2.length - (i + 1) < p.1.2.length - i; omega⟩
 refine Wn <| aX J <| bA <| aS <| aR J ?_
 have hil : i = p.1.2.length := by omega
 subst hil
 have hcb := qP hV (k := kk) om hyv hyl p.1.2.length om
 have hlk := hlb _ (bS (us := ls) (i := kk) om)
 have he : (colX p y kk p.1.2.length).1 - (ls.getD kk default).1 = colS p y kk p.1.2.length - (rvs ls).getD kk default := by rw [colX_v, rvs_get om]
 refine bR (z := 7) J kR <| aC (aM (l := lvX (colX p y kk p.1.2.length)) J J gG J J) J ?_
 refine Dm J J <| Dm J J <| aC (cG (j := kk) J J J J om om J) J <| aC (dY (l := lvX (ls.getD kk default)) J J J) J <| aC (aK J (oL (colX p y kk p.1.2.length) (ls.getD kk default) (hcb.mono om) (hlk.mono om)) (aJ (by intro c hc; simp only [List.mem_cons, List.not_mem_nil, or_false] at hc; rcases hc with rfl | rfl; exact gZ; exact gZ))) J <| aC (bZ J J) J <| jD (fun h45 => ?_) (fun h45 => ?_)
 ·refine bG (dX (rn n) (by simp only [List.reverse_cons, List.reverse_nil, List.nil_append, List.cons_append, List.map_cons, List.map_nil, ren, keys, Nat.add_assoc, iR, show rn n (nM + 3) = 0 from kG om]; kernel_rfl)) J <| Ck [1,2,3,13,14,45] J <| bY J <| Rg 1 J <| Ua J J <| Wn <| aN <| aP <| cR <| aP ?_
  rw [he] at h45
  refine post (n := 0) (.inr J) J ?_ dD
  exact congrArg (fun z => LV.v (.bool z)) (covS_F (k := kk) om h45)
 refine bG (dX (rn n) (by simp only [List.reverse_cons, List.reverse_nil, List.nil_append, List.cons_append, List.map_cons, List.map_nil, ren, keys, Nat.add_assoc, iR, show rn n (nM + 3) = 0 from kG om]; kernel_rfl)) J <| Ck [1,2,3,13,14,45] J <| bV J <| cA <| aF <| aI (z := 2) J <| aA (cI (((kk + 1 : Nat) : Int)) (aO J J om) om) J <| Um J J <| Wn <| aG ?_
 rw [he] at h45
 refine ⟨kk + 1, ⟨J, J, J, J, J, trivial⟩, ⟨gG, trivial⟩, ⟨om, fun a ha => ?_, om⟩, by show p.2.2.2.length - (kk + 1) < p.2.2.2.length - kk; omega⟩
 by_cases e : a = kk
 ·rw [e]; exact h45
 ·exact hok a om
theorem lchk1_run (r : M1) (ky : Nat) (y : List NM) (hr : IV r.2) (hrv : ∀ a, a ∈ r.2 → VN a) (hyv : ∀ a, a ∈ y → VN a) (hl : r.2.length ≤ y.length) (hl2 : r.2.length ≤ 60) : Run Tryz.prog T E0 (.call 58 [.sl r.1 (r.2.map mc), .ro [.sl ky ((y.map nx).map xc)]] (.v (.bool (decide (0 < dtN r.2 y))))) := by
 have he : (dtX (r.2.map nx) (y.map nx) (r.2.map nx).length).1 = dtN r.2 y := by rw [List.length_map]; exact lD hl
 refine bL Tryz.func58 J J (dH J) <| Rg 1 J <| Ua J J <| Wn <| bR (z := 7) J kR <| Dm J J <| aC (aK J (eN r.1 r.2 om hr (fun a ha => (hrv a ha).all3.2.2)) (aJ (by intro c hc; simp only [List.mem_cons, List.not_mem_nil, or_false] at hc; rcases hc with rfl; exact (.sl _ _ (aY eS))))) J <| aC (dY (l := .sl ky ((y.map nx).map xc)) J J J) J <| aC (aK J (kN _ ky (r.2.map nx) (y.map nx) (by rw [List.length_map, List.length_map]; omega) (by rw [List.length_map]; omega) 2 om om (fN hrv) (fN hyv)) (aJ (by intro c hc; simp only [List.mem_cons, List.not_mem_nil, or_false] at hc; rcases hc with rfl | rfl; exact (.sl _ _ (aY nG)); exact (.sl _ _ (aY nG))))) J <| aC (aK J (fH (dtX (r.2.map nx) (y.map nx) (r.2.map nx).length)) (aJ (by intro c hc; simp only [List.mem_cons, List.not_mem_nil, or_false] at hc; rcases hc with rfl; exact gZ))) J <| aC (eB J J) J <| aC (gX J) J <| bG (aQ kR) J <| aN <| post (n := 0) (.inr J) J ?_ dD
 exact congrArg (fun z => LV.v (.bool z)) (by rw [he]; exact decide_eq_decide.2 jI)
theorem lFeas_run (kx : Nat) (p : PB) (x : List NM) (hI : IP p) (hx : IV x) (lx : x.length < 1000000) : Run Tryz.prog T E0 (.call 20 [lvPb p, .sl kx (x.map mc)] (feaO p x)) := by
 refine bL Tryz.func20 J J (dH J) <| Rg 3 J <| bJ (eO J J) J <| Ua J J <| Ua J J <| Wn <| aL <| Rg 9 J <| aA (aM (l := lvPb p) J J gG J J) J ?_
 refine aA (aK J (nI p hI) (aJ (by intro c hc; simp only [List.mem_cons, List.not_mem_nil, or_false] at hc; rcases hc with rfl; exact gZ))) J <| dT (fun h8 => ?_) (fun h8 => ?_)
 rotate_left
 ·refine aA (dE J) J <| Um J J <| K1 J J <| K1 J J <| K1 J J <| aA (bM J J) J <| Ua J J <| Wn <| bY J <| Rg 2 J <| Ua J J <| Ua J J <| Wn <| aN <| aP <| post (n := 0) (.inr J) J ?_ mO
  first | exact feaO_1 h8 | exact feaO_2 h12 | exact feaO_3 h8 h12 h21 | exact feaO_4 h8 h12 h21
 refine aA (dE J) J <| Um J J <| aE J (dK J) J <| aE J (aK J (vv_run kx x hx om) (aJ (by intro c hc; simp only [List.mem_cons, List.not_mem_nil, or_false] at hc; rcases hc with rfl; exact (.sl _ _ (aY eS))))) J <| dT (fun h12 => ?_) (fun h12 => ?_)
 rotate_left
 ·refine aE J (dE J) J <| aA (bK J J) J <| Ua J J <| Wn <| bY J <| Rg 2 J <| Ua J J <| Ua J J <| Wn <| aN <| aP <| post (n := 0) (.inr J) J ?_ mO
  first | exact feaO_1 h8 | exact feaO_2 h12 | exact feaO_3 h8 h12 h21 | exact feaO_4 h8 h12 h21
 refine aE J (dE J) J <| aA (bK J J) J <| Ua J J <| Wn <| bV J ?_
 have hV := lS.1 h8
 refine Rg 7 J <| Um J J <| aA (aW J J) J <| aA (aU J J J J J) J <| aA (aM (l := .sl p.2.2.1 (p.2.2.2.map mc)) J J gG J J) J ?_
 refine aA (aW J J) J <| aA (gJ J J) J <| bB (fun h21 => ?_) (fun h21 => ?_)
 ·refine Ua J J <| Nk [1,2,15] J <| bY J <| Rg 2 J <| Ua J J <| Ua J J <| Wn <| aN <| aP <| post (n := 0) (.inr J) J ?_ mO
  first | exact feaO_1 h8 | exact feaO_2 h12 | exact feaO_3 h8 h12 h21 | exact feaO_4 h8 h12 h21
 refine Ua J J <| Nk [1,2,15] J <| bV J <| cA <| aF <| Rg 5 J <| aA (aM (l := lvPb p) J J gG J J) J ?_
 refine Um J J <| aA (aK J (oW kx p x hV hI hx lx) (aJ (by intro c hc; simp only [List.mem_cons, List.not_mem_nil, or_false] at hc; rcases hc with rfl | rfl; exact gZ; exact (.sl _ _ (aY eS))))) J <| Ua J J <| Ua J J <| Wn <| aN <| post (n := 0) (.inr J) J ?_ mO
 first | exact feaO_1 h8 | exact feaO_2 h12 | exact feaO_3 h8 h12 h21 | exact feaO_4 h8 h12 h21
end Go.Proofs.YtohfklpfeilcpaaGreat
namespace Go.Proofs.YtohfklpfeilcpaaGreat
open Go.Ab Go.RowKit
theorem lCheck_run (p : PB) (r : RS) (hI : IP p) (hR : IR r) : Run Tryz.prog T E0 (.call 16 [lvPb p, lvRs r] (lckO p r)) := by
 refine bL Tryz.func16 J J (dH J) <| Rg 4 J <| bJ (eO J J) J <| bJ (eO J J) J <| Ua J J <| Ua J J <| Wn <| aB <| Rg 3 J <| aA (aM (l := lvPb p) J J gG J J) J ?_
 refine aA (aK J (nI p hI) (aJ (by intro c hc; simp only [List.mem_cons, List.not_mem_nil, or_false] at hc; rcases hc with rfl; exact gZ))) J <| dT (fun h11 => ?_) (fun h11 => ?_)
 rotate_left
 ·refine aA (dE J) J <| Wn <| aT J <| aB <| Rg 2 J <| Ua J J <| Ua J J <| Wn <| bI <| post (n := 0) (.inr J) J ?_ dC
  first | exact gU h11 | exact bO h11 h17 (cS h21) | exact bO h11 h17 (eP h30) | exact bO h11 h17 (eT h38) | exact bO h11 h17 (eD h48) | exact bO h11 h17 (eE h21 h30 h38 h48 he) | exact bD h11 h17 h62 (cU h66) | exact bD h11 h17 h62 (eU h71) | exact bD h11 h17 h62 (cV h77) | exact bD h11 h17 h62 (cW h86) | exact bD h11 h17 h62 (cX h95) | exact bD h11 h17 h62 (eV h66 h71 h77 h86 h95 he) | exact aZ h11 h17 h62 h108 (cY h111) | exact aZ h11 h17 h62 h108 (eW h117) | exact aZ h11 h17 h62 h108 (cZ h123) | exact aZ h11 h17 h62 h108 (eX h132) | exact aZ h11 h17 h62 h108 (eY he h147) | exact aZ h11 h17 h62 h108 (eZ he2 h158) | exact aZ h11 h17 h62 h108 (fA h111 h117 h123 h132 he h147 he2 h158 (eQ _)) | exact fF h11 h17 h62 h108
 refine aA (dE J) J <| Wn <| aX J <| aH ?_
 have hV := lS.1 h11
 have hrows := hV.rows
 have hcols := hV.cols
 have hrl := hV.rl
 obtain ⟨hr60, hrv⟩ := nT hV.r
 obtain ⟨hg60, hgv⟩ := nT hV.g
 have hlx := hR.lx
 have hly := hR.ly
 have hlr := hR.lr
 refine Rg 3 J <| aA (gS (cs := mc (0, 0)) J J J J J) J <| bJ (fD J) J <| bH (cP (cs' := mc (0, 0)) J J J g0 J J J J) <| Wn <| aB <| Rg 2 J <| aA (aU J J J J J) J <| aA (aM J J gG J J) J ?_
 refine Wn <| aL <| Rg 2 J <| aA (dV J J) J <| bB (fun h17 => ?_) (fun h17 => ?_)
 ·refine Ua J J <| Nk [2,3,6,15,16] J <| bY J <| bR (z := 45) J kR <| aC (aU J J J J J) J <| aC (aM (l := lvM r.2.1) J J gG J J) J ?_
  refine aC (aM (l := lvM (0, 0)) J J gG J J) J ?_
  refine aC (aV (b := .v (.bool (decide (r.2.1 = ((0, 0) : NM))))) (oEqS J J J J (lB _ _)) (congrArg (fun z => LV.v (.bool z)) (nm_eq _ _))) J <| WD.B (fun h21 => ?_) (fun h21 => ?_)
  rotate_left
  ·refine Dm J J <| bE J J <| bE J J <| bE J J <| bE J J <| bE J J <| bE J J <| bE J J <| bE J J <| aC (bK J J) J <| Dm J J <| bE J J <| bE J J <| bE J J <| bE J J <| bE J J <| bE J J <| aC (bK J J) J <| Dm J J <| bE J J <| bE J J <| bE J J <| bE J J <| bE J J ?_
   refine bE J J <| bE J J <| bE J J <| aC (bK J J) J <| Dm J J <| bE J J <| bE J J <| bE J J <| bE J J <| bE J J <| bE J J <| bE J J <| bE J J <| bE J J <| aC (bK J J) J <| aC (gX J) J <| aC (gX J) J <| bG (aQ kR) J <| Ck [4,5] J <| aN <| aP <| post (n := 0) (.inr J) J ?_ dC
   first | exact gU h11 | exact bO h11 h17 (cS h21) | exact bO h11 h17 (eP h30) | exact bO h11 h17 (eT h38) | exact bO h11 h17 (eD h48) | exact bO h11 h17 (eE h21 h30 h38 h48 he) | exact bD h11 h17 h62 (cU h66) | exact bD h11 h17 h62 (eU h71) | exact bD h11 h17 h62 (cV h77) | exact bD h11 h17 h62 (cW h86) | exact bD h11 h17 h62 (cX h95) | exact bD h11 h17 h62 (eV h66 h71 h77 h86 h95 he) | exact aZ h11 h17 h62 h108 (cY h111) | exact aZ h11 h17 h62 h108 (eW h117) | exact aZ h11 h17 h62 h108 (cZ h123) | exact aZ h11 h17 h62 h108 (eX h132) | exact aZ h11 h17 h62 h108 (eY he h147) | exact aZ h11 h17 h62 h108 (eZ he2 h158) | exact aZ h11 h17 h62 h108 (fA h111 h117 h123 h132 he h147 he2 h158 (eQ _)) | exact fF h11 h17 h62 h108
  refine Dm J J <| bC J (aU J J J J J) J <| bC J (aM (l := .sl r.2.2.1.1 (r.2.2.1.2.map mc)) J J gG J J) J ?_
  refine bC J (aW J J) J <| bC J (aU J J J J J) J <| bC J (aM (l := .sl r.2.2.2.2.1 (r.2.2.2.2.2.map mc)) J J gG J J) J ?_
  refine bC J (aW J J) J <| bC J (aO J J om) J <| bC J (dV J J) J <| jD (fun h30 => ?_) (fun h30 => ?_)
  rotate_left
  ·refine aC (bM J J) J <| Dm J J <| bE J J <| bE J J <| bE J J <| bE J J <| bE J J <| bE J J <| aC (bK J J) J <| Dm J J <| bE J J <| bE J J <| bE J J <| bE J J <| bE J J <| bE J J <| bE J J <| bE J J <| aC (bK J J) J <| Dm J J <| bE J J <| bE J J <| bE J J <| bE J J ?_
   refine bE J J <| bE J J <| bE J J <| bE J J <| bE J J <| aC (bK J J) J <| aC (gX J) J <| aC (gX J) J <| bG (aQ kR) J <| Ck [4,5] J <| aN <| aP <| post (n := 0) (.inr J) J ?_ dC
   first | exact gU h11 | exact bO h11 h17 (cS h21) | exact bO h11 h17 (eP h30) | exact bO h11 h17 (eT h38) | exact bO h11 h17 (eD h48) | exact bO h11 h17 (eE h21 h30 h38 h48 he) | exact bD h11 h17 h62 (cU h66) | exact bD h11 h17 h62 (eU h71) | exact bD h11 h17 h62 (cV h77) | exact bD h11 h17 h62 (cW h86) | exact bD h11 h17 h62 (cX h95) | exact bD h11 h17 h62 (eV h66 h71 h77 h86 h95 he) | exact aZ h11 h17 h62 h108 (cY h111) | exact aZ h11 h17 h62 h108 (eW h117) | exact aZ h11 h17 h62 h108 (cZ h123) | exact aZ h11 h17 h62 h108 (eX h132) | exact aZ h11 h17 h62 h108 (eY he h147) | exact aZ h11 h17 h62 h108 (eZ he2 h158) | exact aZ h11 h17 h62 h108 (fA h111 h117 h123 h132 he h147 he2 h158 (eQ _)) | exact fF h11 h17 h62 h108
  refine aC (bM J J) J <| Dm J J <| bC J (aU J J J J J) J <| bC J (aM (l := .sl r.2.2.2.1.1 (r.2.2.2.1.2.map mc)) J J gG J J) J ?_
  refine bC J (aU J J J J J) J <| bC J (aM (l := .sl p.1.1 (p.1.2.map fM)) J J gG J J) J ?_
  refine bC J (aW J J) J <| bC J (aK J (nZ r.2.2.2.1.1 r.2.2.2.1.2 p.1.2.length hR.y hR.ly ) (aJ (by intro c hc; simp only [List.mem_cons, List.not_mem_nil, or_false] at hc; rcases hc with rfl | rfl; exact (.sl _ _ (aY eS)); exact (.v _)))) J <| WD.B (fun h38 => ?_) (fun h38 => ?_)
  rotate_left
  ·refine aC (bM J J) J <| Dm J J <| bE J J <| bE J J <| bE J J <| bE J J <| bE J J <| bE J J <| bE J J <| bE J J <| aC (bK J J) J <| Dm J J <| bE J J <| bE J J <| bE J J <| bE J J <| bE J J <| bE J J <| bE J J <| bE J J <| bE J J <| aC (bK J J) J <| aC (gX J) J <| aC (gX J) J ?_
   refine bG (aQ kR) J <| Ck [4,5] J <| aN <| aP <| post (n := 0) (.inr J) J ?_ dC
   first | exact gU h11 | exact bO h11 h17 (cS h21) | exact bO h11 h17 (eP h30) | exact bO h11 h17 (eT h38) | exact bO h11 h17 (eD h48) | exact bO h11 h17 (eE h21 h30 h38 h48 he) | exact bD h11 h17 h62 (cU h66) | exact bD h11 h17 h62 (eU h71) | exact bD h11 h17 h62 (cV h77) | exact bD h11 h17 h62 (cW h86) | exact bD h11 h17 h62 (cX h95) | exact bD h11 h17 h62 (eV h66 h71 h77 h86 h95 he) | exact aZ h11 h17 h62 h108 (cY h111) | exact aZ h11 h17 h62 h108 (eW h117) | exact aZ h11 h17 h62 h108 (cZ h123) | exact aZ h11 h17 h62 h108 (eX h132) | exact aZ h11 h17 h62 h108 (eY he h147) | exact aZ h11 h17 h62 h108 (eZ he2 h158) | exact aZ h11 h17 h62 h108 (fA h111 h117 h123 h132 he h147 he2 h158 (eQ _)) | exact fF h11 h17 h62 h108
  obtain ⟨hyl, hyv⟩ := hN h38
  refine aC (bM J J) J <| Dm J J <| bC J (aM (l := lvPb p) J J gG J J) J ?_
  refine bC J (aU J J J J J) J <| bC J (aM (l := .sl r.2.2.2.1.1 (r.2.2.2.1.2.map mc)) J J gG J J) J ?_
  refine bC J (aU J J J J J) J <| bC J (aM (l := .sl p.2.2.1 (p.2.2.2.map mc)) J J gG J J) J ?_
  refine bC J (aW J J) J <| WD.Sg J (oMk (a := p.2.2.2.length) (b := p.2.2.2.length) J J J J om om (by decide) om (by show 64 * p.2.2.2.length ≤ _; omega) om) J <| bC J (oCallB [(0 + 4 + 3 + 3 + 2 + 2 + 29)] [lvPb p, .sl r.2.2.2.1.1 (r.2.2.2.1.2.map mc), .sl 1 ((List.replicate p.2.2.2.length x0).map xc)] J (lcov_run r.2.2.2.1.1 1 p r.2.2.2.1.2 (List.replicate p.2.2.2.length x0) hV hI hR.y (fun a ha => (hyv a ha).1) hyl (by simp) (by intro x hx; rw [(List.mem_replicate.1 hx).2]; exact Bd_0.mono om)) (.data gZ (.data (.sl _ _ (aY eS)) (.own ((List.replicate p.2.2.2.length x0).map xc) (by rw [List.length_map, List.length_replicate]) gG (by show (0 : Nat) ≠ 2; decide) J (by decide) (by simp) (by rw [List.map_replicate]; rfl) (fE (f := xc) (n := 4) fun _ => rfl) (aY nG) .nil))) (.cons gG (by show (0 : Nat) ≠ 2; decide) lent0)) J ?_
  refine WD.B (fun h48 => ?_) (fun h48 => ?_)
  rotate_left
  ·refine aC (bM J J) J <| Dm J J <| bE J J <| bE J J <| bE J J <| bE J J <| bE J J <| bE J J <| bE J J <| bE J J <| bE J J <| aC (bK J J) J <| aC (gX J) J <| aC (gX J) J <| bG (aQ kR) J <| Ck [4,5] J <| aN <| aP <| post (n := 0) (.inr J) J ?_ dC
   first | exact gU h11 | exact bO h11 h17 (cS h21) | exact bO h11 h17 (eP h30) | exact bO h11 h17 (eT h38) | exact bO h11 h17 (eD h48) | exact bO h11 h17 (eE h21 h30 h38 h48 he) | exact bD h11 h17 h62 (cU h66) | exact bD h11 h17 h62 (eU h71) | exact bD h11 h17 h62 (cV h77) | exact bD h11 h17 h62 (cW h86) | exact bD h11 h17 h62 (cX h95) | exact bD h11 h17 h62 (eV h66 h71 h77 h86 h95 he) | exact aZ h11 h17 h62 h108 (cY h111) | exact aZ h11 h17 h62 h108 (eW h117) | exact aZ h11 h17 h62 h108 (cZ h123) | exact aZ h11 h17 h62 h108 (eX h132) | exact aZ h11 h17 h62 h108 (eY he h147) | exact aZ h11 h17 h62 h108 (eZ he2 h158) | exact aZ h11 h17 h62 h108 (fA h111 h117 h123 h132 he h147 he2 h158 (eQ _)) | exact fF h11 h17 h62 h108
  have he : (dtX (p.2.1.2.map nx) (r.2.2.2.1.2.map nx) (p.2.1.2.map nx).length).1 = dtN p.2.1.2 r.2.2.2.1.2 := by rw [List.length_map]; exact lD om
  refine aC (bM J J) J <| Dm J J <| bC J (aU J J J J J) J <| bC J (aM (l := .sl p.2.1.1 (p.2.1.2.map mc)) J J gG J J) J ?_
  refine bC J (aK J (eN p.2.1.1 p.2.1.2 (by have := hI.lr; omega) hI.r (fun a ha => (hrv a ha).all3.2.2)) (aJ (by intro c hc; simp only [List.mem_cons, List.not_mem_nil, or_false] at hc; rcases hc with rfl; exact (.sl _ _ (aY eS))))) J <| bC J (aU J J J J J) J <| bC J (aM (l := .sl r.2.2.2.1.1 (r.2.2.2.1.2.map mc)) J J gG J J) J ?_
  refine bC J (aK J (eN r.2.2.2.1.1 r.2.2.2.1.2 (by have := hR.ly; omega) hR.y (fun a ha => ((fun a ha => (hyv a ha).1) a ha).all3.2.2)) (aJ (by intro c hc; simp only [List.mem_cons, List.not_mem_nil, or_false] at hc; rcases hc with rfl; exact (.sl _ _ (aY eS))))) J <| bC J (aK J (kN _ _ (p.2.1.2.map nx) (r.2.2.2.1.2.map nx) (by rw [List.length_map, List.length_map]; omega) (by rw [List.length_map]; omega) 2 om om (fN hrv) (fN (fun a ha => (hyv a ha).1))) (aJ (by intro c hc; simp only [List.mem_cons, List.not_mem_nil, or_false] at hc; rcases hc with rfl | rfl; exact (.sl _ _ (aY nG)); exact (.sl _ _ (aY nG))))) J <| bC J (aK J (fH (dtX (p.2.1.2.map nx) (r.2.2.2.1.2.map nx) (p.2.1.2.map nx).length)) (aJ (by intro c hc; simp only [List.mem_cons, List.not_mem_nil, or_false] at hc; rcases hc with rfl; exact gZ))) J <| bC J (bZ J J) J <| aC (bM J J) J <| aC (gX J) J <| aC (gX J) J <| bG (aQ kR) J <| Ck [4,5] J <| aN <| aP <| post (n := 0) (.inr J) J ?_ dC
  first | exact gU h11 | exact bO h11 h17 (cS h21) | exact bO h11 h17 (eP h30) | exact bO h11 h17 (eT h38) | exact bO h11 h17 (eD h48) | exact bO h11 h17 (eE h21 h30 h38 h48 he) | exact bD h11 h17 h62 (cU h66) | exact bD h11 h17 h62 (eU h71) | exact bD h11 h17 h62 (cV h77) | exact bD h11 h17 h62 (cW h86) | exact bD h11 h17 h62 (cX h95) | exact bD h11 h17 h62 (eV h66 h71 h77 h86 h95 he) | exact aZ h11 h17 h62 h108 (cY h111) | exact aZ h11 h17 h62 h108 (eW h117) | exact aZ h11 h17 h62 h108 (cZ h123) | exact aZ h11 h17 h62 h108 (eX h132) | exact aZ h11 h17 h62 h108 (eY he h147) | exact aZ h11 h17 h62 h108 (eZ he2 h158) | exact aZ h11 h17 h62 h108 (fA h111 h117 h123 h132 he h147 he2 h158 (eQ _)) | exact fF h11 h17 h62 h108
 refine Ua J J <| Nk [2,3,6,15,16] J <| bV J <| Rg 2 J <| aA (dV J J) J <| bB (fun h62 => ?_) (fun h62 => ?_)
 ·refine Ua J J <| Wn <| bY J <| aB <| Rg 26 J <| aA (aU J J J J J) J <| aA (aM (l := lvM r.2.1) J J gG J J) J ?_
  refine aA (aM (l := lvM (0, 0)) J J gG J J) J ?_
  refine aA (aV (b := .v (.bool (!decide (r.2.1 = ((0, 0) : NM))))) (oNeS J J J J (lB _ _)) (congrArg (fun z => LV.v (.bool (!z))) (nm_eq _ _))) J <| dT (fun h66 => ?_) (fun h66 => ?_)
  ·refine Um J J <| K1 J J <| K1 J J <| K1 J J <| K1 J J <| aA (bM J J) J <| Um J J <| K1 J J <| K1 J J <| K1 J J <| K1 J J <| K1 J J <| aA (bM J J) J <| Um J J <| K1 J J <| K1 J J <| K1 J J <| K1 J J <| K1 J J <| K1 J J <| K1 J J <| aA (bM J J) J <| Nk [2,3,88] J ?_
   refine aT J <| aB <| Rg 2 J <| Ua J J <| Ua J J <| Wn <| bI <| aP <| post (n := 0) (.inr J) J ?_ dC
   first | exact gU h11 | exact bO h11 h17 (cS h21) | exact bO h11 h17 (eP h30) | exact bO h11 h17 (eT h38) | exact bO h11 h17 (eD h48) | exact bO h11 h17 (eE h21 h30 h38 h48 he) | exact bD h11 h17 h62 (cU h66) | exact bD h11 h17 h62 (eU h71) | exact bD h11 h17 h62 (cV h77) | exact bD h11 h17 h62 (cW h86) | exact bD h11 h17 h62 (cX h95) | exact bD h11 h17 h62 (eV h66 h71 h77 h86 h95 he) | exact aZ h11 h17 h62 h108 (cY h111) | exact aZ h11 h17 h62 h108 (eW h117) | exact aZ h11 h17 h62 h108 (cZ h123) | exact aZ h11 h17 h62 h108 (eX h132) | exact aZ h11 h17 h62 h108 (eY he h147) | exact aZ h11 h17 h62 h108 (eZ he2 h158) | exact aZ h11 h17 h62 h108 (fA h111 h117 h123 h132 he h147 he2 h158 (eQ _)) | exact fF h11 h17 h62 h108
  refine Um J J <| aE J (aU J J J J J) J <| aE J (aM (l := .sl r.2.2.2.1.1 (r.2.2.2.1.2.map mc)) J J gG J J) J ?_
  refine aE J (aW J J) J <| aE J (eB J J) J <| bB (fun h71 => ?_) (fun h71 => ?_)
  ·refine aA (bK J J) J <| Um J J <| K1 J J <| K1 J J <| K1 J J <| K1 J J <| K1 J J <| aA (bM J J) J <| Um J J <| K1 J J <| K1 J J <| K1 J J <| K1 J J <| K1 J J <| K1 J J <| K1 J J <| aA (bM J J) J <| Nk [2,3,88] J <| aT J <| aB <| Rg 2 J <| Ua J J <| Ua J J ?_
   refine Wn <| bI <| aP <| post (n := 0) (.inr J) J ?_ dC
   first | exact gU h11 | exact bO h11 h17 (cS h21) | exact bO h11 h17 (eP h30) | exact bO h11 h17 (eT h38) | exact bO h11 h17 (eD h48) | exact bO h11 h17 (eE h21 h30 h38 h48 he) | exact bD h11 h17 h62 (cU h66) | exact bD h11 h17 h62 (eU h71) | exact bD h11 h17 h62 (cV h77) | exact bD h11 h17 h62 (cW h86) | exact bD h11 h17 h62 (cX h95) | exact bD h11 h17 h62 (eV h66 h71 h77 h86 h95 he) | exact aZ h11 h17 h62 h108 (cY h111) | exact aZ h11 h17 h62 h108 (eW h117) | exact aZ h11 h17 h62 h108 (cZ h123) | exact aZ h11 h17 h62 h108 (eX h132) | exact aZ h11 h17 h62 h108 (eY he h147) | exact aZ h11 h17 h62 h108 (eZ he2 h158) | exact aZ h11 h17 h62 h108 (fA h111 h117 h123 h132 he h147 he2 h158 (eQ _)) | exact fF h11 h17 h62 h108
  refine aA (bK J J) J <| Um J J <| aE J (aM (l := lvPb p) J J gG J J) J ?_
  refine aE J (aU J J J J J) J <| aE J (aM (l := .sl r.2.2.1.1 (r.2.2.1.2.map mc)) J J gG J J) J ?_
  refine aE J (aK J (oW r.2.2.1.1 p r.2.2.1.2 hV hI hR.x hR.lx) (aJ (by intro c hc; simp only [List.mem_cons, List.not_mem_nil, or_false] at hc; rcases hc with rfl | rfl; exact gZ; exact (.sl _ _ (aY eS))))) J <| dT (fun h77 => ?_) (fun h77 => ?_)
  rotate_left
  ·refine aE J (dE J) J <| aA (bK J J) J <| Um J J <| K1 J J <| K1 J J <| K1 J J <| K1 J J <| K1 J J <| K1 J J <| K1 J J <| aA (bM J J) J <| Nk [2,3,88] J <| aT J <| aB <| Rg 2 J <| Ua J J <| Ua J J <| Wn <| bI <| aP <| post (n := 0) (.inr J) J ?_ dC
   first | exact gU h11 | exact bO h11 h17 (cS h21) | exact bO h11 h17 (eP h30) | exact bO h11 h17 (eT h38) | exact bO h11 h17 (eD h48) | exact bO h11 h17 (eE h21 h30 h38 h48 he) | exact bD h11 h17 h62 (cU h66) | exact bD h11 h17 h62 (eU h71) | exact bD h11 h17 h62 (cV h77) | exact bD h11 h17 h62 (cW h86) | exact bD h11 h17 h62 (cX h95) | exact bD h11 h17 h62 (eV h66 h71 h77 h86 h95 he) | exact aZ h11 h17 h62 h108 (cY h111) | exact aZ h11 h17 h62 h108 (eW h117) | exact aZ h11 h17 h62 h108 (cZ h123) | exact aZ h11 h17 h62 h108 (eX h132) | exact aZ h11 h17 h62 h108 (eY he h147) | exact aZ h11 h17 h62 h108 (eZ he2 h158) | exact aZ h11 h17 h62 h108 (fA h111 h117 h123 h132 he h147 he2 h158 (eQ _)) | exact fF h11 h17 h62 h108
  refine aE J (dE J) J <| aA (bK J J) J <| Um J J <| aE J (aU J J J J J) J <| aE J (aM (l := .sl r.2.2.2.2.1 (r.2.2.2.2.2.map mc)) J J gG J J) J ?_
  refine aE J (aU J J J J J) J <| aE J (aM (l := .sl p.2.2.1 (p.2.2.2.map mc)) J J gG J J) J ?_
  refine aE J (aW J J) J <| aE J (aK J (nZ r.2.2.2.2.1 r.2.2.2.2.2 p.2.2.2.length hR.ray hR.lr ) (aJ (by intro c hc; simp only [List.mem_cons, List.not_mem_nil, or_false] at hc; rcases hc with rfl | rfl; exact (.sl _ _ (aY eS)); exact (.v _)))) J <| dT (fun h86 => ?_) (fun h86 => ?_)
  rotate_left
  ·refine aE J (dE J) J <| aA (bK J J) J <| Nk [2,3,88] J <| aT J <| aB <| Rg 2 J <| Ua J J <| Ua J J <| Wn <| bI <| aP <| post (n := 0) (.inr J) J ?_ dC
   first | exact gU h11 | exact bO h11 h17 (cS h21) | exact bO h11 h17 (eP h30) | exact bO h11 h17 (eT h38) | exact bO h11 h17 (eD h48) | exact bO h11 h17 (eE h21 h30 h38 h48 he) | exact bD h11 h17 h62 (cU h66) | exact bD h11 h17 h62 (eU h71) | exact bD h11 h17 h62 (cV h77) | exact bD h11 h17 h62 (cW h86) | exact bD h11 h17 h62 (cX h95) | exact bD h11 h17 h62 (eV h66 h71 h77 h86 h95 he) | exact aZ h11 h17 h62 h108 (cY h111) | exact aZ h11 h17 h62 h108 (eW h117) | exact aZ h11 h17 h62 h108 (cZ h123) | exact aZ h11 h17 h62 h108 (eX h132) | exact aZ h11 h17 h62 h108 (eY he h147) | exact aZ h11 h17 h62 h108 (eZ he2 h158) | exact aZ h11 h17 h62 h108 (fA h111 h117 h123 h132 he h147 he2 h158 (eQ _)) | exact fF h11 h17 h62 h108
  refine aE J (dE J) J <| aA (bK J J) J <| Nk [2,3,88] J <| aX J <| aH ?_
  obtain ⟨hyl, hyv⟩ := hN h86
  refine Rg 5 J <| aA (aU J J J J J) J <| aA (aM (l := .sl r.2.2.2.2.1 (r.2.2.2.2.2.map mc)) J J gG J J) J ?_
  refine aA (aK J (eN r.2.2.2.2.1 r.2.2.2.2.2 (by have := hR.lr; omega) hR.ray (fun a ha => ((fun a ha => (hyv a ha).1) a ha).all3.2.2)) (aJ (by intro c hc; simp only [List.mem_cons, List.not_mem_nil, or_false] at hc; rcases hc with rfl; exact (.sl _ _ (aY eS))))) J <| bJ (fD J) J <| bH (cP (cs' := [.sl (kd (r.2.2.2.2.2.map nx).length) ((r.2.2.2.2.2.map nx).map xc)]) J J J g0 J J J J) <| Wn <| Rg 5 J <| aA (aU J J J J J) J <| aA (aM (l := .sl p.1.1 (p.1.2.map fM)) J J gG J J) J ?_
  refine aA (oMf J) J <| aA (oCallB [(0 + 4 + 3 + 3 + 2 + 2 + 2 + 26 + 3)] [.sl p.1.1 (p.1.2.map fM), .fn (.func 58) [] [.ro [.sl (kd (r.2.2.2.2.2.map nx).length) ((r.2.2.2.2.2.map nx).map xc)]]] J (rD p.1.1 p.1.2 58 [.ro [.sl (kd (r.2.2.2.2.2.map nx).length) ((r.2.2.2.2.2.map nx).map xc)]] (fun row => decide (0 < dtN row.2 r.2.2.2.2.2)) (by intro c hc; rw [List.mem_singleton] at hc; subst hc; exact .ro _ (by intro c hc; rw [List.mem_singleton] at hc; subst hc; exact .sl _ _ (aY nG))) om (fun row hrow => lchk1_run row _ r.2.2.2.2.2 (hI.m row hrow) (hV.row hrow) (fun a ha => (hyv a ha).1) (by have := hV.w row hrow; omega) (by have := hV.w row hrow; omega))) (.data (.sl _ _ (aY dfM)) (.fn .nil (.box (ob := { cells := [.sl (kd (r.2.2.2.2.2.map nx).length) ((r.2.2.2.2.2.map nx).map xc)], sz := 1, elem := (83), st := 0 }) gG (by simp) (by show (0 : Nat) ≠ 2; decide) (by intro c hc; rw [List.mem_singleton] at hc; subst hc; exact .sl _ _ (aY nG)) .nil) .nil)) (.cons gG (by show (0 : Nat) ≠ 2; decide) lent0)) J ?_
  refine dT (fun h95 => ?_) (fun h95 => ?_)
  ·refine Ua J J <| cJ ?_
   have he : (dtX (p.2.2.2.map nx) (r.2.2.2.2.2.map nx) (p.2.2.2.map nx).length).1 = dtN p.2.2.2 r.2.2.2.2.2 := by rw [List.length_map]; exact lD om
   refine bR (z := 13) J kR <| Dm J J <| aC (dE J) J <| Dm J J <| bE J J <| bE J J <| bE J J <| bE J J <| bE J J <| bE J J <| bE J J <| aC (bK J J) J <| aC (gX J) J <| aC (gX J) J <| bG (aQ kR) J <| Ck [4,5] J <| aN <| aP <| post (n := 0) (.inr J) J ?_ dC
   first | exact gU h11 | exact bO h11 h17 (cS h21) | exact bO h11 h17 (eP h30) | exact bO h11 h17 (eT h38) | exact bO h11 h17 (eD h48) | exact bO h11 h17 (eE h21 h30 h38 h48 he) | exact bD h11 h17 h62 (cU h66) | exact bD h11 h17 h62 (eU h71) | exact bD h11 h17 h62 (cV h77) | exact bD h11 h17 h62 (cW h86) | exact bD h11 h17 h62 (cX h95) | exact bD h11 h17 h62 (eV h66 h71 h77 h86 h95 he) | exact aZ h11 h17 h62 h108 (cY h111) | exact aZ h11 h17 h62 h108 (eW h117) | exact aZ h11 h17 h62 h108 (cZ h123) | exact aZ h11 h17 h62 h108 (eX h132) | exact aZ h11 h17 h62 h108 (eY he h147) | exact aZ h11 h17 h62 h108 (eZ he2 h158) | exact aZ h11 h17 h62 h108 (fA h111 h117 h123 h132 he h147 he2 h158 (eQ _)) | exact fF h11 h17 h62 h108
  refine Ua J J <| cJ ?_
  have he : (dtX (p.2.2.2.map nx) (r.2.2.2.2.2.map nx) (p.2.2.2.map nx).length).1 = dtN p.2.2.2 r.2.2.2.2.2 := by rw [List.length_map]; exact lD om
  refine bR (z := 13) J kR <| Dm J J <| aC (dE J) J <| Dm J J <| bC J (aU J J J J J) J <| bC J (aM (l := .sl p.2.2.1 (p.2.2.2.map mc)) J J gG J J) J ?_
  refine bC J (aK J (eN p.2.2.1 p.2.2.2 (by have := hI.lg; omega) hI.g (fun a ha => (hgv a ha).all3.2.2)) (aJ (by intro c hc; simp only [List.mem_cons, List.not_mem_nil, or_false] at hc; rcases hc with rfl; exact (.sl _ _ (aY eS))))) J <| bC J (aM (l := .sl (kd (r.2.2.2.2.2.map nx).length) ((r.2.2.2.2.2.map nx).map xc)) J J gG J J) J ?_
  refine bC J (aK J (kN _ _ (p.2.2.2.map nx) (r.2.2.2.2.2.map nx) (by rw [List.length_map, List.length_map]; omega) (by rw [List.length_map]; omega) 2 om om (fN hgv) (fN (fun a ha => (hyv a ha).1))) (aJ (by intro c hc; simp only [List.mem_cons, List.not_mem_nil, or_false] at hc; rcases hc with rfl | rfl; exact (.sl _ _ (aY nG)); exact (.sl _ _ (aY nG))))) J <| bC J (aK J (fH (dtX (p.2.2.2.map nx) (r.2.2.2.2.2.map nx) (p.2.2.2.map nx).length)) (aJ (by intro c hc; simp only [List.mem_cons, List.not_mem_nil, or_false] at hc; rcases hc with rfl; exact gZ))) J <| bC J (eB J J) J <| aC (bM J J) J <| aC (gX J) J <| aC (gX J) J <| bG (aQ kR) J <| Ck [4,5] J <| aN <| aP <| post (n := 0) (.inr J) J ?_ dC
  first | exact gU h11 | exact bO h11 h17 (cS h21) | exact bO h11 h17 (eP h30) | exact bO h11 h17 (eT h38) | exact bO h11 h17 (eD h48) | exact bO h11 h17 (eE h21 h30 h38 h48 he) | exact bD h11 h17 h62 (cU h66) | exact bD h11 h17 h62 (eU h71) | exact bD h11 h17 h62 (cV h77) | exact bD h11 h17 h62 (cW h86) | exact bD h11 h17 h62 (cX h95) | exact bD h11 h17 h62 (eV h66 h71 h77 h86 h95 he) | exact aZ h11 h17 h62 h108 (cY h111) | exact aZ h11 h17 h62 h108 (eW h117) | exact aZ h11 h17 h62 h108 (cZ h123) | exact aZ h11 h17 h62 h108 (eX h132) | exact aZ h11 h17 h62 h108 (eY he h147) | exact aZ h11 h17 h62 h108 (eZ he2 h158) | exact aZ h11 h17 h62 h108 (fA h111 h117 h123 h132 he h147 he2 h158 (eQ _)) | exact fF h11 h17 h62 h108
 refine Ua J J <| Wn <| bV J <| Rg 2 J <| aA (dV J J) J <| bB (fun h108 => ?_) (fun h108 => ?_)
 rotate_left
 ·refine Ua J J <| Wn <| bV J <| cA <| aF <| Rg 2 J <| Ua J J <| Ua J J <| Wn <| aN <| post (n := 0) (.inr J) J ?_ dC
  first | exact gU h11 | exact bO h11 h17 (cS h21) | exact bO h11 h17 (eP h30) | exact bO h11 h17 (eT h38) | exact bO h11 h17 (eD h48) | exact bO h11 h17 (eE h21 h30 h38 h48 he) | exact bD h11 h17 h62 (cU h66) | exact bD h11 h17 h62 (eU h71) | exact bD h11 h17 h62 (cV h77) | exact bD h11 h17 h62 (cW h86) | exact bD h11 h17 h62 (cX h95) | exact bD h11 h17 h62 (eV h66 h71 h77 h86 h95 he) | exact aZ h11 h17 h62 h108 (cY h111) | exact aZ h11 h17 h62 h108 (eW h117) | exact aZ h11 h17 h62 h108 (cZ h123) | exact aZ h11 h17 h62 h108 (eX h132) | exact aZ h11 h17 h62 h108 (eY he h147) | exact aZ h11 h17 h62 h108 (eZ he2 h158) | exact aZ h11 h17 h62 h108 (fA h111 h117 h123 h132 he h147 he2 h158 (eQ _)) | exact fF h11 h17 h62 h108
 refine Ua J J <| Wn <| bY J <| aB <| Rg 26 J <| aA (aU J J J J J) J <| aA (aM (l := lvM r.2.1) J J gG J J) J ?_
 refine aA (aV (b := .v (.bool (vn r.2.1))) (aK J (nJ r.2.1 hR.v.1 hR.v.2) (aJ (by intro c hc; simp only [List.mem_cons, List.not_mem_nil, or_false] at hc; rcases hc with rfl; exact (.agg _ (eS _))))) J) J <| dT (fun h111 => ?_) (fun h111 => ?_)
 rotate_left
 ·refine aA (dE J) J <| Um J J <| K1 J J <| K1 J J <| K1 J J <| K1 J J <| aA (bM J J) J <| Um J J <| K1 J J <| K1 J J <| K1 J J <| K1 J J <| K1 J J <| aA (bM J J) J <| Um J J <| K1 J J <| K1 J J <| K1 J J <| K1 J J <| K1 J J <| K1 J J <| K1 J J <| aA (bM J J) J <| cJ ?_
  refine Ck [2,3,134] J <| aT J <| aB <| Rg 2 J <| Ua J J <| Ua J J <| Wn <| bI <| aP <| post (n := 0) (.inr J) J ?_ dC
  first | exact gU h11 | exact bO h11 h17 (cS h21) | exact bO h11 h17 (eP h30) | exact bO h11 h17 (eT h38) | exact bO h11 h17 (eD h48) | exact bO h11 h17 (eE h21 h30 h38 h48 he) | exact bD h11 h17 h62 (cU h66) | exact bD h11 h17 h62 (eU h71) | exact bD h11 h17 h62 (cV h77) | exact bD h11 h17 h62 (cW h86) | exact bD h11 h17 h62 (cX h95) | exact bD h11 h17 h62 (eV h66 h71 h77 h86 h95 he) | exact aZ h11 h17 h62 h108 (cY h111) | exact aZ h11 h17 h62 h108 (eW h117) | exact aZ h11 h17 h62 h108 (cZ h123) | exact aZ h11 h17 h62 h108 (eX h132) | exact aZ h11 h17 h62 h108 (eY he h147) | exact aZ h11 h17 h62 h108 (eZ he2 h158) | exact aZ h11 h17 h62 h108 (fA h111 h117 h123 h132 he h147 he2 h158 (eQ _)) | exact fF h11 h17 h62 h108
 refine aA (dE J) J <| Um J J <| aE J (aU J J J J J) J <| aE J (aM (l := .sl r.2.2.2.2.1 (r.2.2.2.2.2.map mc)) J J gG J J) J ?_
 refine aE J (aW J J) J <| aE J (eB J J) J <| bB (fun h117 => ?_) (fun h117 => ?_)
 ·refine aA (bK J J) J <| Um J J <| K1 J J <| K1 J J <| K1 J J <| K1 J J <| K1 J J <| aA (bM J J) J <| Um J J <| K1 J J <| K1 J J <| K1 J J <| K1 J J <| K1 J J <| K1 J J <| K1 J J <| aA (bM J J) J <| Nk [2,3,134] J <| aT J <| aB <| Rg 2 J <| Ua J J <| Ua J J ?_
  refine Wn <| bI <| aP <| post (n := 0) (.inr J) J ?_ dC
  first | exact gU h11 | exact bO h11 h17 (cS h21) | exact bO h11 h17 (eP h30) | exact bO h11 h17 (eT h38) | exact bO h11 h17 (eD h48) | exact bO h11 h17 (eE h21 h30 h38 h48 he) | exact bD h11 h17 h62 (cU h66) | exact bD h11 h17 h62 (eU h71) | exact bD h11 h17 h62 (cV h77) | exact bD h11 h17 h62 (cW h86) | exact bD h11 h17 h62 (cX h95) | exact bD h11 h17 h62 (eV h66 h71 h77 h86 h95 he) | exact aZ h11 h17 h62 h108 (cY h111) | exact aZ h11 h17 h62 h108 (eW h117) | exact aZ h11 h17 h62 h108 (cZ h123) | exact aZ h11 h17 h62 h108 (eX h132) | exact aZ h11 h17 h62 h108 (eY he h147) | exact aZ h11 h17 h62 h108 (eZ he2 h158) | exact aZ h11 h17 h62 h108 (fA h111 h117 h123 h132 he h147 he2 h158 (eQ _)) | exact fF h11 h17 h62 h108
 refine aA (bK J J) J <| Um J J <| aE J (aM (l := lvPb p) J J gG J J) J ?_
 refine aE J (aU J J J J J) J <| aE J (aM (l := .sl r.2.2.1.1 (r.2.2.1.2.map mc)) J J gG J J) J ?_
 refine aE J (aK J (oW r.2.2.1.1 p r.2.2.1.2 hV hI hR.x hR.lx) (aJ (by intro c hc; simp only [List.mem_cons, List.not_mem_nil, or_false] at hc; rcases hc with rfl | rfl; exact gZ; exact (.sl _ _ (aY eS))))) J <| dT (fun h123 => ?_) (fun h123 => ?_)
 rotate_left
 ·refine aE J (dE J) J <| aA (bK J J) J <| Um J J <| K1 J J <| K1 J J <| K1 J J <| K1 J J <| K1 J J <| K1 J J <| K1 J J <| aA (bM J J) J <| Nk [2,3,134] J <| aT J <| aB <| Rg 2 J <| Ua J J <| Ua J J <| Wn <| bI <| aP <| post (n := 0) (.inr J) J ?_ dC
  first | exact gU h11 | exact bO h11 h17 (cS h21) | exact bO h11 h17 (eP h30) | exact bO h11 h17 (eT h38) | exact bO h11 h17 (eD h48) | exact bO h11 h17 (eE h21 h30 h38 h48 he) | exact bD h11 h17 h62 (cU h66) | exact bD h11 h17 h62 (eU h71) | exact bD h11 h17 h62 (cV h77) | exact bD h11 h17 h62 (cW h86) | exact bD h11 h17 h62 (cX h95) | exact bD h11 h17 h62 (eV h66 h71 h77 h86 h95 he) | exact aZ h11 h17 h62 h108 (cY h111) | exact aZ h11 h17 h62 h108 (eW h117) | exact aZ h11 h17 h62 h108 (cZ h123) | exact aZ h11 h17 h62 h108 (eX h132) | exact aZ h11 h17 h62 h108 (eY he h147) | exact aZ h11 h17 h62 h108 (eZ he2 h158) | exact aZ h11 h17 h62 h108 (fA h111 h117 h123 h132 he h147 he2 h158 (eQ _)) | exact fF h11 h17 h62 h108
 refine aE J (dE J) J <| aA (bK J J) J <| Um J J <| aE J (aU J J J J J) J <| aE J (aM (l := .sl r.2.2.2.1.1 (r.2.2.2.1.2.map mc)) J J gG J J) J ?_
 refine aE J (aU J J J J J) J <| aE J (aM (l := .sl p.1.1 (p.1.2.map fM)) J J gG J J) J ?_
 refine aE J (aW J J) J <| aE J (aK J (nZ r.2.2.2.1.1 r.2.2.2.1.2 p.1.2.length hR.y hR.ly ) (aJ (by intro c hc; simp only [List.mem_cons, List.not_mem_nil, or_false] at hc; rcases hc with rfl | rfl; exact (.sl _ _ (aY eS)); exact (.v _)))) J <| dT (fun h132 => ?_) (fun h132 => ?_)
 rotate_left
 ·refine aE J (dE J) J <| aA (bK J J) J <| Nk [2,3,134] J <| aT J <| aB <| Rg 2 J <| Ua J J <| Ua J J <| Wn <| bI <| aP <| post (n := 0) (.inr J) J ?_ dC
  first | exact gU h11 | exact bO h11 h17 (cS h21) | exact bO h11 h17 (eP h30) | exact bO h11 h17 (eT h38) | exact bO h11 h17 (eD h48) | exact bO h11 h17 (eE h21 h30 h38 h48 he) | exact bD h11 h17 h62 (cU h66) | exact bD h11 h17 h62 (eU h71) | exact bD h11 h17 h62 (cV h77) | exact bD h11 h17 h62 (cW h86) | exact bD h11 h17 h62 (cX h95) | exact bD h11 h17 h62 (eV h66 h71 h77 h86 h95 he) | exact aZ h11 h17 h62 h108 (cY h111) | exact aZ h11 h17 h62 h108 (eW h117) | exact aZ h11 h17 h62 h108 (cZ h123) | exact aZ h11 h17 h62 h108 (eX h132) | exact aZ h11 h17 h62 h108 (eY he h147) | exact aZ h11 h17 h62 h108 (eZ he2 h158) | exact aZ h11 h17 h62 h108 (fA h111 h117 h123 h132 he h147 he2 h158 (eQ _)) | exact fF h11 h17 h62 h108
 refine aE J (dE J) J <| aA (bK J J) J <| Nk [2,3,134] J <| aX J <| aH ?_
 obtain ⟨hyl, hyv⟩ := hN h132
 obtain ⟨hxl, hxv⟩ := hN (feaS_pos h123)
 have hvv : VN r.2.1 := of_decide_eq_true h111
 have he : (dtX (p.2.2.2.map nx) (r.2.2.1.2.map nx) (p.2.2.2.map nx).length).1 = dtN p.2.2.2 r.2.2.1.2 := by rw [List.length_map]; exact lD om
 have he2 : (dtX (p.2.1.2.map nx) (r.2.2.2.1.2.map nx) (p.2.1.2.map nx).length).1 = dtN p.2.1.2 r.2.2.2.1.2 := by rw [List.length_map]; exact lD om
 have hb1 := dtN_bd hgv (fun a ha => (hxv a ha).1) om om
 have hb2 := dtN_bd hrv (fun a ha => (hyv a ha).1) om om
 refine Rg 5 J <| aA (aU J J J J J) J <| aA (aM (l := lvM r.2.1) J J gG J J) J ?_
 refine aA (aV (b := lvX (nx r.2.1)) (aK J (jV r.2.1 hR.v.1 hR.v.2 hvv.all3.2.2) (aJ (by intro c hc; simp only [List.mem_cons, List.not_mem_nil, or_false] at hc; rcases hc with rfl; exact (.agg _ (eS _))))) J) J <| bJ (fD J) J <| bH (cP (cs' := xc (nx r.2.1)) J J J g0 J J J J) <| Wn <| bR (z := 33) J kR <| aC (aU J J J J J) J <| aC (aM (l := .sl p.2.2.1 (p.2.2.2.map mc)) J J gG J J) J ?_
 refine aC (aK J (eN p.2.2.1 p.2.2.2 (by have := hI.lg; omega) hI.g (fun a ha => (hgv a ha).all3.2.2)) (aJ (by intro c hc; simp only [List.mem_cons, List.not_mem_nil, or_false] at hc; rcases hc with rfl; exact (.sl _ _ (aY eS))))) J <| aC (aU J J J J J) J <| aC (aM (l := .sl r.2.2.1.1 (r.2.2.1.2.map mc)) J J gG J J) J ?_
 refine aC (aK J (eN r.2.2.1.1 r.2.2.1.2 (by have := hR.lx; omega) hR.x (fun a ha => ((fun a ha => (hxv a ha).1) a ha).all3.2.2)) (aJ (by intro c hc; simp only [List.mem_cons, List.not_mem_nil, or_false] at hc; rcases hc with rfl; exact (.sl _ _ (aY eS))))) J <| aC (aK J (kN _ _ (p.2.2.2.map nx) (r.2.2.1.2.map nx) (by rw [List.length_map, List.length_map]; omega) (by rw [List.length_map]; omega) 2 om om (fN hgv) (fN (fun a ha => (hxv a ha).1))) (aJ (by intro c hc; simp only [List.mem_cons, List.not_mem_nil, or_false] at hc; rcases hc with rfl | rfl; exact (.sl _ _ (aY nG)); exact (.sl _ _ (aY nG))))) J <| aC (aM (l := lvX (nx r.2.1)) J J gG J J) J ?_
 refine aC (aK J (oL (dtX (p.2.2.2.map nx) (r.2.2.1.2.map nx) (p.2.2.2.map nx).length) (nx r.2.1) (by rw [List.length_map]; exact hb1.mono om) (hvv.bd.mono om)) (aJ (by intro c hc; simp only [List.mem_cons, List.not_mem_nil, or_false] at hc; rcases hc with rfl | rfl; exact gZ; exact gZ))) J <| aC (dV J J) J <| jD (fun h147 => ?_) (fun h147 => ?_)
 rotate_left
 ·refine Dm J J <| bE J J <| bE J J <| bE J J <| bE J J <| bE J J <| bE J J <| bE J J <| bE J J <| bE J J <| bE J J <| aC (bK J J) J <| Dm J J <| bE J J <| bE J J <| bE J J <| bE J J <| bE J J <| bE J J <| bE J J <| aC (bK J J) J <| aC (gX J) J <| aC (gX J) J <| bG (aQ kR) J ?_
  refine Ck [4,5] J <| aN <| aP <| post (n := 0) (.inr J) J ?_ dC
  first | exact gU h11 | exact bO h11 h17 (cS h21) | exact bO h11 h17 (eP h30) | exact bO h11 h17 (eT h38) | exact bO h11 h17 (eD h48) | exact bO h11 h17 (eE h21 h30 h38 h48 he) | exact bD h11 h17 h62 (cU h66) | exact bD h11 h17 h62 (eU h71) | exact bD h11 h17 h62 (cV h77) | exact bD h11 h17 h62 (cW h86) | exact bD h11 h17 h62 (cX h95) | exact bD h11 h17 h62 (eV h66 h71 h77 h86 h95 he) | exact aZ h11 h17 h62 h108 (cY h111) | exact aZ h11 h17 h62 h108 (eW h117) | exact aZ h11 h17 h62 h108 (cZ h123) | exact aZ h11 h17 h62 h108 (eX h132) | exact aZ h11 h17 h62 h108 (eY he h147) | exact aZ h11 h17 h62 h108 (eZ he2 h158) | exact aZ h11 h17 h62 h108 (fA h111 h117 h123 h132 he h147 he2 h158 (eQ _)) | exact fF h11 h17 h62 h108
 refine Dm J J <| bC J (aU J J J J J) J <| bC J (aM (l := .sl p.2.1.1 (p.2.1.2.map mc)) J J gG J J) J ?_
 refine bC J (aK J (eN p.2.1.1 p.2.1.2 (by have := hI.lr; omega) hI.r (fun a ha => (hrv a ha).all3.2.2)) (aJ (by intro c hc; simp only [List.mem_cons, List.not_mem_nil, or_false] at hc; rcases hc with rfl; exact (.sl _ _ (aY eS))))) J <| bC J (aU J J J J J) J <| bC J (aM (l := .sl r.2.2.2.1.1 (r.2.2.2.1.2.map mc)) J J gG J J) J ?_
 refine bC J (aK J (eN r.2.2.2.1.1 r.2.2.2.1.2 (by have := hR.ly; omega) hR.y (fun a ha => ((fun a ha => (hyv a ha).1) a ha).all3.2.2)) (aJ (by intro c hc; simp only [List.mem_cons, List.not_mem_nil, or_false] at hc; rcases hc with rfl; exact (.sl _ _ (aY eS))))) J <| bC J (aK J (kN _ _ (p.2.1.2.map nx) (r.2.2.2.1.2.map nx) (by rw [List.length_map, List.length_map]; omega) (by rw [List.length_map]; omega) 2 om om (fN hrv) (fN (fun a ha => (hyv a ha).1))) (aJ (by intro c hc; simp only [List.mem_cons, List.not_mem_nil, or_false] at hc; rcases hc with rfl | rfl; exact (.sl _ _ (aY nG)); exact (.sl _ _ (aY nG))))) J <| bC J (aM (l := lvX (nx r.2.1)) J J gG J J) J ?_
 refine bC J (aK J (oL (dtX (p.2.1.2.map nx) (r.2.2.2.1.2.map nx) (p.2.1.2.map nx).length) (nx r.2.1) (by rw [List.length_map]; exact hb2.mono om) (hvv.bd.mono om)) (aJ (by intro c hc; simp only [List.mem_cons, List.not_mem_nil, or_false] at hc; rcases hc with rfl | rfl; exact gZ; exact gZ))) J <| bC J (dV J J) J <| jD (fun h158 => ?_) (fun h158 => ?_)
 ·refine aC (bM J J) J <| Dm J J <| bC J (aM (l := lvPb p) J J gG J J) J ?_
  refine bC J (aU J J J J J) J <| bC J (aM (l := .sl r.2.2.2.1.1 (r.2.2.2.1.2.map mc)) J J gG J J) J ?_
  refine bC J (aU J J J J J) J <| bC J (aM (l := .sl p.2.2.1 (p.2.2.2.map mc)) J J gG J J) J ?_
  refine bC J (aK J (eN p.2.2.1 p.2.2.2 (by have := hI.lg; omega) hI.g (fun a ha => (hgv a ha).all3.2.2)) (aJ (by intro c hc; simp only [List.mem_cons, List.not_mem_nil, or_false] at hc; rcases hc with rfl; exact (.sl _ _ (aY eS))))) J <| bC J (aK J (lcov_run r.2.2.2.1.1 _ p r.2.2.2.1.2 (p.2.2.2.map nx) hV hI hR.y (fun a ha => (hyv a ha).1) hyl (by simp) (fun x hx => (fN hgv x hx).mono om)) (aJ (by intro c hc; simp only [List.mem_cons, List.not_mem_nil, or_false] at hc; rcases hc with rfl | rfl | rfl; exact gZ; exact (.sl _ _ (aY eS)); exact (.sl _ _ (aY nG))))) J <| aC (bM J J) J <| aC (gX J) J <| aC (gX J) J <| bG (aQ kR) J <| Ck [4,5] J <| aN <| aP <| post (n := 0) (.inr J) J ?_ dC
  first | exact gU h11 | exact bO h11 h17 (cS h21) | exact bO h11 h17 (eP h30) | exact bO h11 h17 (eT h38) | exact bO h11 h17 (eD h48) | exact bO h11 h17 (eE h21 h30 h38 h48 he) | exact bD h11 h17 h62 (cU h66) | exact bD h11 h17 h62 (eU h71) | exact bD h11 h17 h62 (cV h77) | exact bD h11 h17 h62 (cW h86) | exact bD h11 h17 h62 (cX h95) | exact bD h11 h17 h62 (eV h66 h71 h77 h86 h95 he) | exact aZ h11 h17 h62 h108 (cY h111) | exact aZ h11 h17 h62 h108 (eW h117) | exact aZ h11 h17 h62 h108 (cZ h123) | exact aZ h11 h17 h62 h108 (eX h132) | exact aZ h11 h17 h62 h108 (eY he h147) | exact aZ h11 h17 h62 h108 (eZ he2 h158) | exact aZ h11 h17 h62 h108 (fA h111 h117 h123 h132 he h147 he2 h158 (eQ _)) | exact fF h11 h17 h62 h108
 refine aC (bM J J) J <| Dm J J <| bE J J <| bE J J <| bE J J <| bE J J <| bE J J <| bE J J <| bE J J <| aC (bK J J) J <| aC (gX J) J <| aC (gX J) J <| bG (aQ kR) J <| Ck [4,5] J <| aN <| aP <| post (n := 0) (.inr J) J ?_ dC
 first | exact gU h11 | exact bO h11 h17 (cS h21) | exact bO h11 h17 (eP h30) | exact bO h11 h17 (eT h38) | exact bO h11 h17 (eD h48) | exact bO h11 h17 (eE h21 h30 h38 h48 he) | exact bD h11 h17 h62 (cU h66) | exact bD h11 h17 h62 (eU h71) | exact bD h11 h17 h62 (cV h77) | exact bD h11 h17 h62 (cW h86) | exact bD h11 h17 h62 (cX h95) | exact bD h11 h17 h62 (eV h66 h71 h77 h86 h95 he) | exact aZ h11 h17 h62 h108 (cY h111) | exact aZ h11 h17 h62 h108 (eW h117) | exact aZ h11 h17 h62 h108 (cZ h123) | exact aZ h11 h17 h62 h108 (eX h132) | exact aZ h11 h17 h62 h108 (eY he h147) | exact aZ h11 h17 h62 h108 (eZ he2 h158) | exact aZ h11 h17 h62 h108 (fA h111 h117 h123 h132 he h147 he2 h158 (eQ _)) | exact fF h11 h17 h62 h108
end Go.Proofs.YtohfklpfeilcpaaGreat
set_option maxHeartbeats 8000000
namespace Go.Proofs.YtohfklpfeilcpaaGreat
open Go.Ab Go.RowKit
theorem nsame_run (k1 k2 : Nat) (ns : List NM) (ln : ns.length < 1099511627776) : Run Tryz.prog T E0 (.call 31 [.sl k1 (ns.map mc), .sl k2 (ns.map mc)] (.v (.bool true))) := by
 refine bL Tryz.func31 J J (dH J) <| Rg 1 J <| Ua J J <| Wn <| aB <| Rg 5 J <| Um J J <| aA (aW J J) J <| Um J J <| aA (aW J J) J <| aA (gJ J J) J <| bB (fun h10 => ?_) (fun h10 => ?_)
 ·exact absurd J h10
 refine Wn <| aX J <| aH <| aB <| Rg 3 J <| Um J J <| aA (aW J J) J <| Um J J <| Wn <| aL <| bF (α := Nat) (fun i => [(0, .sl k1 (ns.map mc)), (1, .sl k2 (ns.map mc)), (12, .v (.int .i64 (ns.length : Int))), (13, .v (.int .i64 (i : Int)))]) (fun i => []) (fun i n => i ≤ ns.length) (fun i => ns.length - i) (0) ⟨J, J, J, J, trivial⟩ trivial (Nat.zero_le _) ?_
 rintro i n hF
 change WC _ _ _ _ _ (_ :: _) ([]) n _
 refine Rg 1 J <| aA (bZ J J) J <| bB (fun h14 => ?_) (fun h14 => ?_)
 rotate_left
 ·refine Wn <| aX J <| bA <| aS <| aR J <| Rg 1 J <| Ua J J <| Wn <| aN ?_
  exact post (n := 0) (.inr J) J J (by simp)
 refine Wn <| aT J <| aH <| aL <| Rg 2 J <| Um J J <| Ua J J <| Wn <| bR (z := 9) J kR <| Dm J J <| Dm J J <| aC (cG J J J J J om J) J <| aC (dY (l := .agg [_, _]) J J J) J <| Dm J J <| Dm J J <| aC (cG J J J J J om J) J <| aC (dY (l := .agg [_, _]) J J J) J <| aC (aV (b := .v (.bool false)) (oNeS J J J J J) (by simp)) J <| bG (aQ kR) J <| Ck [0,1,12,13,24] J <| bV J <| cA <| aF <| aI (z := 2) J ?_
 refine aA (cI (((i + 1 : Nat) : Int)) (aO J J om) om) J <| Um J J <| Wn <| aG <| ⟨i + 1, ⟨J, J, J, J, trivial⟩, trivial, by show i + 1 ≤ _; omega, by show ns.length - (i + 1) < ns.length - i; omega⟩
theorem few_run (k : Nat) (a : List M1) : Run Tryz.prog T E0 (.call 33 [.v (.int .i64 8), .sl k (a.map fM)] (.v (.bool (fewb a)))) := by
 refine bL Tryz.func33 J J (dH J) <| Rg 1 J <| Ua J J <| Wn <| aB <| Rg 14 J <| Um J J <| aA (aW J J) J <| Um J J <| aA (eB J J) J <| bB (fun h10 => ?_) (fun h10 => ?_)
 rotate_left
 ·refine Um J J <| K1 J J <| K1 J J <| K1 J J <| aA (bK J J) J <| Um J J <| aE J (dK J) J <| aE J (aW J J) J <| aE J (eB J J) J <| bB (fun h19 => ?_) (fun h19 => ?_)
  ·refine aA (bK J J) J <| Nk [0,1,20] J <| aT J <| aB <| Rg 1 J <| Ua J J <| Wn <| bI <| post (n := 0) (.inr J) J ?_ dD
   exact congrArg (fun z => LV.v (.bool z)) (show false = fewb a by unfold fewb; rw [show f1 a.length = true by unfold f1; exact decide_eq_true om]; rfl)
  refine aA (bK J J) J <| Nk [0,1,20] J <| aX J <| aH <| aB <| Rg 3 J <| Um J J <| aA (aW J J) J <| Um J J <| Wn <| aL <| bF (α := Nat) (fun i => [(0, .v (.int .i64 8)), (21, .sl k (a.map fM)), (22, .v (.int .i64 (a.length : Int))), (23, .v (.int .i64 (i : Int)))]) (fun i => []) (fun i n => i ≤ a.length ∧ (a.take i).all (fun r => !f1 r.2.length) = true) (fun i => a.length - i) (0) ⟨J, J, J, J, trivial⟩ trivial ⟨Nat.zero_le _, by simp⟩ ?_
  rintro i n hF
  change WC _ _ _ _ _ (_ :: _) ([]) n _
  obtain ⟨hi, ha⟩ := hF
  refine Rg 1 J <| aA (bZ J J) J <| bB (fun h24 => ?_) (fun h24 => ?_)
  rotate_left
  ·refine Wn <| aX J <| bA <| aS <| aR J <| Rg 1 J <| Ua J J <| Wn <| aN <| post (n := 0) (.inr J) J ?_ dD
   exact congrArg (fun z => LV.v (.bool z)) (show true = fewb a by unfold fewb; rw [show f1 a.length = false by unfold f1; exact decide_eq_false om, qM ha om]; rfl)
  refine Wn <| aT J <| aH <| aL <| Rg 3 J <| aA (cG J J J J J om J) J <| aA (dY J J J) J <| Ua J J <| Wn <| Rg 14 J <| Um J J <| aA (aW J J) J <| Um J J <| aA (eB J J) J <| bB (fun h30 => ?_) (fun h30 => ?_)
  rotate_left
  ·refine Um J J <| K1 J J <| K1 J J <| K1 J J <| aA (bK J J) J <| Um J J <| aE J (dK J) J <| aE J (aW J J) J <| aE J (eB J J) J <| bB (fun h39 => ?_) (fun h39 => ?_)
   rotate_left
   ·refine aA (bK J J) J <| Nk [0,21,22,23,32,33,34,37,38,39,40] J <| bV J <| cA <| aF <| aI (z := 2) J <| aA (cI (((i + 1 : Nat) : Int)) (aO J J om) om) J <| Um J J <| Wn <| aG <| ⟨i + 1, ⟨J, J, J, J, trivial⟩, trivial, ⟨om, kV ha om (by show (!f1 _) = true; unfold f1; rw [decide_eq_false om]; rfl)⟩, by show a.length - (i + 1) < a.length - i; omega⟩
   refine aA (bK J J) J <| Nk [0,21,22,23,32,33,34,37,38,39,40] J <| bY J ?_
   have hno : (a.all fun r => !f1 r.2.length) = false := kI (i := i) om (by show (!f1 _) = false; unfold f1; rw [decide_eq_true om]; rfl)
   refine Rg 1 J <| Ua J J <| Wn <| aN <| aP <| cR <| aP <| post (n := 0) (.inr J) J ?_ dD
   exact congrArg (fun z => LV.v (.bool z)) (show false = fewb a by unfold fewb; rw [hno, Bool.and_false])
  refine Um J J <| aE J (dK J) J <| aE J (aW J J) J <| aE J (nL J J) J <| bB (fun h34 => ?_) (fun h34 => ?_)
  ·refine aA (bM J J) J <| Um J J <| K1 J J <| K1 J J <| K1 J J <| aA (bM J J) J <| Nk [0,21,22,23,32,33,34,37,38,39,40] J <| bY J ?_
   have hno : (a.all fun r => !f1 r.2.length) = false := kI (i := i) om (by show (!f1 _) = false; unfold f1; rw [decide_eq_true om]; rfl)
   refine Rg 1 J <| Ua J J <| Wn <| aN <| aP <| cR <| aP <| post (n := 0) (.inr J) J ?_ dD
   exact congrArg (fun z => LV.v (.bool z)) (show false = fewb a by unfold fewb; rw [hno, Bool.and_false])
  refine aA (bM J J) J <| Um J J <| aE J (dK J) J <| aE J (aW J J) J <| aE J (eB J J) J <| bB (fun h39 => ?_) (fun h39 => ?_)
  rotate_left
  ·refine aA (bK J J) J <| Nk [0,21,22,23,32,33,34,37,38,39,40] J <| bV J <| cA <| aF <| aI (z := 2) J <| aA (cI (((i + 1 : Nat) : Int)) (aO J J om) om) J <| Um J J <| Wn <| aG <| ⟨i + 1, ⟨J, J, J, J, trivial⟩, trivial, ⟨om, kV ha om (by show (!f1 _) = true; unfold f1; rw [decide_eq_false om]; rfl)⟩, by show a.length - (i + 1) < a.length - i; omega⟩
  refine aA (bK J J) J <| Nk [0,21,22,23,32,33,34,37,38,39,40] J <| bY J ?_
  have hno : (a.all fun r => !f1 r.2.length) = false := kI (i := i) om (by show (!f1 _) = false; unfold f1; rw [decide_eq_true om]; rfl)
  refine Rg 1 J <| Ua J J <| Wn <| aN <| aP <| cR <| aP <| post (n := 0) (.inr J) J ?_ dD
  exact congrArg (fun z => LV.v (.bool z)) (show false = fewb a by unfold fewb; rw [hno, Bool.and_false])
 refine Um J J <| aE J (dK J) J <| aE J (aW J J) J <| aE J (nL J J) J <| bB (fun h14 => ?_) (fun h14 => ?_)
 ·refine aA (bM J J) J <| Um J J <| K1 J J <| K1 J J <| K1 J J <| aA (bM J J) J <| Nk [0,1,20] J <| aT J <| aB <| Rg 1 J <| Ua J J <| Wn <| bI <| post (n := 0) (.inr J) J ?_ dD
  exact congrArg (fun z => LV.v (.bool z)) (show false = fewb a by unfold fewb; rw [show f1 a.length = true by unfold f1; exact decide_eq_true om]; rfl)
 refine aA (bM J J) J <| Um J J <| aE J (dK J) J <| aE J (aW J J) J <| aE J (eB J J) J <| bB (fun h19 => ?_) (fun h19 => ?_)
 ·refine aA (bK J J) J <| Nk [0,1,20] J <| aT J <| aB <| Rg 1 J <| Ua J J <| Wn <| bI <| post (n := 0) (.inr J) J ?_ dD
  exact congrArg (fun z => LV.v (.bool z)) (show false = fewb a by unfold fewb; rw [show f1 a.length = true by unfold f1; exact decide_eq_true om]; rfl)
 refine aA (bK J J) J <| Nk [0,1,20] J <| aX J <| aH <| aB <| Rg 3 J <| Um J J <| aA (aW J J) J <| Um J J <| Wn <| aL <| bF (α := Nat) (fun i => [(0, .v (.int .i64 8)), (21, .sl k (a.map fM)), (22, .v (.int .i64 (a.length : Int))), (23, .v (.int .i64 (i : Int)))]) (fun i => []) (fun i n => i ≤ a.length ∧ (a.take i).all (fun r => !f1 r.2.length) = true) (fun i => a.length - i) (0) ⟨J, J, J, J, trivial⟩ trivial ⟨Nat.zero_le _, by simp⟩ ?_
 rintro i n hF
 change WC _ _ _ _ _ (_ :: _) ([]) n _
 obtain ⟨hi, ha⟩ := hF
 refine Rg 1 J <| aA (bZ J J) J <| bB (fun h24 => ?_) (fun h24 => ?_)
 rotate_left
 ·refine Wn <| aX J <| bA <| aS <| aR J <| Rg 1 J <| Ua J J <| Wn <| aN <| post (n := 0) (.inr J) J ?_ dD
  exact congrArg (fun z => LV.v (.bool z)) (show true = fewb a by unfold fewb; rw [show f1 a.length = false by unfold f1; exact decide_eq_false om, qM ha om]; rfl)
 refine Wn <| aT J <| aH <| aL <| Rg 3 J <| aA (cG J J J J J om J) J <| aA (dY J J J) J <| Ua J J <| Wn <| Rg 14 J <| Um J J <| aA (aW J J) J <| Um J J <| aA (eB J J) J <| bB (fun h30 => ?_) (fun h30 => ?_)
 rotate_left
 ·refine Um J J <| K1 J J <| K1 J J <| K1 J J <| aA (bK J J) J <| Um J J <| aE J (dK J) J <| aE J (aW J J) J <| aE J (eB J J) J <| bB (fun h39 => ?_) (fun h39 => ?_)
  rotate_left
  ·refine aA (bK J J) J <| Nk [0,21,22,23,32,33,34,37,38,39,40] J <| bV J <| cA <| aF <| aI (z := 2) J <| aA (cI (((i + 1 : Nat) : Int)) (aO J J om) om) J <| Um J J <| Wn <| aG <| ⟨i + 1, ⟨J, J, J, J, trivial⟩, trivial, ⟨om, kV ha om (by show (!f1 _) = true; unfold f1; rw [decide_eq_false om]; rfl)⟩, by show a.length - (i + 1) < a.length - i; omega⟩
  refine aA (bK J J) J <| Nk [0,21,22,23,32,33,34,37,38,39,40] J <| bY J ?_
  have hno : (a.all fun r => !f1 r.2.length) = false := kI (i := i) om (by show (!f1 _) = false; unfold f1; rw [decide_eq_true om]; rfl)
  refine Rg 1 J <| Ua J J <| Wn <| aN <| aP <| cR <| aP <| post (n := 0) (.inr J) J ?_ dD
  exact congrArg (fun z => LV.v (.bool z)) (show false = fewb a by unfold fewb; rw [hno, Bool.and_false])
 refine Um J J <| aE J (dK J) J <| aE J (aW J J) J <| aE J (nL J J) J <| bB (fun h34 => ?_) (fun h34 => ?_)
 ·refine aA (bM J J) J <| Um J J <| K1 J J <| K1 J J <| K1 J J <| aA (bM J J) J <| Nk [0,21,22,23,32,33,34,37,38,39,40] J <| bY J ?_
  have hno : (a.all fun r => !f1 r.2.length) = false := kI (i := i) om (by show (!f1 _) = false; unfold f1; rw [decide_eq_true om]; rfl)
  refine Rg 1 J <| Ua J J <| Wn <| aN <| aP <| cR <| aP <| post (n := 0) (.inr J) J ?_ dD
  exact congrArg (fun z => LV.v (.bool z)) (show false = fewb a by unfold fewb; rw [hno, Bool.and_false])
 refine aA (bM J J) J <| Um J J <| aE J (dK J) J <| aE J (aW J J) J <| aE J (eB J J) J <| bB (fun h39 => ?_) (fun h39 => ?_)
 rotate_left
 ·refine aA (bK J J) J <| Nk [0,21,22,23,32,33,34,37,38,39,40] J <| bV J <| cA <| aF <| aI (z := 2) J <| aA (cI (((i + 1 : Nat) : Int)) (aO J J om) om) J <| Um J J <| Wn <| aG <| ⟨i + 1, ⟨J, J, J, J, trivial⟩, trivial, ⟨om, kV ha om (by show (!f1 _) = true; unfold f1; rw [decide_eq_false om]; rfl)⟩, by show a.length - (i + 1) < a.length - i; omega⟩
 refine aA (bK J J) J <| Nk [0,21,22,23,32,33,34,37,38,39,40] J <| bY J ?_
 have hno : (a.all fun r => !f1 r.2.length) = false := kI (i := i) om (by show (!f1 _) = false; unfold f1; rw [decide_eq_true om]; rfl)
 refine Rg 1 J <| Ua J J <| Wn <| aN <| aP <| cR <| aP <| post (n := 0) (.inr J) J ?_ dD
 exact congrArg (fun z => LV.v (.bool z)) (show false = fewb a by unfold fewb; rw [hno, Bool.and_false])
end Go.Proofs.YtohfklpfeilcpaaGreat
namespace Go.Proofs.YtohfklpfeilcpaaGreat
open Go.Ab Go.RowKit
theorem qdot_run (ka kb : Nat) (al bl : List Rat) (n1 m1 : Nat) (hl : al.length ≤ bl.length) (ln : al.length < 1099511627776) (ha : ∀ x, x ∈ al → Bd n1 x) (hb : ∀ x, x ∈ bl → Bd m1 x) (hn : n1 + m1 ≤ 34359738368) (hbd : 1 + al.length * (n1 + m1 + 1) ≤ 34359738368) : Run Tryz.prog T E0 (.call 70 [.sl ka (al.map qc), .sl kb (bl.map qc)] (lvQ (dotR al bl))) := by
 refine bL Tryz.func70 J J (dH J) <| Rg 1 J <| bJ (fD J) J <| Wn <| Rg 3 J <| aA (aK J (nK 0 (by unfold I64; omega)) dD) J <| bJ (fD J) J <| bH (cP (cs' := [_, _, _, _, _, _]) J J J J J J J J) <| Wn <| aB <| Rg 3 J <| Um J J <| aA (aW J J) J <| Um J J <| Wn <| aL <| bF (α := Nat × Rat) (fun ⟨i, s⟩ => [(0, .sl ka (al.map qc)), (1, .sl kb (bl.map qc)), (4, .ptr 0 0), (5, .ptr 2 0), (9, .v (.int .i64 (al.length : Int))), (10, .v (.int .i64 (i : Int)))]) (fun ⟨i, s⟩ => [(2, { cells := qc s, sz := 6, elem := 35, st := 0 }), (0, { cells := [.v (.int .i64 0), .v (.bool false), .sl 0 [], .v (.int .i64 0), .v (.bool false), .sl 0 []], sz := 6, elem := 35, st := 0 })]) (fun ⟨i, s⟩ n => i ≤ al.length ∧ s = dotn al bl i) (fun ⟨i, s⟩ => al.length - i) (0, 0) ⟨J, J, J, J, J, J, trivial⟩ ⟨g0, g1 (by decide) (g1 (by decide) g0), trivial⟩ ⟨Nat.zero_le _, rfl⟩ ?_
 rintro ⟨i, s⟩ n hF
 change WC _ _ _ _ _ (_ :: _) (_ :: _) n _
 obtain ⟨hi, hs⟩ := hF
 refine Rg 1 J <| aA (bZ J J) J <| bB (fun h11 => ?_) (fun h11 => ?_)
 rotate_left
 ·refine Wn <| aX J <| bA <| aS <| aR J <| Rg 2 J <| aA (aM (l := .agg [_, _, _, _, _, _]) J J g0 J J) J <| bH (cP (cs' := [_, _, _, _, _, _]) J J J (g1 (by decide) g0) J J J J) <| Wn <| aN <| post (n := 0) (.inr J) J ?_ dD
  exact congrArg lvQ (by rw [hs]; unfold dotR; rw [show i = al.length by omega])
 refine Wn <| aT J <| aH <| aL <| Rg 2 J <| Um J J <| Ua J J <| Wn <| Rg 14 J <| Um J J <| Um J J <| aA (cG J J J J J om J) J <| aA (dY (l := .agg [_, _, _, _, _, _]) J J J) J <| aA (aK J (iP (al.getD i default)) dD) J <| aA (gJ J J) J <| bB (fun h18 => ?_) (fun h18 => ?_)
 rotate_left
 ·refine Um J J <| K1 J J <| K1 J J <| K1 J J <| K1 J J <| K1 J J <| K1 J J <| aA (bK J J) J <| Nk [0,1,4,5,6,9,10,20,21,22,23,24,25,26] J <| bV J <| cA <| aF <| aI (z := 2) J <| aA (cI (((i + 1 : Nat) : Int)) (aO J J om) om) J <| Um J J <| Wn <| aG <| ⟨⟨i + 1, s⟩, ⟨J, J, J, J, J, J, trivial⟩, ⟨g0, g1 (by decide) g0, trivial⟩, ⟨om, by rw [dotn_skip (.inl (by exact gR.1 (show (al.getD i default).num.sign = 0 by omega)))]; exact hs⟩, by show al.length - (i + 1) < al.length - i; omega⟩
 refine Um J J <| aE J (dK J) J <| aE J (dK J) J <| aE J (cG J J J J J om J) J <| aE J (dY (l := .agg [_, _, _, _, _, _]) J J J) J <| aE J (aK J (iP (bl.getD i default)) dD) J <| aE J (gJ J J) J <| bB (fun h25 => ?_) (fun h25 => ?_)
 rotate_left
 ·refine aA (bM J J) J <| Nk [0,1,4,5,6,9,10,20,21,22,23,24,25,26] J <| bV J <| cA <| aF <| aI (z := 2) J <| aA (cI (((i + 1 : Nat) : Int)) (aO J J om) om) J <| Um J J <| Wn <| aG <| ⟨⟨i + 1, s⟩, ⟨J, J, J, J, J, J, trivial⟩, ⟨g0, g1 (by decide) g0, trivial⟩, ⟨om, by rw [dotn_skip (.inr (by exact gR.1 (show (bl.getD i default).num.sign = 0 by omega)))]; exact hs⟩, by show al.length - (i + 1) < al.length - i; omega⟩
 refine aA (bM J J) J <| Nk [0,1,4,5,6,9,10,20,21,22,23,24,25,26] J <| bY J ?_
 have hma := bS (us := al) (i := i) om
 have hmb := bS (us := bl) (i := i) om
 have hbs : Bd 34359738368 s := by
  rw [hs]; exact (dotn_bd (n := n1) (m := m1) ha hb (by first | omega | (simp; omega)) i (by first | omega | (simp; omega))).mono (Nat.le_trans (Nat.add_le_add_left (bd_mul (show i ≤ al.length by omega)) 1) hbd)
 refine dN (z := 12) J kR <| aC (aM (l := .agg [_, _, _, _, _, _]) J J g0 J J) J <| Dm J J <| Dm J J <| aC (cG J J J J J om J) J <| aC (dY (l := .agg [_, _, _, _, _, _]) J J J) J <| Dm J J <| Dm J J <| aC (cG J J J J J om J) J <| aC (dY (l := .agg [_, _, _, _, _, _]) J J J) J <| aC (aK J (nrmul_run (al.getD i default) (bl.getD i default) ((ha _ hma).mono om) ((hb _ hmb).mono om)) dD) J <| aC (aK J (pD s ((al.getD i default) * (bl.getD i default)) (hbs.mono om) (((ha _ hma).mul (hb _ hmb)).mono om)) dD) J <| cO (cP (cs' := [_, _, _, _, _, _]) J J J g0 J J J J) <| bG (aQ kR) J <| aF <| Ck [0,1,4,5,9,10,20,21,22,23,24,25] J <| aI (z := 2) J <| aA (cI (((i + 1 : Nat) : Int)) (aO J J om) om) J <| Um J J <| Wn <| aG <| ⟨⟨i + 1, s + (al.getD i default) * (bl.getD i default)⟩, ⟨J, J, J, J, J, J, trivial⟩, ⟨g0, g1 (by decide) (g1 (by decide) g0), trivial⟩, ⟨om, ?_⟩, by show al.length - (i + 1) < al.length - i; omega⟩
 rw [dotn, ← hs]
end Go.Proofs.YtohfklpfeilcpaaGreat
