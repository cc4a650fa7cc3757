/- Part C of the proof of discountOwn_holds: what it rests on. No condition. -/
import Derived.Test.YtcblgjaomljikaaOwnB
import Derived.ChangeKeysEq
import Derived.Test.YtcblgjaomljikaaProg
set_option linter.unusedVariables false
set_option linter.unusedSimpArgs false
namespace Go.Ab
open Go.RowKit
structure RI (S : List (List Rat)) (L : List Nat) (c : Nat) : Prop where
 rk : L.length ≤ S.length
 piv : ∀ t, t < L.length → ∀ i, i < S.length → ent S i (L.getD t default) = if i = t then 1 else 0
 low : ∀ t, t < L.length → ∀ j, j < L.getD t default → ent S t j = 0
 zer : ∀ i, L.length ≤ i → i < S.length → ∀ j, j < c → ent S i j = 0
 mono : ∀ t u, t < u → u < L.length → L.getD t default < L.getD u default
 lt : ∀ t, t < L.length → L.getD t default < c
theorem lZ {L : List Nat} {c t : Nat} (h : t < L.length) : (L ++ [c]).getD t default = L.getD t default := by
 simp only [List.getD_eq_getElem?_getD, List.getElem?_append_left h]
theorem nW {L : List Nat} {c : Nat} : (L ++ [c]).getD L.length default = c := by
 simp [List.getD_eq_getElem?_getD]
theorem oX {a r i : Nat} (h : i < r) (ha : r ≤ a) : swp a r i = i := by
 unfold swp; rw [if_neg om, if_neg om]
theorem swp_ge {a r i : Nat} (h : r ≤ i) (ha : r ≤ a) : r ≤ swp a r i := by
 unfold swp; split
 ·omega
 ·split <;> omega
theorem oB {a r i m : Nat} (h : i < m) (ha : a < m) (hr : r < m) : swp a r i < m := by
 unfold swp; split
 ·omega
 ·split <;> omega
theorem swp_swp (a r i : Nat) : swp a r (swp a r i) = i := by
 unfold swp
 by_cases h1 : i = a
 ·rw [if_pos h1]
  by_cases h2 : r = a
  ·rw [if_pos h2, h2, h1]
  ·rw [if_neg h2, if_pos rfl, h1]
 ·rw [if_neg h1]
  by_cases h2 : i = r
  ·rw [if_pos h2, if_pos rfl, h2]
  ·rw [if_neg h2, if_neg h1, if_neg h2]
theorem rI {R : List (List Rat)} {w : Nat} (hw : Wid w R) : ∀ c, c ≤ w → RI (gjn R c).1 (gjn R c).2 c :=
 qH hw (P := fun c S L => RI S L c)
  ⟨Nat.zero_le _, fun t ht => by simp at ht, fun t ht => by simp at ht, fun i _ _ j hj => by omega, fun t u _ hu => by simp at hu, fun t ht => by simp at ht⟩
  (fun c S L hc _ hl _ _ h hz => ⟨h.rk, h.piv, h.low, fun i h1 h2 j hj => by
   by_cases e : j = c
   ·rw [e]; exact hz i h1 om
   ·exact h.zer i h1 h2 j om, h.mono, fun t ht => by have := h.lt t ht; omega⟩)
  (fun c S L B a hc _ hl _ hla h hs _ _ => by
   have hBl := hs.len
   have hha := hs.ha
   have hp := hs.ne
   have hrow : ∀ j, j < c → ent B L.length j = 0 := fun j hj => by
    rw [hs.row j om, h.zer a hla hs.ha j hj, Rat.mul_zero]
   have hoth : ∀ i j, i < S.length → i ≠ L.length → j < c → ent B i j = ent S (swp a L.length i) j := fun i j hi hir hj => by
    rw [hs.oth i j hi hir om, h.zer a hla hs.ha j hj]; grind
   have hlo : ∀ i j, i < L.length → j < c → ent B i j = ent S i j := fun i j hi hj => by
    rw [hoth i j (by have := h.rk; omega) om hj, oX hi hla]
   have hhi : ∀ i j, L.length ≤ i → i < S.length → j < c → ent B i j = 0 := fun i j h1 h2 hj => by
    by_cases e : i = L.length
    ·rw [e]; exact hrow j hj
    ·rw [hoth i j h2 e hj]; exact h.zer _ (swp_ge h1 hla) (oB h2 hs.ha hs.hr) j hj
   have hc1 : ent B L.length c = 1 := by rw [hs.row c hc]; grind
   have hc0 : ∀ i, i < S.length → i ≠ L.length → ent B i c = 0 := fun i h1 h2 => by rw [hs.oth i c h1 h2 hc]; grind
   refine ⟨by simp; have := hs.hr; omega, fun t ht i hi => ?_, fun t ht j hj => ?_, fun i h1 h2 j hj => ?_, fun t u htu hu => ?_, fun t ht => ?_⟩
   ·rw [List.length_append, List.length_singleton] at ht
    by_cases e : t = L.length
    ·subst e
     rw [nW]
     by_cases e2 : i = L.length
     ·rw [e2, hc1, if_pos rfl]
     ·rw [hc0 i om e2, if_neg e2]
    ·rw [lZ om]
     have hlt := h.lt t om
     by_cases e2 : i < L.length
     ·rw [hlo i _ e2 hlt]; exact h.piv t om i om
     ·rw [hhi i _ om om hlt, if_neg om]
   ·rw [List.length_append, List.length_singleton] at ht
    by_cases e : t = L.length
    ·subst e
     rw [nW] at hj; exact hrow j hj
    ·rw [lZ om] at hj
     have hlt := h.lt t om
     rw [hlo t j om om]; exact h.low t om j hj
   ·rw [List.length_append, List.length_singleton] at h1
    by_cases e : j = c
    ·rw [e]; exact hc0 i om om
    ·exact hhi i j om om om
   ·rw [List.length_append, List.length_singleton] at hu
    rw [lZ om]
    by_cases e : u = L.length
    ·subst e; rw [nW]; exact h.lt t htu
    ·rw [lZ om]; exact h.mono t u htu om
   ·rw [List.length_append, List.length_singleton] at ht
    by_cases e : t = L.length
    ·subst e; rw [nW]; omega
    ·rw [lZ om]; have := h.lt t om; omega)
def rd (R : List (List Rat)) (w : Nat) (v : Nat → Rat) (i : Nat) : Rat := sm (fun j => ent R i j * v j) w
def Sol (R : List (List Rat)) (w : Nat) (v : Nat → Rat) : Prop := ∀ i, i < R.length → rd R w v i = 0
theorem Stp.rdr {A B : List (List Rat)} {w a r c : Nat} (h : Stp A B w a r c) (v : Nat → Rat) : rd B w v r = 1 / ent A a c * rd A w v a := by
 unfold rd
 rw [gL]
 exact bZ w fun j hj => by rw [h.row j hj, Rat.mul_assoc]
theorem Stp.rdo {A B : List (List Rat)} {w a r c : Nat} (h : Stp A B w a r c) (v : Nat → Rat) {i : Nat} (hi : i < A.length) (hir : i ≠ r) : rd B w v i = rd A w v (swp a r i) + -(ent A (swp a r i) c * (1 / ent A a c)) * rd A w v a := by
 unfold rd
 rw [gL, ← oW]
 exact bZ w fun j hj => by rw [h.oth i j hi hir hj]; grind
theorem Stp.sol {A B : List (List Rat)} {w a r c : Nat} (h : Stp A B w a r c) (v : Nat → Rat) : Sol B w v ↔ Sol A w v := by
 have hl := h.len
 have hp := h.ne
 have ha := h.ha
 have hr := h.hr
 constructor
 ·intro hB
  have h1 : rd A w v a = 0 := by
   have h2 := hB r om
   rw [h.rdr] at h2
   grind
  intro k hk
  by_cases e : k = a
  ·rw [e]; exact h1
  ·have hi := oB hk h.ha h.hr
   have h3 := hB (swp a r k) om
   rw [h.rdo v hi (by unfold swp; rw [if_neg e]; split <;> omega), swp_swp, h1] at h3
   grind
 ·intro hA i hi
  by_cases e : i = r
  ·rw [e, h.rdr, hA a h.ha, Rat.mul_zero]
  ·rw [h.rdo v om e, hA a h.ha, hA _ (oB om h.ha h.hr)]; grind
theorem gjn_sol {R : List (List Rat)} {w : Nat} (hw : Wid w R) (v : Nat → Rat) : ∀ c, c ≤ w → (Sol (gjn R c).1 w v ↔ Sol R w v) :=
 qH hw (P := fun c S L => (Sol S w v ↔ Sol R w v)) Iff.rfl (fun c S L _ _ _ _ _ h _ => h) (fun c S L B a _ _ _ _ _ h hs _ _ => (hs.sol v).trans h)
theorem pivot_lt {R : List (List Rat)} {r c k : Nat} (h1 : r ≤ k) (h2 : k < pivot R r c) : ent R k c = 0 := by
 unfold pivot at h2
 have h3 : k - r < (R.drop r).findIdx (fun a => decide (a.getD c default ≠ 0)) := by omega
 have h4 := List.not_of_lt_findIdx h3
 have h5 : k - r < (R.drop r).length := Nat.lt_of_lt_of_le h3 List.findIdx_le_length
 rw [List.length_drop] at h5
 have e : (R.drop r)[k - r]'(by rw [List.length_drop]; omega) = R.getD k default := by
  rw [List.getElem_drop]
  simp only [show r + (k - r) = k by omega]
  rw [List.getD_eq_getElem?_getD, List.getElem?_eq_getElem om]; rfl
 rw [e] at h4
 unfold ent
 simpa using h4
theorem pivot_ext {A B : List (List Rat)} {r c : Nat} (hl : A.length = B.length) (hr : r ≤ A.length) (h : ∀ i, i < A.length → ent A i c = ent B i c) : pivot A r c = pivot B r c := by
 obtain ⟨p1, p2, p3⟩ := eL (R := B) (r := r) (c := c) om
 refine jL p1 om (fun k h1 h2 => ?_) ?_
 ·rw [h k om]; exact pivot_lt h1 h2
 ·by_cases e : pivot B r c = B.length
  ·left; omega
  ·right; rw [h _ om]; exact p3 om
theorem gjn_ext {A B : List (List Rat)} {w w2 : Nat} (hA : Wid w A) (hB : Wid w2 B) (hww : w ≤ w2) (hl : B.length = A.length) (he : ∀ i j, i < A.length → j < w → ent B i j = ent A i j) : ∀ c, c ≤ w → (gjn B c).2 = (gjn A c).2 ∧ ∀ i j, i < A.length → j < w → ent (gjn B c).1 i j = ent (gjn A c).1 i j
 | 0, _ => ⟨rfl, he⟩
 | c + 1, hc => by
  obtain ⟨ih1, ih2⟩ := gjn_ext hA hB hww hl he c om
  have hSA := St0.all hA c om
  have hSB := St0.all hB c om
  have hlA := cQ A c
  have hlB := cQ B c
  have hpe : pivot (gjn B c).1 (gjn B c).2.length c = pivot (gjn A c).1 (gjn A c).2.length c := by
   rw [ih1]
   exact pivot_ext om (by have := hSA.led; omega) fun i hi => ih2 i c om om
  obtain ⟨p1, p2, p3⟩ := eL (R := (gjn A c).1) (r := (gjn A c).2.length) (c := c) (by have := hSA.led; omega)
  by_cases e : pivot (gjn A c).1 (gjn A c).2.length c = (gjn A c).1.length
  ·rw [kW e, kW om]; exact ⟨ih1, ih2⟩
  ·rw [lL (R := B) hpe om, lL (R := A) rfl om, ih1]
   refine ⟨rfl, fun i j hi hj => ?_⟩
   have hp := p3 om
   have sA := stp_of (r := (gjn A c).2.length) (c := c) hSA.wid (show pivot (gjn A c).1 (gjn A c).2.length c < _ by omega) om om hp
   have sB := stp_of (r := (gjn A c).2.length) (c := c) hSB.wid (show pivot (gjn A c).1 (gjn A c).2.length c < _ by omega) om om (by rw [ih2 _ c om om]; exact hp)
   by_cases e2 : i = (gjn A c).2.length
   ·rw [e2, sA.row j hj, sB.row j om, ih2 _ c om om, ih2 _ j om hj]
   ·have hsl : swp (pivot (gjn A c).1 (gjn A c).2.length c) (gjn A c).2.length i < A.length := oB hi om om
    rw [sA.oth i j om e2 hj, sB.oth i j om e2 om, ih2 (swp _ _ i) c hsl om, ih2 (swp _ _ i) j hsl hj, ih2 _ c om om, ih2 _ j om hj]
theorem RI.ge {S : List (List Rat)} {L : List Nat} {c : Nat} (h : RI S L c) : ∀ t, t < L.length → t ≤ L.getD t default
 | 0, _ => Nat.zero_le _
 | t + 1, ht => by have := h.ge t om; have := h.mono t (t + 1) om ht; omega
theorem RI.le {S : List (List Rat)} {L : List Nat} {c : Nat} (h : RI S L c) : ∀ d t, t < L.length → L.length - 1 - t = d → L.getD t default + d < c
 | 0, t, ht, _ => by have := h.lt t ht; omega
 | d + 1, t, ht, hd => by have := h.le d (t + 1) om om; have := h.mono t (t + 1) om om; omega
theorem RI.unit {S : List (List Rat)} {L : List Nat} {c : Nat} (h : RI S L c) (hc : L.length = c) {i j : Nat} (hi : i < S.length) (hj : j < c) : ent S i j = if i = j then 1 else 0 := by
 have h1 := h.ge j om
 have h2 := h.le _ j om rfl
 have h3 := h.piv j om i hi
 rw [show L.getD j default = j by omega] at h3
 exact h3
theorem RowF.zero {n : Nat} {F : (Nat → Nat → Rat) → Rat} (hF : RowF n F) (M : Nat → Nat → Rat) {r : Nat} (hr : r < n) (h : ∀ b, b < n → M r b = 0) : F M = 0 := by
 have h1 := hF.scale M (r := r) 0 hr
 rw [Rat.zero_mul] at h1
 rw [← h1]
 refine hF.congr fun a b ha hb => ?_
 unfold upd
 by_cases e : a = r
 ·rw [if_pos e, e, h b hb]; exact (Rat.zero_mul _).symm
 ·rw [if_neg e]
def dtv (A : List (List Rat)) (n : Nat) : Rat := if (gjn A n).2.length < n then 0 else gjd A n
theorem gjn_end {n : Nat} {F : (Nat → Nat → Rat) → Rat} (hF : RowF n F) {A : List (List Rat)} (hl : A.length = n) (hw : Wid n A) : F (fm A) = dtv A n * F oneF := by
 have hR := rI hw n (Nat.le_refl _)
 have hgl := cQ A n
 have h := gjn_F hF hl hw n (Nat.le_refl _)
 have hrk := hR.rk
 unfold dtv
 by_cases e : (gjn A n).2.length < n
 ·rw [if_pos e, h, hF.zero (fm (gjn A n).1) (r := n - 1) om (fun b hb => hR.zer (n - 1) om om b hb)]; grind
 ·rw [if_neg e, h]
  congr 1
  exact hF.congr fun a b ha hb => hR.unit om om hb
theorem det_dtv {n : Nat} {A : List (List Rat)} (hl : A.length = n) (hw : Wid n A) : det n (fm A) = dtv A n := by
 rw [gjn_end (kN n) hl hw, det_one, Rat.mul_one]
theorem det_mulF {n : Nat} {A : List (List Rat)} (hl : A.length = n) (hw : Wid n A) (B : Nat → Nat → Rat) : det n (mulF n (fm A) B) = dtv A n * det n B := by
 rw [gjn_end (mul_rowF n B) hl hw]
 congr 1
 refine dQ n fun a b ha hb => ?_
 unfold mulF
 rw [fZ n ha fun i hi hne => by rw [show oneF a i = 0 from if_neg (Ne.symm hne), Rat.zero_mul], show oneF a a = 1 from if_pos rfl, Rat.one_mul]
open Go.RowKit
theorem dotR_rd {A : List (List Rat)} {w i : Nat} (hw : Wid w A) (hi : i < A.length) (y : List Rat) : dotR (A.getD i default) y = rd A w (fun j => y.getD j default) i := by
 rw [nD, hw.row hi]; rfl
def ev (w : Nat) (y : List Rat) : Nat → Rat := fun j => if j < w then y.getD j default else -1
theorem ent_wR {A : List (List Rat)} {b : List Rat} {w i j : Nat} (hw : Wid w A) (hi : i < A.length) (hj : j < w) : ent (wR A b) i j = ent A i j := by
 unfold ent wR
 rw [dT hi]
 simp only [List.getD_eq_getElem?_getD]
 rw [List.getElem?_append_left (by have := hw.row hi; rw [List.getD_eq_getElem?_getD] at this; omega)]
theorem ent_wR_last {A : List (List Rat)} {b : List Rat} {w i : Nat} (hw : Wid w A) (hi : i < A.length) : ent (wR A b) i w = b.getD i default := by
 unfold ent wR
 rw [dT hi]
 have h1 := hw.row hi
 rw [← h1]
 simp only [List.getD_eq_getElem?_getD]
 rw [List.getElem?_append_right (Nat.le_refl _), Nat.sub_self]; rfl
theorem rd_ev {S : List (List Rat)} {w : Nat} (y : List Rat) (i : Nat) : rd S (w + 1) (ev w y) i = rd S w (fun j => y.getD j default) i - ent S i w := by
 unfold rd
 rw [sm, show ev w y w = -1 from if_neg om, bZ w fun j hj => by rw [show ev w y j = y.getD j default from if_pos hj]]
 grind
theorem sol_wR {A : List (List Rat)} {b y : List Rat} {w : Nat} (hw : Wid w A) : Sol (wR A b) (w + 1) (ev w y) ↔ ∀ i, i < A.length → dotR (A.getD i default) y = b.getD i default := by
 unfold Sol
 rw [mQ]
 have key : ∀ i, i < A.length → rd (wR A b) (w + 1) (ev w y) i = dotR (A.getD i default) y - b.getD i default := fun i hi => by
  rw [rd_ev, ent_wR_last hw hi, dotR_rd hw hi]
  congr 1
  exact bZ w fun j hj => by rw [ent_wR hw hi hj]
 constructor
 ·intro h i hi
  have := h i hi
  rw [key i hi] at this; grind
 ·intro h i hi
  rw [key i hi, h i hi]; grind
theorem solv_getD {S : GS} {w : Nat} (hm : ∀ t u, t < u → u < S.2.length → S.2.getD t default < S.2.getD u default) (hlt : ∀ t, t < S.2.length → S.2.getD t default < w) : ∀ i, i ≤ S.2.length → ∀ j, j < w → (solv S w i).getD j default = sm (fun t => if S.2.getD t default = j then ent S.1 t w else 0) i
 | 0, _, j, hj => by
  rw [solv, sm]; simp [List.getD_eq_getElem?_getD, hj]
 | i + 1, hi, j, hj => by
  rw [solv, sm, bT (by rw [solv_len]; exact hj)]
  by_cases e : S.2.getD i default = j
  ·rw [if_pos e, if_pos e]
   have h0 : sm (fun t => if S.2.getD t default = j then ent S.1 t w else 0) i = 0 := by
    refine (bZ i fun t ht => if_neg ?_).trans (iE i)
    have := hm t i ht om
    omega
   rw [h0]; grind
  ·rw [if_neg e, if_neg e, Rat.add_zero, solv_getD hm hlt i om j hj]
theorem solv_ok {A : List (List Rat)} {b : List Rat} {w : Nat} (hw : Wid w A) (hns : nosol (gjn (wR A b) w) w = false) : ∀ i, i < A.length → dotR (A.getD i default) (solv (gjn (wR A b) w) w (gjn (wR A b) w).2.length) = b.getD i default := by
 have hW : Wid (w + 1) (wR A b) := wR_wid hw
 rw [← sol_wR hw, ← gjn_sol hW _ w om]
 have hR := rI hW w om
 have hl : (gjn (wR A b) w).1.length = A.length := by rw [cQ, mQ]
 generalize gjn (wR A b) w = S at *
 intro i hi
 rw [rd_ev]
 have h1 : rd S.1 w (fun j => (solv S w S.2.length).getD j default) i = sm (fun t => ent S.1 i (S.2.getD t default) * ent S.1 t w) S.2.length := by
  have e1 : ∀ j, j < w → ent S.1 i j * (solv S w S.2.length).getD j default = sm (fun t => ent S.1 i j * if S.2.getD t default = j then ent S.1 t w else 0) S.2.length := fun j hj => by
   rw [solv_getD hR.mono hR.lt _ (Nat.le_refl _) j hj, gL]
  unfold rd
  rw [bZ w e1]
  rw [sm_swap (fun j t => ent S.1 i j * if S.2.getD t default = j then ent S.1 t w else 0)]
  refine bZ _ fun t ht => ?_
  rw [fZ (j := S.2.getD t default) w (hR.lt t ht) fun j _ hne => by rw [if_neg (Ne.symm hne), Rat.mul_zero], if_pos rfl]
 rw [h1]
 by_cases e : i < S.2.length
 ·rw [fZ (j := i) _ e fun t ht hne => by rw [hR.piv t ht i hi, if_neg (Ne.symm hne), Rat.zero_mul], hR.piv i e i hi, if_pos rfl]
  grind
 ·rw [show sm (fun t => ent S.1 i (S.2.getD t default) * ent S.1 t w) S.2.length = 0 by
   rw [← iE S.2.length]
   exact bZ _ fun t ht => by rw [hR.piv t ht i hi, if_neg om, Rat.zero_mul]]
  have hp : pivot S.1 S.2.length w = S.1.length := by
   unfold nosol at hns
   have := of_decide_eq_false hns
   omega
  rw [mN hp om hi]; grind
def two (n : Nat) (x y : Nat → Rat) : Nat → Rat := fun j => if j < n then x j else y (j - n)
open Go.RowKit
theorem outN_some {q : Rat} {y : NM} (h : outN q = some y) : VN y ∧ nq y = q := by
 unfold outN at h
 split at h
 ·rename_i hc
  obtain ⟨⟨h1, h2⟩, h3⟩ := hc
  cases h
  have := q.den_pos
  refine ⟨⟨by show (1 : Int) ≤ (q.den : Int); omega, h3, h2, h1, ?_⟩, Rat.num_divInt_den q⟩
  show Int.gcd q.num (q.den : Int) = 1
  have := q.reduced
  unfold Nat.Coprime at this
  rw [Int.gcd, Int.natAbs_natCast]; exact this
 ·cases h
theorem VN.i64 {y : NM} (h : VN y) : I64 y.1 ∧ I64 y.2 := by
 obtain ⟨k1, k2, k3, k4, _⟩ := h
 unfold I64; omega
section
variable {P : Program} {T : TT} {E : TypeId → Bool} {N : Nat} {oa : Array Oper} {i b n z id : Nat} {e : Env} {h : Hp} {Q : Env → Hp → Prop} {K : Ex → Env → Hp → Nat → Prop} {t dst : Nat} {pos : String} {af : Array Edge} {l : List Oper} {x : Operand} {r : LV} {acc : List Rec} {c : Code} {o : Oper} {k : IntKind} {u : Int} {d : Delta} {R : List Nat}
theorem Um (hx : evE e x = some r) (hd : Nat.blt dst N = true) (q : WO P T E N oa l (i + 1) b ((dst, r) :: e) h Q) : WO P T E N oa (⟨some dst, .move x, t, pos, af, none⟩ :: l) i b e h Q := aA (dU hx) hd q
theorem Ua (hx : evE e x = some r) (hd : Nat.blt dst N = true) (q : WO P T E N oa l (i + 1) b ((dst, r) :: e) h Q) : WO P T E N oa (⟨some dst, .assign x, t, pos, af, none⟩ :: l) i b e h Q := aA (fR hx) hd q
theorem Dm (hx : evE e x = some r) (hd : Nat.blt dst N = true) (q : WD P T E N oa l (i + 1) b ((dst, r) :: e) h (⟨i, [], [], false⟩ :: acc) Q) : WD P T E N oa (⟨some dst, .move x, t, pos, af, none⟩ :: l) i b e h acc Q := aH (dU hx) hd q
theorem Wn (q : Q e h) : WO P T E N oa [] i b e h Q := dA q
theorem Nw (a : Env) (hs : subs a e) (q : WC P T E N c a h n K) : WO P T E N oa [] i b e h (fun e' m' => WC P T E N c e' m' n K) := dA (qB a hs q)
theorem Rg (z : Nat) (hz : oa.size = z) (q : WO P T E N oa oa.toList 0 n e h fun e' m' => WC P T E N c e' m' (n + z) K) : WC P T E N (.seq (.region id oa false) c) e h n K := WC.reg hz q
def pickE : List Nat → Env → Option Env
 | [], _ => some []
 | t :: ts, e => match e.get t, pickE ts e with
  | some v, some a => some ((t, v) :: a)
  | _, _ => none
theorem mM : ∀ {ts : List Nat} {e a : Env}, pickE ts e = some a → subs a e
 | [], e, a, h => by simp only [pickE, Option.some.injEq] at h; subst h; trivial
 | t :: ts, e, a, h => by
  simp only [pickE] at h
  cases h1 : e.get t with
  | none => rw [h1] at h; cases h
  | some v =>
   cases h2 : pickE ts e with
   | none => rw [h1, h2] at h; cases h
   | some a' =>
    rw [h1, h2] at h; cases h
    exact ⟨h1, mM h2⟩
theorem Nk {a : Env} (ts : List Nat) (hs : pickE ts e = some a) (q : WC P T E N c a h n K) : WO P T E N oa [] i b e h (fun e' m' => WC P T E N c e' m' n K) := dA (qB a (mM hs) q)
theorem Ck {a : Env} (ts : List Nat) (hs : pickE ts e = some a) (q : WC P T E N c a h n K) : WC P T E N c e h n K := qB a (mM hs) q
theorem K1 {op : Op} {g : Option (Nat × Bool)} (hg : guardE oa ⟨some dst, op, t, pos, af, g⟩ e = some false) (hd : Nat.blt dst N = true) (k : WO P T E N oa l (i + 1) b ((dst, .v undef) :: e) h Q) : WO P T E N oa (⟨some dst, op, t, pos, af, g⟩ :: l) i b e h Q := WO.K hg hd k
theorem gG {s : Nat} {y : Option Ob} (q : getH h s = y := by repeat (first | exact g0 | refine g1 om ?_)) : getH h s = y := q
theorem dD {p : Prop} (q : p := by first | exact dc | exact eQ | (simp [-bY]; done) | simp) : p := q
theorem cI (v : Int) (q : OP P T E o id e h (.v (.int k u)) d R) (hv : u = v) : OP P T E o id e h (.v (.int k v)) d R := OP.castI q hv
end
theorem J {α : Sort _} {a : α} : a = a := rfl
theorem kR {p : Prop} (q : p := by kernel_rfl) : p := q
theorem dM {a b : Nat} (h : Nat.ble a b = true) : a ≤ b := Nat.le_of_ble_eq_true h
end Go.Ab
namespace Go.Ab
open Go.RowKit
structure GB (R : List (List Rat)) (cols β : Nat) : Prop where
 pos : 2 ≤ β
 bds : ∀ c, c < cols → BdL β (gjn R c).1
 dts : ∀ c, c < cols → Bd β (gjd R c)
structure GI3 (R : List (List Rat)) (w β cols c : Nat) : Prop where
 bds : c < cols → BdL β (gjn R c).1
 wid : Wid w (gjn R c).1
 led : (gjn R c).2.length ≤ R.length
 ldc : ∀ x, x ∈ (gjn R c).2 → x < c
theorem GB.all {R : List (List Rat)} {cols β w : Nat} (h : GB R cols β) (hw : Wid w R) (hcw : cols ≤ w) (c : Nat) (hc : c ≤ cols) : GI3 R w β cols c where
 bds hcc := h.bds c hcc
 wid := (St0.all hw c om).wid
 led := (St0.all hw c om).led
 ldc x hx := by
  obtain ⟨t, ht, rfl⟩ := List.mem_iff_getElem.1 hx
  have := (rI hw c om).lt t ht
  rw [List.getD_eq_getElem?_getD, List.getElem?_eq_getElem ht] at this
  exact this
theorem Bd_int {z : Int} (h : z.natAbs < 18446744073709551616) : Bd 2 (z : Rat) := by
 refine ⟨?_, ?_⟩
 ·rw [Rat.num_intCast]; exact eX h
 ·rw [Rat.den_intCast]; exact Nat.le_trans (eI (n := 1) (by decide)) (by decide)
open Go.RowKit
theorem bF {q sz : Nat} {el : TypeId} {us : List (List LV)} {h H : Hp} (hq : us ≠ [] → getH H q = some { cells := us.flatten, sz := sz, elem := el, st := 0 }) (hs : subsM h H) : subsM (outH q sz el us h) H := by
 cases us with
 | nil => exact hs
 | cons u us => exact ⟨hq (by simp), hs⟩
section
variable {P : Program} {T : TT} {E : TypeId → Bool} {N : Nat} {e : Env} {h : Hp} {K : Env → Hp → Prop}
variable {dst : Option Tmp} {ty : TypeId} {pos : String} {af : Array Edge} {g : Option (Nat × Bool)} {id : Nat} {x y : Operand} {bt : TypeId} {ti : TI}
end
end Go.Ab
namespace Go.Ab
open Go.RowKit
abbrev BR := Int × NM
abbrev CH := NM × (Nat × List BR)
abbrev ST := (Int × Int) × (Nat × List CH)
def brc (b : BR) : List LV := [.v (.int .i64 b.1), .v (.int .i64 b.2.1), .v (.int .i64 b.2.2)]
def chc (c : CH) : List LV := [.v (.int .i64 c.1.1), .v (.int .i64 c.1.2), .sl c.2.1 (c.2.2.map brc)]
def stc (s : ST) : List LV := [.v (.int .i64 s.1.1), .v (.int .i64 s.1.2), .sl s.2.1 (s.2.2.map chc)]
def lvC (c : CH) : LV := .agg (chc c)
def lvMo (k : Nat) (ss : List ST) : LV := .agg [.sl k (ss.map stc)]
def IB (b : BR) : Prop := I64 b.1 ∧ I64 b.2.1 ∧ I64 b.2.2
def IC (c : CH) : Prop := I64 c.1.1 ∧ I64 c.1.2 ∧ ∀ b, b ∈ c.2.2 → IB b
def IS (s : ST) : Prop := I64 s.1.1 ∧ I64 s.1.2 ∧ ∀ c, c ∈ s.2.2 → IC c
theorem dbrc {bs : List BR} : ∀ row, row ∈ bs.map brc → ∀ c, c ∈ row → Data c := by
 intro row hr c hc
 obtain ⟨b, _, rfl⟩ := List.mem_map.1 hr
 simp only [brc, List.mem_cons, List.not_mem_nil, or_false] at hc
 rcases hc with rfl | rfl | rfl <;> exact .v _
theorem dchc1 (c : CH) : ∀ x, x ∈ chc c → Data x := by
 intro x hx
 simp only [chc, List.mem_cons, List.not_mem_nil, or_false] at hx
 rcases hx with rfl | rfl | rfl
 ·exact .v _
 ·exact .v _
 ·exact .sl _ _ fun row hr c hc => dbrc row hr c hc
theorem dchc {cs : List CH} : ∀ row, row ∈ cs.map chc → ∀ c, c ∈ row → Data c := by
 intro row hr c hc
 obtain ⟨b, _, rfl⟩ := List.mem_map.1 hr
 exact dchc1 b c hc
theorem pF (s : ST) : ∀ x, x ∈ stc s → Data x := by
 intro x hx
 simp only [stc, List.mem_cons, List.not_mem_nil, or_false] at hx
 rcases hx with rfl | rfl | rfl
 ·exact .v _
 ·exact .v _
 ·exact .sl _ _ fun row hr c hc => dchc row hr c hc
theorem dstc {ss : List ST} : ∀ row, row ∈ ss.map stc → ∀ c, c ∈ row → Data c := by
 intro row hr c hc
 obtain ⟨b, _, rfl⟩ := List.mem_map.1 hr
 exact pF b c hc
def psum (bs : List BR) : Nat → Rat
 | 0 => 0
 | i + 1 => psum bs i + nq (bs.getD i default).2
def lastB (bs : List BR) : Nat → Int
 | 0 => -1
 | i + 1 => (bs.getD i default).1
def okB (n : Nat) (bs : List BR) (i : Nat) : Bool := decide (lastB bs i < (bs.getD i default).1) && decide ((bs.getD i default).1 < n) && vn (bs.getD i default).2 && decide (0 < (bs.getD i default).2.1)
def VC (n : Nat) (c : CH) : Bool := vn c.1 && decide (1 ≤ c.2.2.length) && decide (c.2.2.length ≤ 8) && (List.range c.2.2.length).all (okB n c.2.2) && decide (psum c.2.2 c.2.2.length = 1)
def VS (n : Nat) (s : ST) : Bool := decide (0 ≤ s.1.1) && decide (s.1.1 ≤ 1) && decide (0 ≤ s.1.2) && decide (s.1.2 ≤ 63) && decide (1 ≤ s.2.2.length) && decide (s.2.2.length ≤ 8) && s.2.2.all (VC n)
def VMo (ss : List ST) : Bool := decide (1 ≤ ss.length) && decide (ss.length ≤ 40) && ss.all (VS ss.length)
theorem iD {n i : Nat} {p : Nat → Bool} (hi : i < n) (h : p i = false) : (List.range n).all p = false := by
 rw [Bool.eq_false_iff]
 intro h2
 have := List.all_eq_true.1 h2 i (List.mem_range.2 hi)
 rw [h] at this; cases this
theorem gK {n : Nat} {p : Nat → Bool} (h : ∀ i, i < n → p i = true) : (List.range n).all p = true := List.all_eq_true.2 fun i hi => h i (List.mem_range.1 hi)
theorem psum_bd {bs : List BR} : ∀ i, i ≤ bs.length → (∀ j, j < i → vn (bs.getD j default).2 = true) → Bd (1 + 3 * i) (psum bs i)
 | 0, _, _ => Bd0 (by decide)
 | i + 1, hi, h => by
  have h1 := psum_bd i om (fun j hj => h j om)
  have h2 : VN (bs.getD i default).2 := of_decide_eq_true (h i om)
  exact (h1.add h2.bd).mono om
theorem okB_vn {n : Nat} {bs : List BR} {i : Nat} (h : okB n bs i = true) : vn (bs.getD i default).2 = true ∧ 0 < (bs.getD i default).2.1 := by
 unfold okB at h
 rw [Bool.and_eq_true, Bool.and_eq_true] at h
 exact ⟨h.1.2, of_decide_eq_true h.2⟩
theorem VC_no1 {n : Nat} {c : CH} (h : vn c.1 = false) : VC n c = false := by unfold VC; rw [h]; rfl
theorem VC_no2 {n : Nat} {c : CH} (h : c.2.2.length < 1 ∨ 8 < c.2.2.length) : VC n c = false := by
 unfold VC
 rcases h with h | h
 ·rw [decide_eq_false (show ¬ 1 ≤ c.2.2.length by omega), Bool.and_false]; rfl
 ·rw [decide_eq_false (show ¬ c.2.2.length ≤ 8 by omega), Bool.and_false]; rfl
theorem VC_no3 {n i : Nat} {c : CH} (hi : i < c.2.2.length) (h : okB n c.2.2 i = false) : VC n c = false := by
 unfold VC
 rw [iD hi h, Bool.and_false]; rfl
theorem VC_yes {n : Nat} {c : CH} (h1 : vn c.1 = true) (h2 : 1 ≤ c.2.2.length) (h3 : c.2.2.length ≤ 8) (h4 : ∀ i, i < c.2.2.length → okB n c.2.2 i = true) : VC n c = decide (psum c.2.2 c.2.2.length = 1) := by
 unfold VC
 rw [h1, decide_eq_true h2, decide_eq_true h3, gK h4]; rfl
theorem okB_no {n i : Nat} {bs : List BR} (h : (bs.getD i default).1 ≤ lastB bs i ∨ (n : Int) ≤ (bs.getD i default).1 ∨ vn (bs.getD i default).2 = false ∨ (bs.getD i default).2.1 ≤ 0) : okB n bs i = false := by
 unfold okB
 rcases h with h | h | h | h
 ·rw [decide_eq_false (show ¬ lastB bs i < (bs.getD i default).1 by omega)]; rfl
 ·rw [decide_eq_false (show ¬ (bs.getD i default).1 < (n : Int) by omega), Bool.and_false]; rfl
 ·rw [h, Bool.and_false]; rfl
 ·rw [decide_eq_false (show ¬ 0 < (bs.getD i default).2.1 by omega), Bool.and_false]
theorem okB_yes {n i : Nat} {bs : List BR} (h1 : lastB bs i < (bs.getD i default).1) (h2 : (bs.getD i default).1 < (n : Int)) (h3 : vn (bs.getD i default).2 = true) (h4 : 0 < (bs.getD i default).2.1) : okB n bs i = true := by
 unfold okB
 rw [decide_eq_true h1, decide_eq_true h2, h3, decide_eq_true h4]; rfl
theorem sign_one {x : Rat} : ((x - 1).num.sign = 0) ↔ x = 1 := by
 rw [eZ]
 constructor <;> intro h <;> grind
theorem VS_no {n : Nat} {s : ST} (h : s.1.1 < 0 ∨ 1 < s.1.1 ∨ s.1.2 < 0 ∨ 63 < s.1.2 ∨ s.2.2.length < 1 ∨ 8 < s.2.2.length) : VS n s = false := by
 unfold VS
 rcases h with h | h | h | h | h | h
 ·rw [decide_eq_false (show ¬ 0 ≤ s.1.1 by omega)]; rfl
 ·rw [decide_eq_false (show ¬ s.1.1 ≤ 1 by omega), Bool.and_false]; rfl
 ·rw [decide_eq_false (show ¬ 0 ≤ s.1.2 by omega), Bool.and_false]; rfl
 ·rw [decide_eq_false (show ¬ s.1.2 ≤ 63 by omega), Bool.and_false]; rfl
 ·rw [decide_eq_false (show ¬ 1 ≤ s.2.2.length by omega), Bool.and_false]; rfl
 ·rw [decide_eq_false (show ¬ s.2.2.length ≤ 8 by omega), Bool.and_false]; rfl
theorem VS_no2 {n j : Nat} {s : ST} (hj : j < s.2.2.length) (h : VC n (s.2.2.getD j default) = false) : VS n s = false := by
 unfold VS
 rw [all_no (i := j) hj h, Bool.and_false]
theorem VS_yes {n : Nat} {s : ST} (h1 : 0 ≤ s.1.1) (h2 : s.1.1 ≤ 1) (h3 : 0 ≤ s.1.2) (h4 : s.1.2 ≤ 63) (h5 : 1 ≤ s.2.2.length) (h6 : s.2.2.length ≤ 8) (h7 : s.2.2.all (VC n) = true) : VS n s = true := by
 unfold VS
 rw [decide_eq_true h1, decide_eq_true h2, decide_eq_true h3, decide_eq_true h4, decide_eq_true h5, decide_eq_true h6, h7]; rfl
theorem VMo_no {ss : List ST} (h : ss.length < 1 ∨ 40 < ss.length) : VMo ss = false := by
 unfold VMo
 rcases h with h | h
 ·rw [decide_eq_false (show ¬ 1 ≤ ss.length by omega)]; rfl
 ·rw [decide_eq_false (show ¬ ss.length ≤ 40 by omega), Bool.and_false]; rfl
theorem jS {i : Nat} {ss : List ST} (hi : i < ss.length) (h : VS ss.length (ss.getD i default) = false) : VMo ss = false := by
 unfold VMo
 rw [all_no (i := i) hi h, Bool.and_false]
theorem VMo_yes {ss : List ST} (h1 : 1 ≤ ss.length) (h2 : ss.length ≤ 40) (h3 : ss.all (VS ss.length) = true) : VMo ss = true := by
 unfold VMo
 rw [decide_eq_true h1, decide_eq_true h2, h3]; rfl
instance {c : CH} : DC (lvC c) := ⟨.agg _ (dchc1 c)⟩
instance {k : Nat} {ss : List ST} : DC (lvMo k ss) := ⟨.agg _ (by intro c hc; rw [List.mem_singleton] at hc; subst hc; exact .sl _ _ fun row hr c hc => dstc row hr c hc)⟩
open Go.RowKit
theorem okB_lo {n : Nat} {bs : List BR} : ∀ i, (∀ j, j < i → okB n bs j = true) → -1 ≤ lastB bs i
 | 0, _ => Int.le_refl _
 | i + 1, h => by
  have h1 := okB_lo i (fun j hj => h j om)
  have h2 := h i om
  unfold okB at h2
  rw [Bool.and_eq_true, Bool.and_eq_true, Bool.and_eq_true] at h2
  have h3 := of_decide_eq_true h2.1.1.1
  show -1 ≤ (bs.getD i default).1
  omega
def ic (n : Int) : List LV := [.v (.int .i64 n)]
theorem dic {l : List Int} : ∀ row, row ∈ l.map ic → ∀ c, c ∈ row → Data c := by
 intro row hr c hc
 obtain ⟨b, _, rfl⟩ := List.mem_map.1 hr
 rw [ic, List.mem_singleton] at hc
 subst hc; exact .v _
open Go.RowKit
section
variable {P : Program} {T : TT} {E : TypeId → Bool} {e : Env} {h : Hp}
variable {dst : Option Tmp} {ty : TypeId} {pos : String} {af : Array Edge} {g : Option (Nat × Bool)} {id : Nat} {x y : Operand} {bt el : TypeId} {ti te : TI}
end
def sb (f : Nat → Bool) : List LV := (List.range 40).map fun i => .v (.bool (f i))
def lvS (f : Nat → Bool) : LV := .agg (sb f)
theorem data_sb (f : Nat → Bool) : ∀ c, c ∈ sb f → Data c := fun c hc => by
 obtain ⟨i, _, rfl⟩ := List.mem_map.1 hc
 exact .v _
instance {f : Nat → Bool} : DC (lvS f) := ⟨.agg _ (data_sb f)⟩
section
variable {P : Program} {T : TT} {E : TypeId → Bool} {e : Env} {h : Hp}
variable {dst : Option Tmp} {ty : TypeId} {pos : String} {af : Array Edge} {g : Option (Nat × Bool)} {id : Nat} {x y : Operand} {bt el : TypeId} {ti te : TI}
end
def inl (l : List Int) (i : Nat) (s : Nat) : Bool := (l.take i).any fun t => decide (t = s)
def inL (l : List Int) (s : Nat) : Bool := l.any fun t => decide (t = s)
end Go.Ab
namespace Go.Ab
open Go.RowKit
theorem nF {P : Program} {w : World} {e : TypeId} (he : P.underlying e = some .bool) (hp : P.plainKey e = true) (hc : P.cellsOf e = 1) (xs ys : Array Value) : ∀ is : List Nat,
  (∀ i, i ∈ is → ∃ p q, xs[i]? = some (.bool p) ∧ ys[i]? = some (.bool q)) →
  ∃ r : Bool, (Op.eqItems 9999 e 1 xs ys is).run P w = .ok r w ∧ (r = true ↔ ∀ i, i ∈ is → xs[i]? = ys[i]?)
 | [], _ => ⟨true, by simp [Op.eqItems], by simp⟩
 | i :: is, h => by
  obtain ⟨p, q, h1, h2⟩ := h i (by simp)
  obtain ⟨r, h3, h4⟩ := nF he hp hc xs ys is fun j hj => h j (by simp [hj])
  have p1 := run_part_plain (P := P) w hp (xs := xs) (off := i) h1
  have p2 := run_part_plain (P := P) w hp (xs := ys) (off := i) h2
  have p3 : (Op.equalIn 9999 e (.bool p) (.bool q)).run P w = .ok (p == q) w := run_equalIn_bool w 9998 _ _ _ he
  simp only [Op.eqItems, Nat.mul_one, Sem.run_bind, p1, p2, p3, Result.andThen_ok]
  cases hpq : (p == q)
  ·refine ⟨false, by simp, ⟨fun h => (by cases h), fun h => ?_⟩⟩
   have := h i (by simp)
   rw [h1, h2] at this
   simp at this
   rw [this] at hpq; simp at hpq
  ·refine ⟨r, by simpa using h3, ?_⟩
   have : p = q := by simpa using hpq
   subst this
   rw [h4]
   simp [h1, h2]
theorem eqOk_arr {P : Program} {t e : TypeId} {n : Nat} {i : TypeInfo} (hg : P.eqGuardType P.depth t = false) (ht : P.underlying t = some (.array n e)) (hi : P.info? e = some i) (he : P.underlying e = some .bool) (hp : P.plainKey e = true) (hce : P.cellsOf e = 1) (hc : P.cellsOf t = n) : EqOk P t := by
 refine ⟨hg, fun xs ys w h1 h2 h3 => ?_⟩
 unfold EqKind at h3
 rw [ht] at h3
 obtain ⟨r, h4, h5⟩ := nF (w := w) he hp hce xs ys (List.range n) fun i hi => by
  rw [List.mem_range] at hi
  have hx : i < xs.size := by omega
  have hy : i < ys.size := by omega
  obtain ⟨p, q, k1, k2⟩ := h3 i xs[i] ys[i] (Array.getElem?_eq_getElem hx) (Array.getElem?_eq_getElem hy)
  exact ⟨p, q, by rw [Array.getElem?_eq_getElem hx, k1], by rw [Array.getElem?_eq_getElem hy, k2]⟩
 refine ⟨r, ?_, h5.trans ⟨fun h => ?_, fun h => by rw [h]; simp⟩⟩
 ·rw [run_equalIn_array w 9999 xs ys ht hi, hce]; exact h4
 ·refine Array.ext h1 fun i hi hi' => ?_
  have := h i (List.mem_range.2 om)
  rw [Array.getElem?_eq_getElem hi, Array.getElem?_eq_getElem hi'] at this
  exact Option.some.inj this
def tab {α : Type} (n : Nat) (f : Nat → α) : List α := (List.range n).map f
def fset {α : Type} (f : Nat → α) (j : Nat) (a : α) : Nat → α := fun i => if i = j then a else f i
theorem cK {α : Type} (n : Nat) (f : Nat → α) : (tab n f).length = n := by simp [tab]
theorem oC {α : Type} [Inhabited α] {n j : Nat} (f : Nat → α) (h : j < n) : (tab n f).getD j default = f j := by
 rw [List.getD_eq_getElem?_getD, List.getElem?_eq_getElem (by rw [cK]; exact h)]
 simp [tab]
theorem tab_set {α : Type} {n j : Nat} (f : Nat → α) (a : α) : (tab n f).set j a = tab n (fset f j a) := by
 refine List.ext_getElem (by simp [tab]) fun i h1 h2 => ?_
 rw [List.getElem_set]
 simp only [tab, fset, List.getElem_map, List.getElem_range]
 by_cases h : j = i
 ·subst h; simp
 ·rw [if_neg h, if_neg (Ne.symm h)]
theorem tab_eq {α : Type} {n : Nat} {f g : Nat → α} (h : ∀ i, i < n → f i = g i) : tab n f = tab n g := List.map_congr_left fun i hi => h i (List.mem_range.1 hi)
theorem tab_const {α : Type} (n : Nat) (a : α) : List.replicate n a = tab n fun _ => a := by
 refine List.ext_getElem (by simp [tab]) fun i h1 h2 => by simp [tab]
def bc (b : Bool) : List LV := [.v (.bool b)]
theorem dbc (b : Bool) : ∀ c, c ∈ bc b → Data c := by intro c hc; rw [bc, List.mem_singleton] at hc; subst hc; exact .v _
theorem mA (b : Int) : ∀ c, c ∈ ic b → Data c := by intro c hc; rw [ic, List.mem_singleton] at hc; subst hc; exact .v _
def fl (n : Nat) (f : Nat → Bool) : List Int := ((List.range n).filter f).map fun (i : Nat) => (i : Int)
abbrev lvL (k : Nat) (l : List Int) : LV := .sl k (l.map ic)
abbrev lvF (k n : Nat) (f : Nat → Bool) : LV := .sl k ((tab n f).map bc)
abbrev lvG (k n : Nat) (g : Nat → Int) : LV := .sl k ((tab n g).map ic)
theorem dlvL (k : Nat) (l : List Int) : Data (lvL k l) := .sl _ _ dic
theorem dlvF (k n : Nat) (f : Nat → Bool) : Data (lvF k n f) := .sl _ _ (aW dbc)
instance {k : Nat} {l : List Int} : DC (lvL k l) := ⟨dlvL k l⟩
instance {k n : Nat} {f : Nat → Bool} : DC (lvF k n f) := ⟨dlvF k n f⟩
instance {k n : Nat} {f : Nat → Int} : DC (lvG k n f) := ⟨dlvL k _⟩
section
variable {P : Program} {T : TT} {E : TypeId → Bool} {e : Env} {h : Hp}
variable {dst : Option Tmp} {ty : TypeId} {pos : String} {af : Array Edge} {g : Option (Nat × Bool)} {id : Nat}
def Lent (h : Hp) (S : List Nat) : Prop := ∀ q, q ∈ S → ∃ o, getH h q = some o ∧ o.st ≠ 2
inductive SnapB (h : Hp) (S : List Nat) : List LV → List LV → Prop
 | nil : SnapB h S [] []
 | cons {l l' : LV} {ls ls' : List LV} : (∀ m, FitsM h m → Snap m (· ∈ S) l l') → SnapB h S ls ls' → SnapB h S (l :: ls) (l' :: ls')
theorem SnapB.snap {m : Mem} {S : List Nat} {d : Delta} {ls ls' : List LV} (hm : FitsM h m) (hk : keys d = S) (hw : SnapB h S ls ls') : SnapL m d ls ls' := by
 subst hk
 induction hw with
 | nil => exact ⟨rfl, by simp⟩
 | cons h1 _ ih =>
  refine ⟨by simp [ih.1], fun i l l' hl hl' => ?_⟩
  cases i with
  | zero => simp at hl hl'; subst hl; subst hl'; exact h1 m hm
  | succ i => simp at hl hl'; exact ih.2 i l l' hl hl'
theorem SnapB.data {S : List Nat} {l : LV} {ls ls' : List LV} (hl : Data l) (k : SnapB h S ls ls') : SnapB h S (l :: ls) (l :: ls') := .cons (fun m _ => .data _ hl) k
theorem SnapB.own {S : List Nat} {q sz len : Nat} {ob : Ob} {ls ls' : List LV} (ys : List (List LV)) (hlen : len = ys.length) (hq : getH h q = some ob) (h2 : ob.st ≠ 2) (hz : ob.sz = sz) (h0 : 0 < sz) (hS : q ∈ S) (hc : ob.cells = ys.flatten) (hl : ∀ row, row ∈ ys → row.length = sz) (hd : ∀ row, row ∈ ys → ∀ c, c ∈ row → Data c) (k : SnapB h S ls ls') :
  SnapB h S (.ref q sz 0 len :: ls) (.sl 1 ys :: ls') := .cons (fun m hm => by
   subst hlen
   obtain ⟨d, hk⟩ : ∃ d : Delta, keys d = S := ⟨S.map fun q => (q, ⟨[], 0, 0, 0⟩), by simp [keys, Function.comp_def]⟩
   subst hk
   exact lY hq h2 hz h0 hS hc hl hd m hm) k
theorem snapBox {S : List Nat} {q : Nat} {ob : Ob} {ds : List LV} {m : Mem} (hq : m q = some ob) (h2 : ob.st ≠ 2) (hS : q ∈ S) (hlen : ob.cells.length = ds.length) (ho : ∀ (i : Nat) (c d : LV), ob.cells[i]? = some c → ds[i]? = some d → d.one = c.one) (hd : ∀ (i : Nat) (c d : LV), ob.cells[i]? = some c → ds[i]? = some d → Snap m (· ∈ S) c d) :
  Snap m (· ∈ S) (.ptr q 0) (.ro ds) := .ptr q 0 ob ds hq hS h2 (by simpa using hlen) (by simpa using ho) (by simpa using hd)
theorem snapBoxD {S : List Nat} {q : Nat} {ob : Ob} {m : Mem} (hq : m q = some ob) (h2 : ob.st ≠ 2) (hS : q ∈ S) (hd : ∀ c, c ∈ ob.cells → Data c) : Snap m (· ∈ S) (.ptr q 0) (.ro ob.cells) :=
 snapBox hq h2 hS rfl (fun i c d hc hd => by rw [hc] at hd; cases hd; rfl) fun i c d hc hd' => by rw [hc] at hd'; cases hd'; exact .data _ (hd c (List.mem_of_getElem? hc))
end
end Go.Ab
namespace Go.Ab
open Go.RowKit
section
variable {P : Program} {T : TT} {E : TypeId → Bool} {e : Env} {h : Hp}
variable {dst : Option Tmp} {ty : TypeId} {pos : String} {af : Array Edge} {g : Option (Nat × Bool)} {id : Nat} {x y : Operand} {bt el : TypeId} {ti te : TI}
theorem oStTi {f : Nat → Int} {b : Int} {n j r : Nat} (hx : evE e x = some (.ptr r ((0 + j) * 1))) (hy : evE e y = some (.v (.int .i64 b))) (hE : T bt = some ti) (hr : getH h r = some { cells := ((tab n f).map ic).flatten, sz := 1, elem := el, st := 0 }) (hj : j < n) (hz : 1 = ti.size) :
  OP P T E ⟨dst, .store bt x y, ty, pos, af, g⟩ id e h (.v undef) [(r, { cells := ((tab n (fset f j b)).map ic).flatten, sz := 1, elem := el, st := 0 })] [r] := by
 have := eC (P := P) (T := T) (E := E) (e := e) (h := h) (dst := dst) (ty := ty) (pos := pos) (af := af) (g := g) (id := id) (f := ic) (us := tab n f) b hx hy hE hr (fun _ => rfl) hz rfl (by rw [cK]; exact hj) rfl
 rwa [tab_set] at this
end
theorem rows_ic {n : Nat} {f : Nat → Int} : ∀ row, row ∈ (tab n f).map ic → row.length = 1 := bL (f := ic) fun _ => rfl
def wi (c : CH) (f : Nat → Bool) : Bool := c.2.2.all fun b => f b.1.toNat
def me (c : CH) (f : Nat → Bool) : Bool := c.2.2.any fun b => f b.1.toNat
def okc (f g : Nat → Bool) (c : CH) : Bool := wi c f && me c g
def alw (ss : List ST) (s : Nat) (p : Int) (f g : Nat → Bool) : Bool :=
 if (ss.getD s default).1.1 = p then (ss.getD s default).2.2.any (okc f g) else (ss.getD s default).2.2.all (okc f g)
structure WT (ss : List ST) : Prop where
 to : ∀ s, s ∈ ss → ∀ c, c ∈ s.2.2 → ∀ b, b ∈ c.2.2 → 0 ≤ b.1 ∧ b.1 < ss.length
 len : ss.length ≤ 40
end Go.Ab
namespace Go.Ab
open Go.RowKit
theorem tab_repi (n : Nat) : (List.replicate n [LV.v (.int .i64 0)]).flatten = ((tab n fun _ => (0 : Int)).map ic).flatten := by rw [← tab_const, List.map_replicate]; rfl
section
variable {P : Program} {T : TT} {E : TypeId → Bool} {e : Env} {h : Hp}
variable {dst : Option Tmp} {ty : TypeId} {pos : String} {af : Array Edge} {g : Option (Nat × Bool)} {id : Nat} {x y : Operand} {bt el : TypeId} {ti te : TI}
end
end Go.Ab
namespace Go.Ab
open Go.RowKit
section
variable {P : Program} {T : TT} {E : TypeId → Bool} {e : Env} {h : Hp}
variable {dst : Option Tmp} {ty : TypeId} {pos : String} {af : Array Edge} {g : Option (Nat × Bool)} {id : Nat}
theorem SnapB.get {S : List Nat} {m : Mem} (hm : FitsM h m) {ls ls' : List LV} (hw : SnapB h S ls ls') : ls.length = ls'.length ∧ ∀ (i : Nat) (c d : LV), ls[i]? = some c → ls'[i]? = some d → Snap m (· ∈ S) c d := by
 induction hw with
 | nil => exact ⟨rfl, by simp⟩
 | cons h1 _ ih =>
  refine ⟨by simp [ih.1], fun i l l' hl hl' => ?_⟩
  cases i with
  | zero => simp at hl hl'; subst hl; subst hl'; exact h1 m hm
  | succ i => simp at hl hl'; exact ih.2 i l l' hl hl'
theorem SnapB.fn {S : List Nat} {f : Fn} {as0 as1 bs bs' ls ls' : List LV} (h1 : SnapB h S as0 as1) (h2 : SnapB h S bs bs') (k : SnapB h S ls ls') : SnapB h S (.fn f as0 bs :: ls) (.fn f as1 bs' :: ls') :=
 .cons (fun m hm => .fn f _ _ _ _ (h1.get hm).1 (h2.get hm).1 (h1.get hm).2 (h2.get hm).2) k
theorem SnapB.box {S : List Nat} {q : Nat} {ob : Ob} {ls ls' : List LV} (hq : getH h q = some ob) (hS : q ∈ S) (h2 : ob.st ≠ 2) (hd : ∀ c, c ∈ ob.cells → Data c) (k : SnapB h S ls ls') : SnapB h S (.ptr q 0 :: ls) (.ro ob.cells :: ls') :=
 .cons (fun m hm => snapBoxD (hm _ _ hq) h2 hS hd) k
theorem SnapB.app {S : List Nat} {as0 as1 bs bs' : List LV} (h1 : SnapB h S as0 as1) (h2 : SnapB h S bs bs') : SnapB h S (as0 ++ bs) (as1 ++ bs') := by
 induction h1 with
 | nil => exact h2
 | cons k _ ih => exact .cons k ih
theorem Lent.cons {q : Nat} {S : List Nat} {o : Ob} (hq : getH h q = some o) (h2 : o.st ≠ 2) (k : Lent h S) : Lent h (q :: S) := fun r hr => by
 rcases List.mem_cons.1 hr with rfl | hr
 ·exact ⟨o, hq, h2⟩
 ·exact k r hr
theorem oCallVD {t : Tmp} {f : FuncId} {first cap : List LV} {args : Array Operand} {at_ : Array TypeId} {ls : List LV} {r : LV} (hv : evE e (.tmp t) = some (.fn (.func f) first cap)) (ha : argsE e args.toList = some ls) (hr : Run P T E (.call f (first ++ ls ++ cap) r)) (hd : ∀ c, c ∈ first ++ ls ++ cap → Data c) :
  OP P T E ⟨dst, .call { callee := .value (.tmp t), args := args, argTypes := at_ }, ty, pos, af, g⟩ id e h r [] [] := fun s m hs hm =>
 .pcall _ _ _ _ _ _ _ (.tmp t) f first cap (first ++ ls ++ cap) rfl rfl (hs _ _ hv) (by
  rw [dG hs ha]
  exact ⟨rfl, fun i l l' hl hl' => by rw [hl] at hl'; cases hl'; exact .data _ (hd l (List.mem_of_getElem? hl))⟩) (by intro p hp; simp at hp) hr
end
theorem data3 {as0 bs cs : List LV} (h1 : ∀ c, c ∈ as0 → Data c) (h2 : ∀ c, c ∈ bs → Data c) (h3 : ∀ c, c ∈ cs → Data c) : ∀ c, c ∈ as0 ++ bs ++ cs → Data c := fun c hc => by
 rcases List.mem_append.1 hc with hc | hc
 ·rcases List.mem_append.1 hc with hc | hc
  ·exact h1 c hc
  ·exact h2 c hc
 ·exact h3 c hc
theorem dfn {f : Fn} {as0 bs : List LV} (h1 : ∀ c, c ∈ as0 → Data c) (h2 : ∀ c, c ∈ bs → Data c) : Data (.fn f as0 bs) := .fn f as0 bs h1 h2
theorem d0 : ∀ c, c ∈ ([] : List LV) → Data c := by intro c hc; simp at hc
def pk (x : ST) (p : Int) (q : CH → Bool) : Int := if x.1.1 = p then fidx q x.2.2 else if x.2.2.any (fun c => !q c) then -1 else 0
end Go.Ab
namespace Go.Ab
open Go.RowKit
def mixf {α : Type} (f f' : Nat → α) (j : Nat) : Nat → α := fun s => if s < j then f' s else f s
theorem mixf_set {α : Type} {f f' : Nat → α} {j : Nat} : mixf f f' (j + 1) = fset (mixf f f' j) j (f' j) := by
 funext s
 unfold mixf fset
 by_cases h : s = j
 ·subst h; rw [if_pos om, if_pos rfl]
 ·rw [if_neg h]
  show _ = if s < j then f' s else f s
  by_cases h2 : s < j
  ·rw [if_pos h2, if_pos om]
  ·rw [if_neg h2, if_neg om]
theorem mixf_zero {α : Type} {f f' : Nat → α} : mixf f f' 0 = f := by funext s; unfold mixf; rw [if_neg om]
def gstep (ss : List ST) (p : Int) (ins old : Nat → Bool) (s : Nat) : Bool := old s || (decide (s < ss.length) && ins s && alw ss s p ins old)
def newc (ss : List ST) (p : Int) (ins old : Nat → Bool) (c : Nat → Int) (s : Nat) : Int :=
 if (!old s && decide (s < ss.length) && ins s && alw ss s p ins old && decide ((ss.getD s default).1.1 = p)) = true then pk (ss.getD s default) p (okc ins old) else c s
def gx (ss : List ST) (p : Int) (ins goal : Nat → Bool) : Nat → Nat → Bool
 | 0 => goal
 | k + 1 => gstep ss p ins (gx ss p ins goal k)
def gc (ss : List ST) (p : Int) (ins goal : Nat → Bool) : Nat → Nat → Int
 | 0 => fun _ => 0
 | k + 1 => newc ss p ins (gx ss p ins goal k) (gc ss p ins goal k)
theorem cJ {H h : Hp} (hnd : subsM H H) (hs : ∀ q o, getH H q = some o → getH h q = some o) : subsM H h := by
 suffices ∀ L, subsM L H → subsM L h from this H hnd
 intro L
 induction L with
 | nil => intro _; trivial
 | cons p L ih => exact fun ⟨h1, h2⟩ => ⟨hs _ _ h1, ih h2⟩
section
variable {P : Program} {T : TT} {E : TypeId → Bool} {N : Nat} {oa : Array Oper} {l : List Oper} {i b n : Nat} {e : Env} {h : Hp} {Q : Env → Hp → Nat → Prop}
theorem WN.weakH (a : Hp) (hs : Hp.le a h) (k : WN P T E N oa l i b e a n Q) : WN P T E N oa l i b e h n Q := fun hd s m hf hm => k hd s m hf fun t l hg => hm t l (hs t l hg)
theorem mT (a : Hp) (hs : subsM a h) (k : WN P T E N oa l i b e a n Q) : WN P T E N oa l i b e h n Q := WN.weakH a hs.get k
end
end Go.Ab
namespace Go.Ab
open Go.RowKit
section
variable {ss : List ST} {p : Int} {ins old : Nat → Bool} {c : Nat → Int} {j : Nat}
end
section
variable {T : TT} {e : Env} {h : Hp} {ti : TI}
end
end Go.Ab
namespace Go.Ab
open Go.RowKit
theorem tab_repiF {n : Nat} {el : TypeId} {f : Nat → Int} (hf : ∀ i, f i = 0) : Ob.mk (List.replicate n [LV.v (.int .i64 0)]).flatten 1 el 0 = Ob.mk ((tab n f).map ic).flatten 1 el 0 := by
 rw [tab_repi, tab_eq (g := f) fun i _ => (hf i).symm]
end Go.Ab
namespace Go.Ab
open Go.RowKit
theorem WN.S0 {P : Program} {T : TT} {E : TypeId → Bool} {N : Nat} {oa : Array Oper} {i b n : Nat} {e : Env} {h : Hp} {Q : Env → Hp → Nat → Prop} {op : Op} {t : TypeId} {pos : String} {af : Array Edge} {l : List Oper} {r : LV} {d : Delta} {R : List Nat} (ho : OP P T E ⟨none, op, t, pos, af, none⟩ (b + i) e h r d R)
  (k : WN P T E N oa l (i + 1) b e (appH d h) n Q) : WN P T E N oa (⟨none, op, t, pos, af, none⟩ :: l) i b e h n Q := by
 intro hdr s m hs hm
 obtain ⟨hi, hl⟩ := eR hdr
 obtain ⟨rs, s', h1, h3⟩ := k hl _ _ hs (hm.app d)
 refine ⟨⟨i, keys d, R, false⟩ :: rs, s', ?_, h3⟩
 rw [List.length_cons, List.range'_succ]
 exact .did oa i _ b ⟨s, m, n⟩ s' rs _ r d R (by simpa using hi) rfl (ho s m (fun x l hx => dE hs hx) hm) h1
section
variable {ss : List ST} {p : Int} {g : Nat → Bool} (hg : ∀ s, g s = true → s < ss.length)
include hg
end
structure VM1 (ss : List ST) : Prop where
 wt : WT ss
 own : ∀ x, x ∈ ss → 0 ≤ x.1.1 ∧ x.1.1 ≤ 1
 cs : ∀ x, x ∈ ss → 1 ≤ x.2.2.length ∧ x.2.2.length ≤ 8
 bs : ∀ x, x ∈ ss → ∀ c, c ∈ x.2.2 → 1 ≤ c.2.2.length ∧ c.2.2.length ≤ 8
 pos : 1 ≤ ss.length
theorem fS {ss : List ST} (h : VMo ss = true) : VM1 ss := by
 unfold VMo at h
 rw [Bool.and_eq_true, Bool.and_eq_true] at h
 obtain ⟨⟨h1, h2⟩, h3⟩ := h
 have h1 := of_decide_eq_true h1
 have h2 := of_decide_eq_true h2
 have hs : ∀ x, x ∈ ss → VS ss.length x = true := List.all_eq_true.1 h3
 have hc : ∀ x, x ∈ ss → ∀ c, c ∈ x.2.2 → VC ss.length c = true := fun x hx => by
  have := hs x hx
  unfold VS at this
  rw [Bool.and_eq_true] at this
  exact List.all_eq_true.1 this.2
 refine ⟨⟨fun x hx c hcx b hb => ?_, h2⟩, fun x hx => ?_, fun x hx => ?_, fun x hx c hcx => ?_, h1⟩
 ·have := hc x hx c hcx
  unfold VC at this
  rw [Bool.and_eq_true, Bool.and_eq_true] at this
  have hok := List.all_eq_true.1 this.1.2
  obtain ⟨i, hi, rfl⟩ := List.getElem_of_mem hb
  have hlo := okB_lo (n := ss.length) (bs := c.2.2) i fun j hj => hok j (List.mem_range.2 om)
  have hi2 := hok i (List.mem_range.2 hi)
  unfold okB at hi2
  rw [Bool.and_eq_true, Bool.and_eq_true, Bool.and_eq_true] at hi2
  have e1 := of_decide_eq_true hi2.1.1.1
  have e2 := of_decide_eq_true hi2.1.1.2
  rw [show c.2.2.getD i default = c.2.2[i] by rw [List.getD_eq_getElem?_getD, List.getElem?_eq_getElem hi]; rfl] at e1 e2
  omega
 ·have := hs x hx
  unfold VS at this
  simp only [Bool.and_eq_true, decide_eq_true_eq] at this
  omega
 ·have := hs x hx
  unfold VS at this
  simp only [Bool.and_eq_true, decide_eq_true_eq] at this
  omega
 ·have := hc x hx c hcx
  unfold VC at this
  simp only [Bool.and_eq_true, decide_eq_true_eq] at this
  omega
end Go.Ab
namespace Go.Ab
open Go.RowKit
section
variable {ss : List ST} {p : Int} {l : List Int} (hg : ∀ s, inL l s = true → s < ss.length)
include hg
end
theorem eqL_take {l l' : List Int} {i : Nat} (h : l.take i = l'.take i) (h1 : i < l.length) (h2 : i < l'.length) (he : l.getD i default = l'.getD i default) : l.take (i + 1) = l'.take (i + 1) := by
 rw [List.take_succ_eq_append_getElem h1, List.take_succ_eq_append_getElem h2, h]
 rw [List.getD_eq_getElem?_getD, List.getD_eq_getElem?_getD, List.getElem?_eq_getElem h1, List.getElem?_eq_getElem h2] at he
 simp only [Option.getD_some] at he
 rw [he]
theorem eqL_no {l l' : List Int} {i : Nat} (h1 : i < l.length) (h2 : i < l'.length) (he : l.getD i default ≠ l'.getD i default) : l ≠ l' := fun h => he (by rw [h])
end Go.Ab
namespace Go.Ab
open Go.RowKit
section
variable {P : Program} {T : TT} {E : TypeId → Bool} {e : Env} {h : Hp}
variable {dst : Option Tmp} {ty : TypeId} {pos : String} {af : Array Edge} {g : Option (Nat × Bool)} {id : Nat} {x y lo hi : Operand} {bt el : TypeId} {ti te : TI} {k : Nat}
theorem oStV {q sz s r off : Nat} {us : List (List LV)} {c : LV} (hx : evE e x = some (.ptr r off)) (ho : off = 0) (hy : evE e y = some (outV q sz us)) (hE : T bt = some ti) (hz : ti.size = 1) (hr : getH h r = some { cells := [c], sz := s, elem := el, st := 0 }) :
  OP P T E ⟨dst, .store bt x y, ty, pos, af, g⟩ id e h (.v undef) [(r, { cells := [outV q sz us], sz := s, elem := el, st := 0 })] [r] := by
 subst ho
 cases us with
 | nil => exact cO hx hy hE hr rfl rfl (by rw [hz]; rfl) rfl
 | cons u us => exact cO hx hy hE hr rfl rfl (by rw [hz]; rfl) rfl
theorem postRefA {rs : List ResultVar} {n : Nat} {z : Ex} {q sz len : Nat} {ob : Ob} (ys : List (List LV)) (hx : z = .normal ∨ z = .ret) (hr : resE e T h rs = some [.agg [.ref q sz 0 len]]) (hlen : len = ys.length) (hq : getH h q = some ob) (h2 : ob.st ≠ 2) (hz : ob.sz = sz) (h0 : 0 < sz) (hc : ob.cells = ys.flatten) (hl : ∀ row, row ∈ ys → row.length = sz) (hd : ∀ row, row ∈ ys → ∀ c, c ∈ row → Data c) :
  Post T rs (.agg [.sl 1 ys]) z e h n := by
 subst hlen
 refine ⟨hx, _, hr, [(q, { ob with st := 1 })], fun m hm => .agg _ _ rfl (fun i c d hc he => ?_) (fun i c d hc' he => ?_), by intro p hp; simp at hp; subst hp; exact ⟨ob, hq, h2, rfl⟩⟩
 ·match i with
  | 0 => simp at hc he; subst hc; subst he; rfl
  | i + 1 => simp at hc
 ·match i with
  | 0 => simp at hc' he; subst hc'; subst he; exact lY hq h2 hz h0 (by simp [keys]) hc hl hd m hm
  | i + 1 => simp at hc'
end
theorem gA {α : Type} {n : Nat} (f : Nat → α) : tab (n + 1) f = tab n f ++ [f n] := by simp [tab, List.range_succ]
def hit (bs : List BR) (t : Nat) : Bool := bs.any fun b => decide (b.1.toNat = t)
def nxt (ss : List ST) (s t : Nat) : Bool := (ss.getD s default).2.2.any fun c => hit c.2.2 t
def wst (k s : Nat) (g : Nat → Int) (t : Int) : Nat → Int := if g s < 0 ∧ g t.toNat = k then fset g s (k + 1) else g
def w3 (k s : Nat) (g : Nat → Int) (l : List Int) (i : Nat) : Nat → Int := (l.take i).foldl (wst k s) g
def w2 (ss : List ST) (k : Nat) (g : Nat → Int) : Nat → Nat → Int
 | 0 => g
 | j + 1 => w3 k j (w2 ss k g j) (fl ss.length (nxt ss j)) (fl ss.length (nxt ss j)).length
def winit (l : List Int) (s : Nat) : Int := if inL l s = true then 0 else -1
def w1 (ss : List ST) (l : List Int) : Nat → Nat → Int
 | 0 => winit l
 | k + 1 => w2 ss k (w1 ss l k) ss.length
def vSt (ss : List ST) (st : List Int) : Bool := decide (st.length = ss.length) && (List.range st.length).all fun i => decide (0 ≤ st.getD i default) && decide (st.getD i default < ((ss.getD i default).2.2.length : Int))
theorem rS {n i : Nat} {p : Nat → Bool} (h : ∀ j, j < i → p j = true) (hi : n ≤ i) : (List.range n).all p = true := gK fun j hj => h j om
theorem tab_mem {α : Type} {n : Nat} {f : Nat → α} {x : α} : x ∈ tab n f ↔ ∃ i, i < n ∧ f i = x := by
 unfold tab
 rw [List.mem_map]
 exact ⟨fun ⟨i, h1, h2⟩ => ⟨i, List.mem_range.1 h1, h2⟩, fun ⟨i, h1, h2⟩ => ⟨i, List.mem_range.2 h1, h2⟩⟩
theorem mP {ss : List ST} {st : List Int} (h : vSt ss st = true) {i : Nat} (hi : i < ss.length) : 0 ≤ st.getD i default ∧ st.getD i default < ((ss.getD i default).2.2.length : Int) := by
 unfold vSt at h
 rw [Bool.and_eq_true] at h
 have h1 := of_decide_eq_true h.1
 have h2 := List.all_eq_true.1 h.2 i (List.mem_range.2 om)
 rw [Bool.and_eq_true] at h2
 exact ⟨of_decide_eq_true h2.1, of_decide_eq_true h2.2⟩
theorem gM {ss : List ST} {st : List Int} (h : vSt ss st = true) : st.length = ss.length := by
 unfold vSt at h
 rw [Bool.and_eq_true] at h
 exact of_decide_eq_true h.1
end Go.Ab
namespace Go.Ab
open Go.RowKit
section
variable {P : Program} {T : TT} {E : TypeId → Bool} {e : Env} {h : Hp}
variable {dst : Option Tmp} {ty : TypeId} {pos : String} {af : Array Edge} {g : Option (Nat × Bool)} {id : Nat} {x y : Operand} {bt el : TypeId} {te : TI}
end
end Go.Ab
namespace Go.Ab
open Go.RowKit
def fewC (c : CH) : Bool := decide (c.2.2.length ≤ 10)
def fewS (s : ST) : Bool := decide (s.2.2.length ≤ 10) && s.2.2.all fewC
def fewM (ss : List ST) : Bool := decide (ss.length ≤ 45) && ss.all fewS
theorem fewS_no1 {s : ST} (h : 10 < s.2.2.length) : fewS s = false := by unfold fewS; rw [decide_eq_false om]; rfl
theorem fewS_no2 {s : ST} {j : Nat} (hj : j < s.2.2.length) (h : 10 < (s.2.2.getD j default).2.2.length) : fewS s = false := by
 unfold fewS; rw [all_no (i := j) hj (decide_eq_false om), Bool.and_false]
theorem qG {ss : List ST} {i : Nat} (hi : i < ss.length) (h : fewS (ss.getD i default) = false) : fewM ss = false := by unfold fewM; rw [all_no (i := i) hi h, Bool.and_false]
open Go.RowKit
end Go.Ab
namespace Go.Ab
open Go.RowKit
theorem HasC.fields {T : TT} {t : TypeId} {ti : TI} {fs : List (Nat × TypeId)} {cs : List LV} (h : HasC T t cs) (ht : T t = some ti) (hd : ti.desc = .st fs) : cs.length = ti.size ∧ ∀ f tf, f ∈ fs → T f.2 = some tf → HasC T f.2 ((cs.drop f.1).take tf.size) := by
 have hdsc : dsc T t = some (.st fs) := by unfold dsc; rw [ht]; exact congrArg some hd
 cases h with
 | int _ k n h1 => rw [h1] at hdsc; cases hdsc
 | bool _ b h1 => rw [h1] at hdsc; cases hdsc
 | nil _ e h1 => rw [h1] at hdsc; cases hdsc
 | sl _ e xs h1 => rw [h1] at hdsc; cases hdsc
 | st _ ti' fs' _ h1 h2 h3 h4 =>
  rw [ht] at h1; cases h1
  rw [hd] at h2; cases h2
  exact ⟨h3, h4⟩
theorem HasC.i64 {T : TT} {t : TypeId} {cs : List LV} (h : HasC T t cs) (ht : dsc T t = some (.int .i64)) : ∃ z, cs = [.v (.int .i64 z)] ∧ I64 z := by
 cases h with
 | int _ k n h1 h2 h3 => rw [ht] at h1; cases h1; exact ⟨n, rfl, h2, h3⟩
 | bool _ b h1 => rw [ht] at h1; cases h1
 | nil _ e h1 => rw [ht] at h1; cases h1
 | sl _ e xs h1 => rw [ht] at h1; cases h1
 | st _ ti fs cs h1 h2 => unfold dsc at ht; rw [h1] at ht; simp only [Option.some.injEq] at ht; rw [h2] at ht; cases ht
theorem len1 {cs : List LV} (h : cs.length = 1) : ∃ a, cs = [a] := by
 match cs, h with
 | [a], _ => exact ⟨a, rfl⟩
theorem len3 {cs : List LV} (h : cs.length = 3) : ∃ a b c, cs = [a, b, c] := by
 match cs, h with
 | [a, b, c], _ => exact ⟨a, b, c, rfl⟩
open Go.RowKit
def Rk (k : Nat) (g g' : Nat → Int) : Prop := ∀ r, (0 ≤ g r → g' r = g r) ∧ (g r < 0 → g' r = g r ∨ g' r = k + 1)
theorem Rk.refl (k : Nat) (g : Nat → Int) : Rk k g g := fun r => ⟨fun _ => rfl, fun _ => .inl rfl⟩
theorem Rk.wst {k s : Nat} {g g' : Nat → Int} (h : Rk k g g') (t : Int) : Rk k g (wst k s g' t) := by
 unfold Go.Ab.wst
 by_cases hc : g' s < 0 ∧ g' t.toNat = k
 ·rw [if_pos hc]
  intro r
  unfold fset
  by_cases e : r = s
  ·subst e
   rw [if_pos rfl]
   refine ⟨fun h0 => ?_, fun _ => .inr rfl⟩
   have := (h r).1 h0
   omega
  ·rw [if_neg e]; exact h r
 ·rw [if_neg hc]; exact h
theorem Rk.fold {k s : Nat} {g : Nat → Int} : ∀ (L : List Int) {g' : Nat → Int}, Rk k g g' → Rk k g (L.foldl (Go.Ab.wst k s) g')
 | [], _, h => h
 | t :: L, _, h => Rk.fold L (h.wst t)
theorem Rk.w2 {ss : List ST} {k : Nat} {g : Nat → Int} : ∀ j, Rk k g (Go.Ab.w2 ss k g j)
 | 0 => .refl _ _
 | j + 1 => Rk.fold _ (Rk.w2 j)
section
variable {ss : List ST} {l : List Int}
end
end Go.Ab
namespace Go.Ab
open Go.RowKit
section
variable {ss : List ST} {p : Int} {g : Nat → Bool} (hn : ss.length ≤ 40) (hg : ∀ s, g s = true → s < ss.length)
include hn hg
end
def tos (c : CH) : List Int := c.2.2.map (·.1)
structure Alk (ss ss' : List ST) : Prop where
 len : ss.length = ss'.length
 own : ∀ s, s < ss.length → (ss.getD s default).1.1 = (ss'.getD s default).1.1
 cs : ∀ s, s < ss.length → (ss.getD s default).2.2.map tos = (ss'.getD s default).2.2.map tos
theorem wi_tos {c : CH} {f : Nat → Bool} : wi c f = (tos c).all fun t => f t.toNat := by unfold wi tos; rw [List.all_map]; rfl
theorem me_tos {c : CH} {f : Nat → Bool} : me c f = (tos c).any fun t => f t.toNat := by unfold me tos; rw [List.any_map]; rfl
theorem okc_tos {f g : Nat → Bool} : okc f g = (fun l : List Int => (l.all fun t => f t.toNat) && (l.any fun t => g t.toNat)) ∘ tos := by
 funext c; unfold okc; rw [wi_tos, me_tos]; rfl
theorem Alk.alw {ss ss' : List ST} (h : Alk ss ss') {s : Nat} (hs : s < ss.length) {p : Int} {f g : Nat → Bool} : Go.Ab.alw ss s p f g = Go.Ab.alw ss' s p f g := by
 unfold Go.Ab.alw
 rw [h.own s hs, okc_tos, ← List.any_map, ← List.all_map, h.cs s hs, List.any_map, List.all_map]
theorem Alk.gstep {ss ss' : List ST} (h : Alk ss ss') {p : Int} {ins old : Nat → Bool} : Go.Ab.gstep ss p ins old = Go.Ab.gstep ss' p ins old := by
 funext s
 unfold Go.Ab.gstep
 rw [← h.len]
 by_cases hs : s < ss.length
 ·rw [h.alw hs]
 ·rw [decide_eq_false hs]; rfl
theorem Alk.gx {ss ss' : List ST} (h : Alk ss ss') {p : Int} {ins g : Nat → Bool} : ∀ k, Go.Ab.gx ss p ins g k = Go.Ab.gx ss' p ins g k
 | 0 => rfl
 | k + 1 => by
  show Go.Ab.gstep ss p ins (Go.Ab.gx ss p ins g k) = Go.Ab.gstep ss' p ins (Go.Ab.gx ss' p ins g k)
  rw [h.gx k, h.gstep]
end Go.Ab
namespace Go.Ab
open Go.RowKit
section
variable {P : Program} {T : TT} {E : TypeId → Bool} {N : Nat} {e : Env} {h : Hp} {K : Env → Hp → Prop}
theorem Fz.cellR {q sz C z : Nat} {el el2 : TypeId} {us : List (List LV)} {A : List LV} {H : Hp} (a : Env) (hs : subs a e) (hqC : q ≠ C) (h0 : 0 < sz) (hl : ∀ row, row ∈ us → row.length = sz) (hd : ∀ row, row ∈ us → ∀ c, c ∈ row → Data c) (hH : getH H q = none)
  (k : K a ((C, { cells := A ++ [outR us], sz := z, elem := el2, st := 0 }) :: H)) : Fz N e (outH q sz el us ((C, { cells := A ++ [outV q sz us], sz := z, elem := el2, st := 0 }) :: H)) K := by
 cases us with
 | nil => exact Fz.same a _ hs (fun _ _ h => h) k
 | cons u us =>
  refine Fz.one (u :: us) a ((C, { cells := A ++ [outR (u :: us)], sz := z, elem := el2, st := 0 }) :: H) (ob := { cells := (u :: us).flatten, sz := sz, elem := el, st := 0 }) g0 (by show (0 : Nat) ≠ 2; decide) rfl h0 rfl hl hd (fun t l2 h2 => ⟨l2, hs.get t l2 h2, .inl rfl⟩) (fun r o2 hr => ?_) k
  by_cases e1 : C = r
  ·subst e1
   rw [g0] at hr; cases hr
   refine ⟨fun hc => hqC hc.symm, _, g1 hqC g0, rfl, by simp, fun i c c2 hc hc2 => ?_⟩
   rcases Nat.lt_or_ge i A.length with hi | hi
   ·rw [List.getElem?_append_left hi] at hc hc2
    rw [hc] at hc2; exact .inl (Option.some.inj hc2).symm
   ·rw [List.getElem?_append_right hi] at hc hc2
    rcases Nat.eq_zero_or_pos (i - A.length) with h1 | h1
    ·rw [h1] at hc hc2
     simp only [List.getElem?_cons_zero, Option.some.injEq] at hc hc2
     exact .inr ⟨hc.symm, hc2.symm⟩
    ·rw [List.getElem?_eq_none (by simp; omega)] at hc; cases hc
  ·rw [g1 e1 rfl] at hr
   refine ⟨fun hc => ?_, o2, g1 (fun hc => ?_) (g1 e1 hr), rfl, rfl, fun i c c2 hc hc2 => .inl (by rw [hc] at hc2; exact (Option.some.inj hc2).symm)⟩
   ·rw [hc, hH] at hr; cases hr
   ·rw [← hc, hH] at hr; cases hr
end
def KC (c : CH) : Prop := c.2.1 = 0 → c.2.2 = []
def KN (ss : List ST) : Prop := ∀ x, x ∈ ss → ∀ c, c ∈ x.2.2 → KC c
end Go.Ab
namespace Go.Ab
open Go.RowKit
section
variable {ss : List ST} {l : List Int} {p : Int} {L st : List Int} {b : Bool}
end
theorem KN.ne {ss : List ST} (h : KN ss) (hV : VM1 ss) : ∀ x, x ∈ ss → ∀ c, c ∈ x.2.2 → c.2.1 ≠ 0 := fun x hx c hc h0 => by
 have h1 := (hV.bs x hx c hc).1
 rw [h x hx c hc h0] at h1
 exact absurd h1 (by decide)
theorem HasC.nil0 {T : TT} {t e : TypeId} {k : Nat} {xs : List (List LV)} (h : HasC T t [.sl k xs]) (ht : dsc T t = some (.sl e)) : k = 0 → xs = [] := by
 intro hk
 subst hk
 cases h with
 | nil => rfl
 | st _ ti fs cs h1 h2 => unfold dsc at ht; rw [h1] at ht; simp only [Option.some.injEq] at ht; rw [h2] at ht; cases ht
end Go.Ab
namespace Go.Ab
theorem qR {f : Nat → Rat} : ∀ n, (∀ i, 0 < i → i < n + 1 → f i = 0) → sm f (n + 1) = f 0
 | 0, _ => by show 0 + f 0 = f 0; rw [Rat.zero_add]
 | n + 1, h => by
  show sm f (n + 1) + f (n + 1) = f 0
  rw [qR n fun i h0 hi => h i h0 om, h (n + 1) om om, Rat.add_zero]
theorem det_zcol : ∀ n {M : Nat → Nat → Rat}, (∀ i, i ≤ n → M i n = 0) → det (n + 1) M = 0
 | 0, M, h => by
  show 0 + sg 0 * M 0 0 * 1 = 0
  rw [h 0 (Nat.le_refl _)]; grind
 | n + 1, M, h => by
  rw [det]
  refine (bZ (g := fun _ => 0) _ fun i hi => ?_).trans (iE _)
  rw [det_zcol n fun a ha => h _ (by unfold skp; split <;> omega)]; grind
theorem det_last : ∀ n {M : Nat → Nat → Rat}, (∀ i, i < n → M i n = 0) → M n n = 1 → det (n + 1) M = det n M
 | 0, M, _, h => by
  show 0 + 1 * M 0 0 * 1 = 1
  rw [h]; grind
 | n + 1, M, h, h1 => by
  rw [det, sm, det_zcol n (M := fun a b => M (skp (n + 1) a) (b + 1)) fun a ha => h _ (by unfold skp; split <;> omega), det]
  rw [show sg (n + 1) * M (n + 1) 0 * (0 : Rat) = 0 by grind, Rat.add_zero]
  refine bZ _ fun i hi => ?_
  rw [det_last n (M := fun a b => M (skp i a) (b + 1)) (fun a ha => h _ (by unfold skp; split <;> omega)) (by rw [show skp i n = n + 1 by unfold skp; split <;> omega]; exact h1)]
def colF (k : Nat) (x : Nat → Rat) : Nat → Nat → Rat := fun i b => if b = k then x i else if i = b then 1 else 0
theorem det_col : ∀ n {k : Nat} {x : Nat → Rat}, k < n → det n (colF k x) = x k
 | 0, _, _, h => absurd h om
 | n + 1, 0, x, _ => by
  rw [det, qR n fun i h0 hi => ?_]
  ·have e : det n (fun a b => colF 0 x (skp 0 a) (b + 1)) = det n oneF := dQ n fun a b _ _ => by
    show (if b + 1 = 0 then x (skp 0 a) else if skp 0 a = b + 1 then 1 else 0) = if a = b then 1 else 0
    rw [show skp 0 a = a + 1 by unfold skp; rw [if_neg om], if_neg om]
    by_cases h : a = b
    ·rw [if_pos h, if_pos om]
    ·rw [if_neg h, if_neg om]
   rw [e, det_one]
   show 1 * (if 0 = 0 then x 0 else _) * 1 = x 0
   rw [if_pos rfl]; grind
  ·have e : det n (fun a b => colF 0 x (skp i a) (b + 1)) = 0 := (kN n).zero _ (r := 0) om fun b hb => by
    unfold colF skp
    rw [if_pos h0, if_neg om, if_neg om]
   rw [e]; grind
 | n + 1, k + 1, x, h => by
  rw [det, qR n fun i h0 hi => by rw [show colF (k + 1) x i 0 = 0 by unfold colF; rw [if_neg om, if_neg om]]; grind]
  have e : det n (fun a b => colF (k + 1) x (skp 0 a) (b + 1)) = det n (colF k fun a => x (a + 1)) := dQ n fun a b _ _ => by
   unfold colF skp
   rw [if_neg (show ¬ a < 0 by omega)]
   by_cases h1 : b = k
   ·rw [if_pos h1, if_pos om]
   ·rw [if_neg h1, if_neg om]
    by_cases h2 : a = b
    ·rw [if_pos h2, if_pos om]
    ·rw [if_neg h2, if_neg om]
  rw [e, det_col n om, show colF (k + 1) x 0 0 = 1 by unfold colF; rw [if_neg om, if_pos rfl]]
  show 1 * 1 * x (k + 1) = _
  grind
def toL (n : Nat) (M : Nat → Nat → Rat) : List (List Rat) := (List.range n).map fun i => (List.range n).map fun j => M i j
theorem toL_ent {n : Nat} {M : Nat → Nat → Rat} {i j : Nat} (hi : i < n) (hj : j < n) : ent (toL n M) i j = M i j := by unfold ent toL; rw [dT hi, dT hj]
theorem toL_len (n : Nat) (M : Nat → Nat → Rat) : (toL n M).length = n := by simp [toL]
theorem toL_wid (n : Nat) (M : Nat → Nat → Rat) : Wid n (toL n M) := fun r hr => by
 obtain ⟨i, _, rfl⟩ := List.mem_map.1 hr
 simp
theorem oJ (n : Nat) (M B : Nat → Nat → Rat) : det n (mulF n M B) = det n M * det n B := by
 have h1 : det n M = det n (fm (toL n M)) := dQ n fun a b ha hb => (toL_ent ha hb).symm
 rw [h1, det_dtv (toL_len n M) (toL_wid n M), ← det_mulF (toL_len n M) (toL_wid n M)]
 refine dQ n fun a b ha hb => ?_
 unfold mulF
 exact bZ _ fun t ht => by rw [show fm (toL n M) a t = M a t from toL_ent ha ht]
theorem cramer {n k : Nat} (hk : k < n) (A : Nat → Nat → Rat) (x b : Nat → Rat) (h : ∀ a, a < n → sm (fun t => A a t * x t) n = b a) : det n (fun a c => if c = k then b a else A a c) = det n A * x k := by
 rw [← det_col n (x := x) hk, ← oJ]
 refine dQ n fun a c ha hc => ?_
 unfold mulF colF
 by_cases e : c = k
 ·rw [if_pos e, ← h a ha]
  exact bZ _ fun t ht => by rw [if_pos e]
 ·rw [if_neg e, fZ n hc fun i hi hne => by rw [if_neg e, if_neg hne]; grind]
  rw [if_neg e, if_pos rfl]; grind
structure PV (R S : List (List Rat)) (L : List Nat) (w : Nat) (g : Rat) (π : Nat → Nat) : Prop where
 rng : ∀ i, i < R.length → π i < R.length
 eq : ∀ i j, i < R.length → j < w → ent R (π i) j = sm (fun k => ent R (π i) (L.getD k default) * ent S k j) L.length + (if i < L.length then 0 else ent S i j)
 dt : g = det L.length (fun a b => ent R (π a) (L.getD b default)) ∨ g = -det L.length (fun a b => ent R (π a) (L.getD b default))
theorem swp_r (a r : Nat) : swp a r r = a := by
 unfold swp
 by_cases h : r = a
 ·rw [if_pos h, h]
 ·rw [if_neg h, if_pos rfl]
theorem PV.step {R S B : List (List Rat)} {L : List Nat} {w a c : Nat} {g : Rat} {π : Nat → Nat} (hSl : S.length = R.length) (hc : c < w) (ha : L.length ≤ a) (h : PV R S L w g π) (hs : Stp S B w a L.length c) :
  PV R B (L ++ [c]) w ((if a ≠ L.length then -g else g) * ent S a c) (fun i => π (swp a L.length i)) := by
 have haR : a < R.length := by have := hs.ha; omega
 have hrR : L.length < R.length := by have := hs.hr; omega
 have hsw : ∀ i, i < R.length → swp a L.length i < R.length := fun i hi => oB hi haR hrR
 have hLk : ∀ k, k < L.length → (L ++ [c]).getD k default = L.getD k default := fun k hk => lZ hk
 have hLr : (L ++ [c]).getD L.length default = c := nW
 have hlen : (L ++ [c]).length = L.length + 1 := by simp
 refine ⟨fun i hi => h.rng _ (hsw i hi), fun i j hi hj => ?_, ?_⟩
 ·have e1 := h.eq (swp a L.length i) j (hsw i hi) hj
  have e2 := h.eq (swp a L.length i) c (hsw i hi) hc
  rw [hlen, sm, hLr]
  have e3 : sm (fun k => ent R (π (swp a L.length i)) ((L ++ [c]).getD k default) * ent B k j) L.length = sm (fun k => ent R (π (swp a L.length i)) (L.getD k default) * ent S k j) L.length + -(1 / ent S a c * ent S a j) * sm (fun k => ent R (π (swp a L.length i)) (L.getD k default) * ent S k c) L.length := by
   rw [gL, ← oW]
   refine bZ _ fun k hk => ?_
   rw [hLk k hk, hs.oth k j om om hj, oX hk ha]; grind
  have hBr := hs.row j hj
  have hne := hs.ne
  rw [e3, hBr]
  by_cases h1 : i < L.length
  ·rw [if_pos om]
   rw [oX h1 ha, if_pos h1] at e1 e2
   rw [oX h1 ha]
   rw [e1, e2]; grind
  ·rw [if_neg (show ¬ swp a L.length i < L.length by have := swp_ge (a := a) (r := L.length) (i := i) om ha; omega)] at e1 e2
   by_cases h2 : i = L.length
   ·rw [if_pos om]
    rw [h2, swp_r] at e1 e2 ⊢
    rw [e1, e2]
    grind
   ·rw [if_neg om, hs.oth i j om h2 hj, e1, e2]; grind
 ·have hdet : det (L.length + 1) (fun x b => ent R (π (swp a L.length x)) ((L ++ [c]).getD b default)) = det L.length (fun x b => ent R (π x) (L.getD b default)) * ent S a c := by
   have h1 : det (L.length + 1) (fun x b => if b = L.length then (if x = L.length then 1 else 0) else ent R (π (swp a L.length x)) (L.getD b default)) = det L.length (fun x b => ent R (π x) (L.getD b default)) := by
    rw [det_last L.length (fun i hi => by rw [if_pos rfl, if_neg om]) (by rw [if_pos rfl, if_pos rfl])]
    refine dQ _ fun x b hx hb => ?_
    rw [if_neg om, oX hx ha]
   rw [← h1]
   have hcol := det_col (L.length + 1) (k := L.length) (x := fun k => if k = L.length then ent S a c else ent S k c) om
   rw [if_pos rfl] at hcol
   rw [← hcol, ← oJ]
   refine dQ _ fun x b hx hb => ?_
   unfold mulF colF
   by_cases e : b = L.length
   ·have e2 := h.eq (swp a L.length x) c (hsw x om) hc
    rw [e, hLr, sm, e2]
    have e4 : sm (fun t => (if t = L.length then (if x = L.length then (1 : Rat) else 0) else ent R (π (swp a L.length x)) (L.getD t default)) * (if L.length = L.length then (if t = L.length then ent S a c else ent S t c) else if t = L.length then 1 else 0)) L.length = sm (fun k => ent R (π (swp a L.length x)) (L.getD k default) * ent S k c) L.length := bZ _ fun t ht => by
     rw [if_neg om, if_pos rfl, if_neg om]
    rw [e4, if_pos rfl]
    congr 1
    show _ = (if L.length = L.length then (if x = L.length then (1 : Rat) else 0) else _) * (if L.length = L.length then ent S a c else _)
    rw [if_pos rfl, if_pos rfl]
    by_cases hx2 : x = L.length
    ·rw [if_pos hx2, hx2, swp_r, if_neg om]; grind
    ·rw [if_neg hx2, oX om ha, if_pos om]; grind
   ·rw [hLk b om, fZ (L.length + 1) hb fun i hi hne => by rw [if_neg e, if_neg hne]; grind]
    show _ = (if b = L.length then _ else ent R (π (swp a L.length x)) (L.getD b default)) * (if b = L.length then _ else if b = b then 1 else 0)
    rw [if_neg e, if_neg e, if_pos rfl]; grind
  rw [hlen, hdet]
  rcases h.dt with h2 | h2 <;> (rw [h2]; by_cases h3 : a = L.length)
  ·rw [if_neg (by simp [h3])]; exact .inl rfl
  ·rw [if_pos h3]; exact .inr (by grind)
  ·rw [if_neg (by simp [h3])]; exact .inr (by grind)
  ·rw [if_pos h3]; exact .inl (by grind)
theorem PV.all {R : List (List Rat)} {w : Nat} (hw : Wid w R) (c : Nat) (hc : c ≤ w) : ∃ π, PV R (gjn R c).1 (gjn R c).2 w (gjd R c) π := by
 refine qH (P := fun c S L => ∃ π, PV R S L w (gjd R c) π) hw ⟨id, fun i hi => hi, fun i j hi hj => by simp [sm, Rat.zero_add], .inl rfl⟩ (fun c S L hcw he hSl hwS hL ⟨π, h⟩ hz => ?_) (fun c S L B a hcw he hSl hwS ha ⟨π, h⟩ hs hn hp => ?_) c hc
 ·refine ⟨π, ?_⟩
  rw [gjd_no (by rw [he]; exact jL (by show L.length ≤ S.length; omega) (Nat.le_refl _) (fun k h1 h2 => hz k h1 (by have h2' : k < S.length := h2; omega)) (.inl rfl))]
  exact h
 ·refine ⟨fun i => π (swp a L.length i), ?_⟩
  rw [nI (a := a) (by rw [he]; exact hp) (by rw [he]; exact hs.ha), he]
  exact h.step hSl hcw ha hs
def fbd (C : Nat) : Nat → Nat
 | 0 => 1
 | n + 1 => (n + 1) * (C * fbd C n)
def IsI (C : Nat) (x : Rat) : Prop := ∃ z : Int, x = (z : Rat) ∧ z.natAbs ≤ C
theorem IsI.mul {C D : Nat} {x y : Rat} (hx : IsI C x) (hy : IsI D y) : IsI (C * D) (x * y) := by
 obtain ⟨a, rfl, h1⟩ := hx
 obtain ⟨b, rfl, h2⟩ := hy
 exact ⟨a * b, by rw [Rat.intCast_mul], by rw [Int.natAbs_mul]; exact Nat.mul_le_mul h1 h2⟩
theorem IsI.mono {C D : Nat} {x : Rat} (hx : IsI C x) (h : C ≤ D) : IsI D x := let ⟨a, h1, h2⟩ := hx; ⟨a, h1, Nat.le_trans h2 h⟩
theorem IsI.sm {C : Nat} {f : Nat → Rat} : ∀ n, (∀ i, i < n → IsI C (f i)) → IsI (n * C) (Go.Ab.sm f n)
 | 0, _ => ⟨0, rfl, by simp⟩
 | n + 1, h => by
  obtain ⟨a, h1, h2⟩ := IsI.sm n fun i hi => h i om
  obtain ⟨b, h3, h4⟩ := h n om
  refine ⟨a + b, by rw [Go.Ab.sm, h1, h3, Rat.intCast_add], ?_⟩
  have := Int.natAbs_add_le a b
  rw [Nat.succ_mul]; omega
theorem sg_int : ∀ i, IsI 1 (sg i)
 | 0 => ⟨1, rfl, by decide⟩
 | i + 1 => by
  obtain ⟨a, h1, h2⟩ := sg_int i
  exact ⟨-a, by rw [sg, h1, Rat.intCast_neg], by rw [Int.natAbs_neg]; exact h2⟩
theorem det_int {C : Nat} : ∀ n {M : Nat → Nat → Rat}, (∀ a b, a < n → b < n → IsI C (M a b)) → IsI (fbd C n) (det n M)
 | 0, _, _ => ⟨1, rfl, Nat.le_refl 1⟩
 | n + 1, M, h => by
  refine IsI.sm (n + 1) fun i hi => ?_
  have h1 := det_int n (M := fun a b => M (skp i a) (b + 1)) fun a b ha hb => h _ _ (by unfold skp; split <;> omega) om
  have h2 := (((sg_int i).mul (h i 0 hi om)).mul h1)
  rwa [Nat.one_mul] at h2
theorem fbd_le {C K : Nat} : ∀ n, n ≤ K → fbd C n ≤ (K * C) ^ n
 | 0, _ => Nat.le_refl _
 | n + 1, h => by
  rw [fbd, Nat.pow_succ, ← Nat.mul_assoc, Nat.mul_comm ((K * C) ^ n)]
  exact Nat.mul_le_mul (Nat.mul_le_mul_right _ h) (fbd_le n om)
def pr : Nat → (Nat → Rat) → Rat
 | 0, _ => 1
 | n + 1, d => d 0 * pr n fun a => d (a + 1)
theorem det_diag : ∀ n (d : Nat → Rat), det n (fun a b => if a = b then d a else 0) = pr n d
 | 0, _ => rfl
 | n + 1, d => by
  rw [det, qR n fun i h0 hi => by rw [if_neg om]; grind, pr, ← det_diag n]
  rw [dQ n (N := fun a b => if a = b then d (a + 1) else 0) fun a b _ _ => by
   unfold skp
   rw [if_neg (show ¬ a < 0 by omega)]
   by_cases e : a = b
   ·rw [if_pos e, if_pos om]
   ·rw [if_neg e, if_neg om]]
  rw [if_pos rfl]
  show 1 * d 0 * _ = _
  grind
theorem det_rows (n : Nat) (d : Nat → Rat) (M : Nat → Nat → Rat) : det n (fun a b => d a * M a b) = pr n d * det n M := by
 rw [← det_diag, ← oJ]
 refine dQ n fun a b ha hb => ?_
 unfold mulF
 rw [fZ n ha fun i hi hne => by show (if a = i then d a else 0) * M i b = 0; rw [if_neg (Ne.symm hne)]; grind]
 show d a * M a b = (if a = a then d a else 0) * M a b
 rw [if_pos rfl]
theorem pr_int {C : Nat} : ∀ n {d : Nat → Rat}, (∀ a, a < n → IsI C (d a)) → IsI (C ^ n) (pr n d)
 | 0, _, _ => ⟨1, rfl, Nat.le_refl 1⟩
 | n + 1, d, h => by
  have h1 := (h 0 om).mul (pr_int n (d := fun a => d (a + 1)) fun a ha => h _ om)
  rw [Nat.pow_succ, Nat.mul_comm]; exact h1
theorem pr_ne : ∀ n {d : Nat → Rat}, (∀ a, a < n → d a ≠ 0) → pr n d ≠ 0
 | 0, _, _ => by show (1 : Rat) ≠ 0; decide
 | n + 1, d, h => by
  have h1 := h 0 om
  have h2 := pr_ne n (d := fun a => d (a + 1)) fun a ha => h _ om
  show d 0 * _ ≠ 0
  grind
theorem IsI.quot {C n : Nat} {x y : Rat} (hx : IsI C x) (hy : IsI C y) (h0 : y ≠ 0) (hC : C < 4294967296 ^ n) : Bd n (x / y) := by
 obtain ⟨a, rfl, h1⟩ := hx
 obtain ⟨b, rfl, h2⟩ := hy
 rw [← Rat.divInt_eq_div]
 refine Bd.raw (fun h => h0 (by rw [h]; rfl)) (eI om) (eI om)
theorem sm_bd {q : Nat} {f : Nat → Rat} : ∀ n, (∀ k, k < n → Bd q (f k)) → Bd (1 + n * (q + 1)) (sm f n)
 | 0, _ => Bd0 om
 | n + 1, h => ((sm_bd n fun k hk => h k om).add (h n om)).mono (by rw [Nat.succ_mul]; omega)
theorem pow_a {B n d x y z : Nat} (hB : 0 < B) (hn : n ≤ B ^ x) (hd : d ≤ (B ^ x) ^ y) (hz : x + x * y ≤ z) : n * d ≤ B ^ z := by
 refine Nat.le_trans (Nat.mul_le_mul hn hd) ?_
 rw [← Nat.pow_mul, ← Nat.pow_add]
 exact Nat.pow_le_pow_right hB hz
theorem pow_b {B d x y z : Nat} (hB : 0 < B) (hd : d ≤ (B ^ x) ^ y) (hz : x * y ≤ z) : d ≤ B ^ z := by
 rw [← Nat.pow_mul] at hd
 exact Nat.le_trans hd (Nat.pow_le_pow_right hB hz)
theorem pow_c {B n f z y k : Nat} (hB : k ≤ B) (hk : 1 < k) (hn : n ≤ k) (hf : f ≤ (k * B ^ z) ^ n) (hy : (z + 1) * k < y) : f < B ^ y := by
 have h2 : k * B ^ z ≤ B ^ (z + 1) := by
  rw [Nat.pow_succ, Nat.mul_comm]
  exact Nat.mul_le_mul_left _ hB
 have h3 : (k * B ^ z) ^ n ≤ (B ^ (z + 1)) ^ k := Nat.le_trans (Nat.pow_le_pow_left h2 n) (Nat.pow_le_pow_right (Nat.pow_pos om) hn)
 rw [← Nat.pow_mul] at h3
 have h4 : B ^ ((z + 1) * k) < B ^ y := Nat.pow_lt_pow_right om hy
 omega
theorem pow_d {B n z y k : Nat} (hB : 2 ≤ B) (hn : n ≤ k) (hy : z * k < y) : (B ^ z) ^ n < B ^ y := by
 rw [← Nat.pow_mul]
 exact Nat.pow_lt_pow_right om (by have : z * n ≤ z * k := Nat.mul_le_mul_left _ hn; omega)
theorem row_int {l : List Rat} {b z : Nat} (hz : 672 ≤ z) (hb : b ≤ 16) (hl : l.length ≤ 41) (h : ∀ x, x ∈ l → Bd b x) {x : Rat} (hx : x ∈ l) : IsI (4294967296 ^ z) ((dd l : Rat) * x) := by
 obtain ⟨e, he⟩ := dd_dvd hx
 have hd : dd l ≤ (4294967296 ^ 16) ^ 41 := Nat.le_trans (dd_le (b := 4294967296 ^ 16) fun y hy => Nat.le_of_lt (Nat.lt_of_lt_of_le (h y hy).abs.2 (Nat.pow_le_pow_right (by decide) hb))) (Nat.pow_le_pow_right (Nat.pow_pos (by decide)) hl)
 have hn : x.num.natAbs ≤ 4294967296 ^ 16 := Nat.le_of_lt (Nat.lt_of_lt_of_le (h x hx).abs.1 (Nat.pow_le_pow_right (by decide) hb))
 have hdp := x.den_pos
 have hed : e ≤ dd l := by rw [he]; exact Nat.le_mul_of_pos_left _ hdp
 refine ⟨x.num * (e : Int), ?_, ?_⟩
 ·have hx2 : x = (x.num : Rat) / (x.den : Rat) := by rw [← Rat.intCast_natCast, ← Rat.divInt_eq_div]; exact (Rat.num_divInt_den x).symm
  have hden : (x.den : Rat) ≠ 0 := by exact_mod_cast Nat.pos_iff_ne_zero.1 hdp
  rw [he, Rat.intCast_mul, Rat.intCast_natCast, Rat.natCast_mul]
  generalize hq : (x.den : Rat) = q at *
  generalize (e : Rat) = e'
  generalize hp : (x.num : Rat) = p at *
  rw [hx2]
  grind
 ·rw [Int.natAbs_mul, Int.natAbs_natCast]
  exact pow_a (by decide) hn (Nat.le_trans hed hd) hz
theorem GB_all {R : List (List Rat)} {w cols b : Nat} (hb : BdL b R) (h1 : 1 ≤ b) (hb16 : b ≤ 16) (hw : Wid w R) (hm : R.length ≤ 41) (hw41 : w ≤ 41) (hcw : cols ≤ w) : GB R cols 268435456 := by
 obtain ⟨z, hz⟩ : ∃ z, z = 672 := ⟨_, rfl⟩
 obtain ⟨y, hy⟩ : ∃ y, y = 27594 := ⟨_, rfl⟩
 have key : ∀ c, c < cols → BdL 2000000 (gjn R c).1 ∧ Bd 2000000 (gjd R c) := by
  intro c hc
  obtain ⟨π, hP⟩ := PV.all hw c om
  have hS := St0.all hw c om
  have hSl := cQ R c
  have hRI := rI hw c om
  have hg := gjd_ne hw c om
  have hled := hS.led
  have hwS := hS.wid
  generalize (gjn R c).1 = S at *
  generalize (gjn R c).2 = L at *
  generalize gjd R c = g at *
  have hLt : ∀ k, k < L.length → L.getD k default < w := fun k hk => by have := hRI.lt k hk; omega
  let D : Nat → Rat := fun i => (dd (R.getD (π i) default) : Rat)
  have hDi : ∀ i j, i < R.length → j < w → IsI (4294967296 ^ z) (D i * ent R (π i) j) := fun i j hi hj => by
   have hm2 := bA (us := R) (hP.rng i hi)
   have hl := hw _ hm2
   exact row_int om hb16 om (hb _ hm2) (bA (us := R.getD (π i) default) om)
  have hD1 : ∀ i, i < R.length → IsI (4294967296 ^ z) (D i) := fun i hi => by
   have hm2 := bA (us := R) (hP.rng i hi)
   have hl := hw _ hm2
   refine ⟨(dd (R.getD (π i) default) : Int), by rw [Rat.intCast_natCast], ?_⟩
   rw [Int.natAbs_natCast]
   have hd : dd (R.getD (π i) default) ≤ (4294967296 ^ 16) ^ 41 := Nat.le_trans (dd_le (b := 4294967296 ^ 16) fun y hy => Nat.le_of_lt (Nat.lt_of_lt_of_le (hb _ hm2 y hy).abs.2 (Nat.pow_le_pow_right (by decide) hb16))) (Nat.pow_le_pow_right (Nat.pow_pos (by decide)) om)
   exact pow_b (by decide) hd om
  have hDne : ∀ i, D i ≠ 0 := fun i => by
   have := rB (R.getD (π i) default)
   show ((dd (R.getD (π i) default) : Nat) : Rat) ≠ 0
   exact_mod_cast Nat.pos_iff_ne_zero.1 this
  have hdA : det L.length (fun a b => ent R (π a) (L.getD b default)) ≠ 0 := fun h0 => by
   rcases hP.dt with h | h <;> rw [h, h0] at hg <;> exact hg (by grind)
  have hdA2 : IsI (fbd (4294967296 ^ z) L.length) (det L.length (fun a b => D a * ent R (π a) (L.getD b default))) := det_int _ fun a b ha hb => hDi a _ om (hLt b hb)
  have hdA3 : det L.length (fun a b => D a * ent R (π a) (L.getD b default)) ≠ 0 := by
   rw [det_rows]
   have := pr_ne L.length (d := D) fun a _ => hDne a
   grind
  have hbig : fbd (4294967296 ^ z) L.length < 4294967296 ^ y := pow_c (k := 41) (by decide) (by decide) om (fbd_le (C := 4294967296 ^ z) L.length om) om
  have hx : ∀ k j, k < L.length → j < w → Bd y (ent S k j) := fun k j hk hj => by
   have hcr := cramer hk (fun a b => D a * ent R (π a) (L.getD b default)) (fun t => ent S t j) (fun a => D a * ent R (π a) j) fun a ha => by
    have e := hP.eq a j om hj
    rw [if_pos ha, Rat.add_zero] at e
    show sm (fun t => D a * ent R (π a) (L.getD t default) * ent S t j) L.length = D a * ent R (π a) j
    rw [e, gL]
    exact bZ _ fun t _ => by rw [Rat.mul_assoc]
   have e2 : ent S k j = det L.length (fun a c => if c = k then D a * ent R (π a) j else D a * ent R (π a) (L.getD c default)) / det L.length (fun a b => D a * ent R (π a) (L.getD b default)) := by
    rw [hcr]
    grind
   rw [e2]
   refine IsI.quot (det_int _ fun a b ha hb => ?_) hdA2 hdA3 hbig
   split
   ·exact hDi a j om hj
   ·exact hDi a _ om (hLt b hb)
  refine ⟨fun row hr x hxr => ?_, ?_⟩
  ·obtain ⟨i, hi, rfl⟩ := List.getElem_of_mem hr
   obtain ⟨j, hj, rfl⟩ := List.getElem_of_mem hxr
   have hwj : j < w := by rw [hwS _ (List.getElem_mem hi)] at hj; exact hj
   have hent : S[i][j] = ent S i j := by
    unfold ent
    rw [show S.getD i default = S[i] by rw [List.getD_eq_getElem?_getD, List.getElem?_eq_getElem hi]; rfl, List.getD_eq_getElem?_getD, List.getElem?_eq_getElem hj]; rfl
   rw [hent]
   by_cases hiL : i < L.length
   ·exact (hx i j hiL hwj).mono om
   ·have e := hP.eq i j om hwj
    rw [if_neg hiL] at e
    have e3 : ent S i j = ent R (π i) j + -sm (fun k => ent R (π i) (L.getD k default) * ent S k j) L.length := by rw [e]; grind
    rw [e3]
    have b1 : Bd 16 (ent R (π i) j) := (BdL.ent h1 hb _ _).mono hb16
    have b2 := (sm_bd (q := 16 + y) (f := fun k => ent R (π i) (L.getD k default) * ent S k j) L.length fun k hk => ((BdL.ent h1 hb _ _).mono hb16).mul (hx k j hk hwj)).neg
    refine (b1.add b2).mono ?_
    have : L.length * (16 + y + 1) ≤ 41 * (16 + y + 1) := Nat.mul_le_mul_right _ om
    omega
  ·have e4 : det L.length (fun a b => ent R (π a) (L.getD b default)) = det L.length (fun a b => D a * ent R (π a) (L.getD b default)) / pr L.length D := by
    rw [det_rows]
    have := pr_ne L.length (d := D) fun a _ => hDne a
    grind
   have b3 : Bd y (det L.length (fun a b => ent R (π a) (L.getD b default))) := by
    rw [e4]
    have hp := pr_int L.length (C := 4294967296 ^ z) (d := D) fun a ha => hD1 a om
    have hpl : (4294967296 ^ z) ^ L.length < 4294967296 ^ y := pow_d (k := 41) (by decide) om om
    refine IsI.quot (C := max (fbd (4294967296 ^ z) L.length) ((4294967296 ^ z) ^ L.length)) (hdA2.mono (Nat.le_max_left _ _)) (hp.mono (Nat.le_max_right _ _)) (pr_ne _ fun a _ => hDne a) (Nat.max_lt.2 ⟨hbig, hpl⟩)
   rcases hP.dt with h | h <;> rw [h]
   ·exact b3.mono om
   ·exact b3.neg.mono om
 exact ⟨by decide, fun c hc => (key c hc).1.mono (by decide), fun c hc => (key c hc).2.mono (by decide)⟩
open Go.RowKit
def mnF (bs : List BR) (v : Nat → Rat) : Nat → Rat
 | 0 => 0
 | i + 1 => mnF bs v i + nq (bs.getD i default).2 * v (bs.getD i default).1.toNat
def mn (c : CH) (v : Nat → Rat) : Rat := mnF c.2.2 v c.2.2.length
def yl (d : Rat) (c : CH) (v : Nat → Rat) : Rat := nq c.1 + d * mn c v
structure WB (n : Nat) (bs : List BR) : Prop where
 pos : ∀ i, i < bs.length → 0 < nq (bs.getD i default).2
 sum : psum bs bs.length = 1
 to : ∀ i, i < bs.length → (bs.getD i default).1.toNat < n
theorem mnF_sub (bs : List BR) (u v : Nat → Rat) : ∀ i, mnF bs v i - mnF bs u i = mnF bs (fun s => v s - u s) i
 | 0 => by unfold mnF; grind
 | i + 1 => by
  have ih := mnF_sub bs u v i
  unfold mnF
  rw [← ih]; grind
theorem mnF_le {n : Nat} {bs : List BR} (h : WB n bs) {v : Nat → Rat} {M : Rat} (hv : ∀ j, j < n → v j ≤ M) : ∀ i, i ≤ bs.length → mnF bs v i ≤ M * psum bs i
 | 0, _ => by unfold mnF psum; grind
 | i + 1, hi => by
  have ih := mnF_le h hv i om
  have hp := h.pos i om
  have hj := hv _ (h.to i om)
  have h2 : nq (bs.getD i default).2 * v (bs.getD i default).1.toNat ≤ nq (bs.getD i default).2 * M := Rat.mul_le_mul_of_nonneg_left hj (Rat.le_of_lt hp)
  unfold mnF psum
  grind
theorem mnF_mono {n : Nat} {bs : List BR} (h : WB n bs) {u v : Nat → Rat} (hv : ∀ j, j < n → u j ≤ v j) : ∀ i, i ≤ bs.length → mnF bs u i ≤ mnF bs v i
 | 0, _ => by unfold mnF; grind
 | i + 1, hi => by
  have ih := mnF_mono h hv i om
  have hp := h.pos i om
  have h2 := Rat.mul_le_mul_of_nonneg_left (hv _ (h.to i om)) (Rat.le_of_lt hp)
  unfold mnF
  grind
theorem mnF_congr {n : Nat} {bs : List BR} (h : WB n bs) {u v : Nat → Rat} (hv : ∀ j, j < n → u j = v j) : ∀ i, i ≤ bs.length → mnF bs u i = mnF bs v i
 | 0, _ => rfl
 | i + 1, hi => by
  unfold mnF
  rw [mnF_congr h hv i om, hv _ (h.to i om)]
theorem argmax (f : Nat → Rat) : ∀ n, 0 < n → ∃ m, m < n ∧ ∀ i, i < n → f i ≤ f m
 | 0, h => absurd h om
 | 1, _ => ⟨0, om, fun i hi => (show i = 0 by omega) ▸ Rat.le_refl⟩
 | n + 2, _ => by
  obtain ⟨m, h1, h2⟩ := argmax f (n + 1) om
  by_cases h : f m ≤ f (n + 1)
  ·refine ⟨n + 1, om, fun i hi => ?_⟩
   by_cases e : i = n + 1
   ·rw [e]; exact Rat.le_refl
   ·exact Rat.le_trans (h2 i om) h
  ·refine ⟨m, om, fun i hi => ?_⟩
   by_cases e : i = n + 1
   ·rw [e]; grind
   ·exact h2 i om
theorem comp {n : Nat} {d : Rat} (hd0 : 0 ≤ d) (hd1 : d < 1) {u v : Nat → Rat} (h : ∀ i, i < n → ∃ bs, WB n bs ∧ v i - u i ≤ d * (mnF bs v bs.length - mnF bs u bs.length)) : ∀ i, i < n → v i ≤ u i := by
 intro i hi
 obtain ⟨m, hm, hmax⟩ := argmax (fun s => v s - u s) n om
 obtain ⟨bs, hb, hle⟩ := h m hm
 have h1 := mnF_le hb (v := fun s => v s - u s) hmax bs.length (Nat.le_refl _)
 rw [hb.sum, ← mnF_sub] at h1
 have h2 := hmax i hi
 by_cases hD : v m - u m ≤ 0
 ·grind
 ·exfalso
  have h3 := Rat.mul_le_mul_of_nonneg_left h1 hd0
  have h4 : 0 < (1 - d) * (v m - u m) := Rat.mul_pos (by grind) (by grind)
  grind
structure DM (ss : List ST) (d : Rat) : Prop where
 d0 : 0 < d
 d1 : d < 1
 pos : 1 ≤ ss.length
 cs : ∀ x, x ∈ ss → 1 ≤ x.2.2.length
 wb : ∀ x, x ∈ ss → ∀ c, c ∈ x.2.2 → WB ss.length c.2.2
abbrev ch (ss : List ST) (i k : Nat) : CH := (ss.getD i default).2.2.getD k default
def WV (ss : List ST) (d : Rat) (st : List Int) (v : Nat → Rat) : Prop := ∀ i, i < ss.length → v i = yl d (ch ss i (st.getD i default).toNat) v
theorem yl_mono {ss : List ST} {d : Rat} (h : DM ss d) {c : CH} (hc : WB ss.length c.2.2) {u v : Nat → Rat} (hv : ∀ j, j < ss.length → u j ≤ v j) : yl d c u ≤ yl d c v := by
 have := Rat.mul_le_mul_of_nonneg_left (mnF_mono hc hv c.2.2.length (Nat.le_refl _)) (Rat.le_of_lt h.d0)
 unfold yl mn
 grind
section
variable {ss : List ST} {d : Rat} (h : DM ss d)
include h
theorem ch_wb {i k : Nat} (hi : i < ss.length) (hk : k < (ss.getD i default).2.2.length) : WB ss.length (ch ss i k).2.2 := h.wb _ (bA hi) _ (bA hk)
theorem st_wb {st : List Int} (hst : vSt ss st = true) {i : Nat} (hi : i < ss.length) : WB ss.length (ch ss i (st.getD i default).toNat).2.2 := by
 have := mP hst hi
 exact ch_wb h hi om
theorem WV.le {st : List Int} (hst : vSt ss st = true) {u v : Nat → Rat} (hv : WV ss d st v) (hu : ∀ i, i < ss.length → yl d (ch ss i (st.getD i default).toNat) u ≤ u i) : ∀ i, i < ss.length → v i ≤ u i :=
 comp (Rat.le_of_lt h.d0) h.d1 fun i hi => ⟨_, st_wb h hst hi, by
  have h1 := hv i hi
  have h2 := hu i hi
  unfold yl mn at h1 h2
  grind⟩
theorem WV.ge {st : List Int} (hst : vSt ss st = true) {u v : Nat → Rat} (hv : WV ss d st v) (hu : ∀ i, i < ss.length → u i ≤ yl d (ch ss i (st.getD i default).toNat) u) : ∀ i, i < ss.length → u i ≤ v i :=
 comp (Rat.le_of_lt h.d0) h.d1 fun i hi => ⟨_, st_wb h hst hi, by
  have h1 := hv i hi
  have h2 := hu i hi
  unfold yl mn at h1 h2
  grind⟩
theorem WV.uniq {st : List Int} (hst : vSt ss st = true) {u v : Nat → Rat} (hv : WV ss d st v) (hu : WV ss d st u) : ∀ i, i < ss.length → v i = u i := fun i hi => by
 have h1 := hv.le h hst (u := u) (fun j hj => by rw [← hu j hj]; exact Rat.le_refl) i hi
 have h2 := hu.le h hst (u := v) (fun j hj => by rw [← hv j hj]; exact Rat.le_refl) i hi
 grind
end
def btr (p : Int) (a b : Rat) : Prop := if p = 1 then a < b else b < a
def NoImp (ss : List ST) (d : Rat) (p : Int) (v : Nat → Rat) : Prop := ∀ i, i < ss.length → (ss.getD i default).1.1 = p → ∀ k, k < (ss.getD i default).2.2.length → ¬ btr p (yl d (ch ss i k) v) (v i)
def Val (ss : List ST) (d : Rat) (v : Nat → Rat) : Prop := ∀ i, i < ss.length → (∃ k, k < (ss.getD i default).2.2.length ∧ v i = yl d (ch ss i k) v) ∧ ∀ k, k < (ss.getD i default).2.2.length → if (ss.getD i default).1.1 = 1 then v i ≤ yl d (ch ss i k) v else yl d (ch ss i k) v ≤ v i
theorem Val.uniq {ss : List ST} {d : Rat} (h : DM ss d) {u v : Nat → Rat} (hu : Val ss d u) (hv : Val ss d v) : ∀ i, i < ss.length → v i = u i := by
 have key : ∀ {u v : Nat → Rat}, Val ss d u → Val ss d v → ∀ i, i < ss.length → v i ≤ u i := by
  intro u v hu hv
  refine comp (Rat.le_of_lt h.d0) h.d1 fun i hi => ?_
  obtain ⟨⟨k, hk, e1⟩, a1⟩ := hu i hi
  obtain ⟨⟨l, hl, e2⟩, a2⟩ := hv i hi
  by_cases ho : (ss.getD i default).1.1 = 1
  ·have := a2 k hk
   rw [if_pos ho] at this
   refine ⟨_, ch_wb h hi hk, ?_⟩
   unfold yl mn at this e1
   grind
  ·have := a1 l hl
   rw [if_neg ho] at this
   refine ⟨_, ch_wb h hi hl, ?_⟩
   unfold yl mn at this e2
   grind
 intro i hi
 have h1 := key hu hv i hi
 have h2 := key hv hu i hi
 grind
theorem val_of {ss : List ST} {d : Rat} (ho : ∀ x, x ∈ ss → x.1.1 = 0 ∨ x.1.1 = 1) {st : List Int} (hst : vSt ss st = true) {v : Nat → Rat} (hv : WV ss d st v) (h0 : NoImp ss d 0 v) (h1 : NoImp ss d 1 v) : Val ss d v := fun i hi => by
 have hs := mP hst hi
 refine ⟨⟨(st.getD i default).toNat, om, hv i hi⟩, fun k hk => ?_⟩
 rcases ho _ (bA hi) with e | e
 ·have := h0 i hi e k hk
  unfold btr at this
  rw [if_neg (by decide)] at this
  rw [if_neg om]; grind
 ·have := h1 i hi e k hk
  unfold btr at this
  rw [if_pos rfl] at this
  rw [if_pos e]; grind
theorem lA {st : List Int} {i j : Nat} {k : Int} (hi : i < st.length) : (st.set i k).getD j default = if i = j then k else st.getD j default := by
 rcases Nat.lt_or_ge j st.length with hj | hj
 ·exact bT hj
 ·rw [List.getD_eq_getElem?_getD, List.getElem?_eq_none (by simpa using hj), if_neg om, List.getD_eq_getElem?_getD, List.getElem?_eq_none hj]
theorem vSt_set {ss : List ST} {st : List Int} (h : vSt ss st = true) {i k : Nat} (hk : k < (ss.getD i default).2.2.length) : vSt ss (st.set i (k : Int)) = true := by
 have hl := gM h
 unfold vSt
 rw [decide_eq_true (by rw [List.length_set]; exact hl), Bool.true_and]
 refine gK fun j hj => ?_
 rw [List.length_set] at hj
 have ha := mP h (i := j) om
 rw [show (st.set i (k : Int)).getD j default = if i = j then (k : Int) else st.getD j default from bT hj]
 by_cases e : i = j
 ·rw [if_pos e, ← e, decide_eq_true om, decide_eq_true om]; rfl
 ·rw [if_neg e, decide_eq_true ha.1, decide_eq_true ha.2]; rfl
section
variable {ss : List ST} {d : Rat} (h : DM ss d)
include h
theorem imp1 {st : List Int} {i k : Nat} {u v : Nat → Rat} (hst : vSt ss st = true) (hi : i < ss.length) (hk : k < (ss.getD i default).2.2.length) (hv : WV ss d st v) (hb : yl d (ch ss i k) v < v i) (hu : WV ss d (st.set i (k : Int)) u) : (∀ j, j < ss.length → u j ≤ v j) ∧ u i < v i := by
 have hl := gM hst
 have hle := hu.le h (vSt_set hst hk) (u := v) fun j hj => by
  rw [lA om]
  by_cases e : i = j
  ·subst e; rw [if_pos rfl, Int.toNat_natCast]; exact Rat.le_of_lt hb
  ·rw [if_neg e, ← hv j hj]; exact Rat.le_refl
 refine ⟨hle, ?_⟩
 have h1 := hu i hi
 rw [lA om, if_pos rfl, Int.toNat_natCast] at h1
 have h2 := yl_mono h (ch_wb h hi hk) hle
 grind
theorem imp0 {st st' : List Int} {i k : Nat} {u v : Nat → Rat} (hst : vSt ss st = true) (hst' : vSt ss st' = true) (hi : i < ss.length) (ho : (ss.getD i default).1.1 ≠ 1) (hk : k < (ss.getD i default).2.2.length) (hv : WV ss d st v) (hn : NoImp ss d 1 v) (hb : v i < yl d (ch ss i k) v)
  (hs : ∀ j, j < ss.length → (ss.getD j default).1.1 ≠ 1 → st'.getD j default = (st.set i (k : Int)).getD j default) (hu : WV ss d st' u) : (∀ j, j < ss.length → v j ≤ u j) ∧ v i < u i := by
 have hl := gM hst
 have hge := hu.ge h hst' (u := v) fun j hj => by
  by_cases hoj : (ss.getD j default).1.1 = 1
  ·have hs' := mP hst' hj
   have := hn j hj hoj (st'.getD j default).toNat om
   unfold btr at this
   rw [if_pos rfl] at this
   grind
  ·rw [hs j hj hoj, lA om]
   by_cases e : i = j
   ·subst e; rw [if_pos rfl, Int.toNat_natCast]; exact Rat.le_of_lt hb
   ·rw [if_neg e, ← hv j hj]; exact Rat.le_refl
 refine ⟨hge, ?_⟩
 have h1 := hu i hi
 rw [hs i hi ho, lA om, if_pos rfl, Int.toNat_natCast] at h1
 have h2 := yl_mono h (ch_wb h hi hk) hge
 grind
end
theorem all_lists (m : Nat) : ∀ n, ∃ L : List (List Int), ∀ st : List Int, st.length = n → (∀ x, x ∈ st → 0 ≤ x ∧ x < (m : Int)) → st ∈ L
 | 0 => ⟨[[]], fun st h _ => by rw [List.length_eq_zero_iff.1 h]; simp⟩
 | n + 1 => by
  obtain ⟨L, hL⟩ := all_lists m n
  refine ⟨(List.range m).flatMap fun (k : Nat) => L.map fun t => (k : Int) :: t, fun st h1 h2 => ?_⟩
  match st, h1, h2 with
  | x :: t, h1, h2 =>
   have hx := h2 x (by simp)
   refine List.mem_flatMap.2 ⟨x.toNat, List.mem_range.2 om, List.mem_map.2 ⟨t, hL t (by simpa using h1) (fun y hy => h2 y (by simp [hy])), ?_⟩⟩
   rw [Int.toNat_of_nonneg hx.1]
theorem filter_lt {α : Type} {p q : α → Bool} : ∀ {l : List α}, (∀ a, a ∈ l → p a = true → q a = true) → (∃ a, a ∈ l ∧ p a = false ∧ q a = true) → (l.filter p).length < (l.filter q).length
 | [], _, ⟨_, h, _⟩ => by simp at h
 | a :: l, h1, ⟨b, hb, h2, h3⟩ => by
  have hle : ∀ l : List α, (∀ a, a ∈ l → p a = true → q a = true) → (l.filter p).length ≤ (l.filter q).length := fun l => by
   induction l with
   | nil => exact fun _ => Nat.le_refl _
   | cons a l ih =>
    intro h
    have := ih fun b hb => h b (by simp [hb])
    rw [List.filter_cons, List.filter_cons]
    cases e : p a
    ·cases q a <;> simp <;> omega
    ·rw [h a (by simp) e]; simpa using this
  rw [List.filter_cons, List.filter_cons]
  rcases List.mem_cons.1 hb with rfl | hb
  ·rw [h2, h3]
   have := hle l fun c hc => h1 c (by simp [hc])
   simp; omega
  ·have ih := filter_lt (l := l) (fun c hc => h1 c (by simp [hc])) ⟨b, hb, h2, h3⟩
   cases e : p a
   ·cases q a <;> simp <;> omega
   ·rw [h1 a (by simp) e]; simpa using ih
theorem rank {ss : List ST} (R : List Int → List Int → Prop) (hir : ∀ a, ¬ R a a) (htr : ∀ a b c, R a b → R b c → R a c) (hv : ∀ a b, R a b → vSt ss a = true) : ∃ (μ : List Int → Nat) (M : Nat), (∀ a, μ a < M) ∧ ∀ a b, R a b → μ a < μ b := by
 obtain ⟨m, hm⟩ : ∃ m, ∀ x, x ∈ ss → x.2.2.length ≤ m := by
  clear hv
  induction ss with
  | nil => exact ⟨0, by simp⟩
  | cons x ss ih =>
   obtain ⟨m, h⟩ := ih
   refine ⟨max x.2.2.length m, fun y hy => ?_⟩
   rcases List.mem_cons.1 hy with rfl | hy
   ·omega
   ·have := h y hy; omega
 obtain ⟨L, hL⟩ := all_lists m ss.length
 have hin : ∀ a, vSt ss a = true → a ∈ L := fun a ha => hL a (gM ha) fun x hx => by
  obtain ⟨i, hi, rfl⟩ := List.getElem_of_mem hx
  have hl := gM ha
  have h1 := mP ha (i := i) om
  have h2 := hm _ (bA (us := ss) (i := i) om)
  rw [show a.getD i default = a[i] by rw [List.getD_eq_getElem?_getD, List.getElem?_eq_getElem hi]; rfl] at h1
  omega
 refine ⟨fun b => (L.filter fun a => @decide (R a b) (Classical.propDecidable _)).length, L.length + 1, fun a => Nat.lt_succ_of_le (List.length_filter_le _ _), fun a b hab => ?_⟩
 refine filter_lt (fun c _ hc => ?_) ⟨a, hin a (hv a b hab), ?_, ?_⟩
 ·have := @of_decide_eq_true _ (Classical.propDecidable _) hc
  exact @decide_eq_true _ (Classical.propDecidable _) (htr c a b this hab)
 ·exact @decide_eq_false _ (Classical.propDecidable _) (hir a)
 ·exact @decide_eq_true _ (Classical.propDecidable _) hab
section
variable {ss : List ST} {d : Rat} (h : DM ss d)
include h
theorem rank1 : ∃ (μ : List Int → Nat) (M : Nat), (∀ a, μ a < M) ∧ ∀ a b u v i, vSt ss a = true → vSt ss b = true → WV ss d a u → WV ss d b v → (∀ j, j < ss.length → u j ≤ v j) → i < ss.length → u i < v i → μ a < μ b := by
 obtain ⟨μ, M, hM, hμ⟩ := rank (ss := ss) (fun a b => vSt ss a = true ∧ vSt ss b = true ∧ ∃ u v i, WV ss d a u ∧ WV ss d b v ∧ (∀ j, j < ss.length → u j ≤ v j) ∧ i < ss.length ∧ u i < v i) (fun a ⟨ha, _, u, v, i, h1, h2, _, hi, h4⟩ => by
  have := h1.uniq h ha h2 i hi
  grind) (fun a b c ⟨ha, hb, u, v, i, h1, h2, h3, hi, h4⟩ ⟨_, hc, v', w, k, k1, k2, k3, hk, k4⟩ => ⟨ha, hc, u, w, i, h1, k2, fun j hj => by
   have e := h2.uniq h hb k1 j hj
   have := h3 j hj
   have := k3 j hj
   grind, hi, by
   have e := h2.uniq h hb k1 i hi
   have := k3 i hi
   grind⟩) (fun a b hab => hab.1)
 exact ⟨μ, M, hM, fun a b u v i ha hb h1 h2 h3 hi h4 => hμ a b ⟨ha, hb, u, v, i, h1, h2, h3, hi, h4⟩⟩
theorem rank0 : ∃ (μ : List Int → Nat) (M : Nat), (∀ a, μ a < M) ∧ ∀ a b u v i, vSt ss a = true → vSt ss b = true → WV ss d a u → WV ss d b v → (∀ j, j < ss.length → v j ≤ u j) → i < ss.length → v i < u i → μ a < μ b := by
 obtain ⟨μ, M, hM, hμ⟩ := rank (ss := ss) (fun a b => vSt ss a = true ∧ vSt ss b = true ∧ ∃ u v i, WV ss d a u ∧ WV ss d b v ∧ (∀ j, j < ss.length → v j ≤ u j) ∧ i < ss.length ∧ v i < u i) (fun a ⟨ha, _, u, v, i, h1, h2, _, hi, h4⟩ => by
  have := h1.uniq h ha h2 i hi
  grind) (fun a b c ⟨ha, hb, u, v, i, h1, h2, h3, hi, h4⟩ ⟨_, hc, v', w, k, k1, k2, k3, hk, k4⟩ => ⟨ha, hc, u, w, i, h1, k2, fun j hj => by
   have e := h2.uniq h hb k1 j hj
   have := h3 j hj
   have := k3 j hj
   grind, hi, by
   have e := h2.uniq h hb k1 i hi
   have := k3 i hi
   grind⟩) (fun a b hab => hab.1)
 exact ⟨μ, M, hM, fun a b u v i ha hb h1 h2 h3 hi h4 => hμ a b ⟨ha, hb, u, v, i, h1, h2, h3, hi, h4⟩⟩
end
end Go.Ab
namespace Go.Ab
open Go.RowKit
theorem sm_upd {f g : Nat → Rat} {t : Nat} : ∀ n, t < n → (∀ i, i < n → i ≠ t → f i = g i) → sm f n = sm g n + (f t - g t)
 | 0, h, _ => absurd h om
 | n + 1, h, he => by
  show sm f n + f n = sm g n + g n + (f t - g t)
  by_cases e : t = n
  ·subst e
   rw [bZ t fun i hi => he i om om]; grind
  ·rw [sm_upd n om fun i hi hne => he i om hne, he n om (Ne.symm e)]; grind
theorem nC {a : List Rat} {t : Nat} {x : Rat} (ht : t < a.length) (v : List Rat) : dotR (a.set t x) v = dotR a v + (x - a.getD t default) * v.getD t default := by
 rw [nD, nD, List.length_set, sm_upd (t := t) a.length ht fun i hi hne => by rw [bT hi, if_neg (Ne.symm hne)]]
 rw [bT ht, if_pos rfl]; grind
theorem dotR_zero (n : Nat) (v : List Rat) : dotR (List.replicate n 0) v = 0 := by
 rw [nD]
 refine (bZ _ fun i hi => ?_).trans (iE _)
 rw [List.length_replicate] at hi
 rw [List.getD_eq_getElem?_getD, List.getElem?_replicate, if_pos hi]
 exact Rat.zero_mul _
theorem full_rank {A : List (List Rat)} {n : Nat} (hl : A.length = n) (hw : Wid n A) (hk : ∀ x : Nat → Rat, (∀ i, i < n → sm (fun j => ent A i j * x j) n = 0) → ∀ j, j < n → x j = 0) : (gjn A n).2.length = n := by
 have hR := rI hw n (Nat.le_refl _)
 have hS := cQ A n
 have hsol := fun x => gjn_sol hw x n (Nat.le_refl _)
 have hrk := hR.rk
 apply Classical.byContradiction
 intro hne
 have hlt : (gjn A n).2.length < n := by omega
 generalize (gjn A n).1 = S at *
 generalize (gjn A n).2 = L at *
 obtain ⟨j, hj, hj1, hj2⟩ : ∃ j, j ≤ L.length ∧ (∀ t, t < j → L.getD t default = t) ∧ ∀ t, j ≤ t → t < L.length → j < L.getD t default := by
  have key : ∀ m, m ≤ L.length → (∀ t, t < m → L.getD t default = t) ∨ ∃ j, j < m ∧ (∀ t, t < j → L.getD t default = t) ∧ L.getD j default ≠ j := by
   intro m
   induction m with
   | zero => exact fun _ => .inl fun t ht => absurd ht om
   | succ m ih =>
    intro hm
    rcases ih om with h | ⟨j, h1, h2⟩
    ·by_cases e : L.getD m default = m
     ·exact .inl fun t ht => by
       by_cases e2 : t = m
       ·rw [e2]; exact e
       ·exact h t om
     ·exact .inr ⟨m, om, h, e⟩
    ·exact .inr ⟨j, om, h2⟩
  rcases key L.length (Nat.le_refl _) with h | ⟨j, h1, h2, h3⟩
  ·exact ⟨L.length, Nat.le_refl _, h, fun t h1 h2 => by omega⟩
  ·refine ⟨j, om, h2, fun t h4 h5 => ?_⟩
   have h6 := hR.ge j h1
   by_cases e : t = j
   ·rw [e]; omega
   ·have := hR.mono j t om h5
    omega
 have hjn : j < n := by omega
 let x : Nat → Rat := fun t => if t < j then -ent S t j else if t = j then 1 else 0
 have hx := hk x ?_ j hjn
 ·have : x j = 1 := by show (if j < j then _ else if j = j then (1 : Rat) else 0) = 1; rw [if_neg om, if_pos rfl]
  rw [this] at hx
  exact absurd hx (by decide)
 ·have h1 : Sol S n x := by
   intro i hi
   unfold rd
   have h2 : ∀ t, t < n → t ≠ j → (t < j → i ≠ t) → ent S i t * x t = 0 := fun t ht hne hti => by
    by_cases e : t < j
    ·have := hR.piv t om i hi
     rw [hj1 t e, if_neg (hti e)] at this
     rw [this]; exact Rat.zero_mul _
    ·show _ * (if t < j then _ else if t = j then (1 : Rat) else 0) = 0
     rw [if_neg e, if_neg hne]; exact Rat.mul_zero _
   by_cases e : i < j
   ·
    have h3 : sm (fun t => ent S i t * x t) n = sm (fun t => if t = j then ent S i j else 0) n + (ent S i i * x i - 0) := by
     have := sm_upd (f := fun t => ent S i t * x t) (g := fun t => if t = j then ent S i j else 0) (t := i) n om fun t ht hne => by
      show ent S i t * x t = if t = j then ent S i j else 0
      by_cases e2 : t = j
      ·rw [if_pos e2, e2]
       show ent S i j * (if j < j then _ else if j = j then (1 : Rat) else 0) = _
       rw [if_neg om, if_pos rfl, Rat.mul_one]
      ·rw [if_neg e2]; exact h2 t ht e2 fun _ h => hne h.symm
     rw [if_neg om] at this
     exact this
    rw [h3, fZ n hjn fun t _ hne => if_neg hne, if_pos rfl]
    have h4 := hR.piv i om i hi
    rw [hj1 i e, if_pos rfl] at h4
    rw [h4, show x i = -ent S i j from if_pos e]
    grind
   ·refine (bZ n fun t ht => ?_).trans (iE n)
    by_cases e2 : t = j
    ·have h5 : ent S i j = 0 := by
      by_cases e3 : i < L.length
      ·exact hR.low i e3 j (hj2 i om e3)
      ·exact hR.zer i om hi j hjn
     rw [e2, h5]; exact Rat.zero_mul _
    ·exact h2 t ht e2 fun h => by omega
  have h6 := (hsol x).1 h1
  intro i hi
  exact h6 i om
theorem lin_ok {A : List (List Rat)} {b : List Rat} {n : Nat} (hl : A.length = n) (hw : Wid n A) (hk : ∀ x : Nat → Rat, (∀ i, i < n → sm (fun j => ent A i j * x j) n = 0) → ∀ j, j < n → x j = 0) :
  nosol (gjn (wR A b) n) n = false ∧ ∀ i, i < n → dotR (A.getD i default) (solv (gjn (wR A b) n) n (gjn (wR A b) n).2.length) = b.getD i default := by
 have hf := full_rank hl hw hk
 have hW : Wid (n + 1) (wR A b) := wR_wid hw
 have he := gjn_ext hw hW om (mQ A b) (fun i j hi hj => ent_wR hw hi hj) n (Nat.le_refl _)
 have hns : nosol (gjn (wR A b) n) n = false := by
  have hgl := cQ (wR A b) n
  rw [mQ] at hgl
  exact nosol_no (by rw [he.1]; omega) fun k h1 h2 => by rw [he.1] at h1; omega
 exact ⟨hns, fun i hi => solv_ok hw hns i om⟩
theorem solv_bd {S : GS} {w β : Nat} (h1 : 1 ≤ β) (hb : BdL β S.1) : ∀ i, ∀ x, x ∈ solv S w i → Bd β x
 | 0, x, hx => by
  rw [solv] at hx
  obtain ⟨_, rfl⟩ := List.mem_replicate.1 hx
  exact Bd0 h1
 | i + 1, x, hx => by
  rw [solv] at hx
  rcases List.mem_or_eq_of_mem_set hx with h | h
  ·exact solv_bd h1 hb i x h
  ·rw [h]; exact BdL.ent h1 hb _ _
open Go.RowKit
structure VB (n : Nat) (bs : List BR) : Prop where
 len : 1 ≤ bs.length ∧ bs.length ≤ 8
 to : ∀ i, i < bs.length → 0 ≤ (bs.getD i default).1 ∧ (bs.getD i default).1 < n
 inc : ∀ i j, i < j → j < bs.length → (bs.getD i default).1 < (bs.getD j default).1
 vn : ∀ i, i < bs.length → VN (bs.getD i default).2
 pos : ∀ i, i < bs.length → 0 < (bs.getD i default).2.1
 sum : psum bs bs.length = 1
theorem okB_inc {n : Nat} {bs : List BR} (h : ∀ j, j < bs.length → okB n bs j = true) : ∀ i j, i < j → j < bs.length → (bs.getD i default).1 < (bs.getD j default).1 := by
 intro i j hij
 induction j with
 | zero => exact absurd hij om
 | succ j ih =>
  intro hj
  have h1 := h (j + 1) hj
  unfold okB at h1
  rw [Bool.and_eq_true, Bool.and_eq_true, Bool.and_eq_true] at h1
  have h2 : (bs.getD j default).1 < (bs.getD (j + 1) default).1 := of_decide_eq_true h1.1.1.1
  by_cases e : i = j
  ·rw [e]; exact h2
  ·have := ih om om; omega
theorem VC_VB {n : Nat} {c : CH} (h : VC n c = true) : VN c.1 ∧ VB n c.2.2 := by
 unfold VC at h
 simp only [Bool.and_eq_true] at h
 obtain ⟨⟨⟨⟨h1, h2⟩, h3⟩, h4⟩, h5⟩ := h
 have h2 := of_decide_eq_true h2
 have h3 := of_decide_eq_true h3
 have hok : ∀ j, j < c.2.2.length → okB n c.2.2 j = true := fun j hj => List.all_eq_true.1 h4 j (List.mem_range.2 hj)
 refine ⟨of_decide_eq_true h1, ⟨h2, h3⟩, fun i hi => ?_, okB_inc hok, fun i hi => of_decide_eq_true (okB_vn (hok i hi)).1, fun i hi => (okB_vn (hok i hi)).2, of_decide_eq_true h5⟩
 have hlo := okB_lo (n := n) (bs := c.2.2) i fun j hj => hok j om
 have h6 := hok i hi
 unfold okB at h6
 rw [Bool.and_eq_true, Bool.and_eq_true, Bool.and_eq_true] at h6
 have e1 := of_decide_eq_true h6.1.1.1
 have e2 := of_decide_eq_true h6.1.1.2
 omega
theorem eT {ss : List ST} (h : VMo ss = true) {x : ST} (hx : x ∈ ss) {c : CH} (hc : c ∈ x.2.2) : VN c.1 ∧ VB ss.length c.2.2 := by
 unfold VMo at h
 rw [Bool.and_eq_true] at h
 have h1 := List.all_eq_true.1 h.2 x hx
 unfold VS at h1
 rw [Bool.and_eq_true] at h1
 exact VC_VB (List.all_eq_true.1 h1.2 c hc)
theorem nq_pos {a : NM} (h : VN a) (h0 : 0 < a.1) : 0 < nq a := by
 have h2 : 0 < a.2 := by have := h.1; omega
 unfold nq
 rw [Rat.divInt_eq_div]
 have e1 : (0 : Rat) < (a.1 : Rat) := by exact_mod_cast h0
 have e2 : (0 : Rat) < (a.2 : Rat) := by exact_mod_cast h2
 generalize (a.1 : Rat) = p at *
 generalize (a.2 : Rat) = q at *
 apply Classical.byContradiction
 intro hn
 have h3 : 0 ≤ -(p / q) * q := Rat.mul_nonneg (by grind) (Rat.le_of_lt e2)
 have h4 : p / q * q = p := by grind
 grind
theorem VB.wb {n : Nat} {bs : List BR} (h : VB n bs) : WB n bs := ⟨fun i hi => nq_pos (h.vn i hi) (h.pos i hi), h.sum, fun i hi => by have := h.to i hi; omega⟩
theorem gC {ss : List ST} {d : Rat} (h : VMo ss = true) (h0 : 0 < d) (h1 : d < 1) : DM ss d :=
 ⟨h0, h1, (fS h).pos, fun x hx => ((fS h).cs x hx).1, fun x hx c hc => (eT h hx hc).2.wb⟩
def fn_ (v : List Rat) : Nat → Rat := fun s => v.getD s default
def RowOk (n : Nat) (d : Rat) (bs : List BR) (i : Nat) (row : List Rat) : Prop := row.length = n ∧ ∀ v : List Rat, dotR row v = v.getD i default - d * mnF bs (fn_ v) bs.length
def RowP (n : Nat) (d : Rat) (bs : List BR) (j : Nat) (row : List Rat) : Prop := row.length = n ∧ (∀ v : List Rat, dotR row v = -(d * mnF bs (fn_ v) j)) ∧ (∀ t, t < n → (∀ i, i < j → (bs.getD i default).1 ≠ t) → row.getD t default = 0) ∧ ∀ x, x ∈ row → Bd 4 x
theorem RowP.init (n : Nat) (d : Rat) (bs : List BR) : RowP n d bs 0 (List.replicate n 0) := by
 refine ⟨by simp, fun v => by rw [dotR_zero]; unfold mnF; grind, fun t ht _ => by rw [List.getD_eq_getElem?_getD, List.getElem?_replicate, if_pos ht]; rfl, fun x hx => by rw [(List.mem_replicate.1 hx).2]; exact Bd0 (by decide)⟩
theorem RowP.step {n : Nat} {d : Rat} {bs : List BR} {j : Nat} {row : List Rat} (h : RowP n d bs j row) (hb : VB n bs) (hj : j < bs.length) (hd : Bd 2 d) : RowP n d bs (j + 1) (row.set (bs.getD j default).1.toNat (-(d * nq (bs.getD j default).2))) := by
 obtain ⟨h1, h2, h3, h4⟩ := h
 have ht := hb.to j hj
 have hz := h3 (bs.getD j default).1.toNat om fun i hi => by have := hb.inc i j hi hj; omega
 refine ⟨by rw [List.length_set]; exact h1, fun v => ?_, fun t htn hne => ?_, fun x hx => ?_⟩
 ·rw [nC om, h2, hz]
  show _ = -(d * (mnF bs (fn_ v) j + nq (bs.getD j default).2 * v.getD (bs.getD j default).1.toNat default))
  grind
 ·rw [bT om, if_neg (fun e => hne j om om)]
  exact h3 t htn fun i hi => hne i om
 ·rcases List.mem_or_eq_of_mem_set hx with h | h
  ·exact h4 x h
  ·rw [h]; exact (hd.mul (hb.vn j hj).bd).neg
theorem RowP.done {n : Nat} {d : Rat} {bs : List BR} {i : Nat} {row : List Rat} (h : RowP n d bs bs.length row) (hi : i < n) : RowOk n d bs i (row.set i (row.getD i default + 1)) ∧ ∀ x, x ∈ row.set i (row.getD i default + 1) → Bd 8 x := by
 obtain ⟨h1, h2, h3, h4⟩ := h
 refine ⟨⟨by rw [List.length_set]; exact h1, fun v => ?_⟩, fun x hx => ?_⟩
 ·rw [nC om, h2]; grind
 ·rcases List.mem_or_eq_of_mem_set hx with h | h
  ·exact (h4 x h).mono (by decide)
  ·rw [h]; exact ((nS (b := 4) (by decide) h4 i).add Bd1).mono (by decide)
def RowR (n : Nat) (d : Rat) (bs : List BR) (a j : Nat) (row : List Rat) : Prop := row.length = n ∧ (∀ v : List Rat, dotR row v = v.getD a default - d * mnF bs (fn_ v) j) ∧ (∀ t, t < n → (∀ i, i < j → (bs.getD i default).1 ≠ t) → Bd 1 (row.getD t default)) ∧ ∀ x, x ∈ row → Bd 8 x
theorem RowR.init {n : Nat} (d : Rat) (bs : List BR) {a : Nat} (ha : a < n) : RowR n d bs a 0 ((List.replicate n 0).set a 1) := by
 have hb : ∀ x, x ∈ (List.replicate n (0 : Rat)).set a 1 → Bd 1 x := fun x hx => by
  rcases List.mem_or_eq_of_mem_set hx with h | h
  ·rw [(List.mem_replicate.1 h).2]; exact Bd0 (by decide)
  ·rw [h]; exact Bd1
 refine ⟨by simp, fun v => ?_, fun t ht _ => nS (by decide) hb t, fun x hx => (hb x hx).mono (by decide)⟩
 rw [nC (by simpa using ha), dotR_zero, List.getD_eq_getElem?_getD (l := List.replicate n 0), List.getElem?_replicate, if_pos ha]
 unfold mnF
 show 0 + (1 - (0 : Rat)) * _ = _
 grind
theorem RowR.step {n : Nat} {d : Rat} {bs : List BR} {a j : Nat} {row : List Rat} (h : RowR n d bs a j row) (hb : VB n bs) (hj : j < bs.length) (hd : Bd 2 d) : RowR n d bs a (j + 1) (row.set (bs.getD j default).1.toNat (row.getD (bs.getD j default).1.toNat default - d * nq (bs.getD j default).2)) := by
 obtain ⟨h1, h2, h3, h4⟩ := h
 have ht := hb.to j hj
 have hz := h3 (bs.getD j default).1.toNat om fun i hi => by have := hb.inc i j hi hj; omega
 refine ⟨by rw [List.length_set]; exact h1, fun v => ?_, fun t htn hne => ?_, fun x hx => ?_⟩
 ·rw [nC om, h2]
  show _ = v.getD a default - d * (mnF bs (fn_ v) j + nq (bs.getD j default).2 * v.getD (bs.getD j default).1.toNat default)
  grind
 ·rw [bT om, if_neg (fun e => hne j om om)]
  exact h3 t htn fun i hi => hne i om
 ·rcases List.mem_or_eq_of_mem_set hx with h | h
  ·exact h4 x h
  ·rw [h, Rat.sub_eq_add_neg]; exact (hz.add (hd.mul (hb.vn j hj).bd).neg).mono (by decide)
theorem worth_sys {ss : List ST} {d : Rat} (h : DM ss d) (hn : ss.length ≤ 40) {st : List Int} (hst : vSt ss st = true) {A : List (List Rat)} {b : List Rat} (hl : A.length = ss.length) (hbl : b.length = ss.length)
  (hA : ∀ i, i < ss.length → RowOk ss.length d (ch ss i (st.getD i default).toNat).2.2 i (A.getD i default)) (hb : ∀ i, i < ss.length → b.getD i default = nq (ch ss i (st.getD i default).toNat).1) (hbA : BdL 8 A) (hbb : ∀ x, x ∈ b → Bd 8 x) :
  GB (wR A b) ss.length 268435456 ∧ GB (wR A b) (ss.length + 1) 268435456 ∧ nosol (gjn (wR A b) ss.length) ss.length = false ∧ (solv (gjn (wR A b) ss.length) ss.length (gjn (wR A b) ss.length).2.length).length = ss.length ∧
   WV ss d st (fn_ (solv (gjn (wR A b) ss.length) ss.length (gjn (wR A b) ss.length).2.length)) ∧ ∀ x, x ∈ solv (gjn (wR A b) ss.length) ss.length (gjn (wR A b) ss.length).2.length → Bd 268435456 x := by
 have hw : Wid ss.length A := fun r hr => by
  obtain ⟨i, hi, rfl⟩ := List.getElem_of_mem hr
  have := (hA i om).1
  rwa [show A.getD i default = A[i] by rw [List.getD_eq_getElem?_getD, List.getElem?_eq_getElem hi]; rfl] at this
 have hW : Wid (ss.length + 1) (wR A b) := wR_wid hw
 have hbW : BdL 8 (wR A b) := wR_bd om hbA hbb
 have hG : ∀ c, c ≤ ss.length + 1 → GB (wR A b) c 268435456 := fun c hc => GB_all hbW (by decide) (by decide) hW (by rw [mQ]; omega) om hc
 have hk : ∀ x : Nat → Rat, (∀ i, i < ss.length → sm (fun j => ent A i j * x j) ss.length = 0) → ∀ j, j < ss.length → x j = 0 := by
  intro x hx
  have hrow : ∀ i, i < ss.length → x i = d * mnF (ch ss i (st.getD i default).toNat).2.2 x (ch ss i (st.getD i default).toNat).2.2.length := fun i hi => by
   have h1 := (hA i hi).2 ((List.range ss.length).map x)
   rw [nD, (hA i hi).1, bZ (g := fun j => ent A i j * x j) ss.length fun j hj => by rw [dT hj]; rfl, hx i hi, dT hi] at h1
   have h2 := mnF_congr (st_wb h hst hi) (u := fn_ ((List.range ss.length).map x)) (v := x) (fun j hj => dT hj) _ (Nat.le_refl _)
   rw [h2] at h1
   grind
  have hz : ∀ bs : List BR, ∀ i, mnF bs (fun _ => 0) i = 0 := fun bs i => by
   induction i with
   | zero => rfl
   | succ i ih => unfold mnF; rw [ih]; grind
  have k1 := comp (Rat.le_of_lt h.d0) h.d1 (u := fun _ => 0) (v := x) fun i hi => ⟨_, st_wb h hst hi, by have := hrow i hi; rw [hz]; grind⟩
  have k2 := comp (Rat.le_of_lt h.d0) h.d1 (u := x) (v := fun _ => 0) fun i hi => ⟨_, st_wb h hst hi, by have := hrow i hi; rw [hz]; grind⟩
  intro j hj
  have a1 := k1 j hj
  have a2 := k2 j hj
  grind
 obtain ⟨hns, hsol⟩ := lin_ok (b := b) hl hw hk
 refine ⟨hG _ om, hG _ (Nat.le_refl _), hns, solv_len _ _ _, fun i hi => ?_, solv_bd (by decide) ((hG _ (Nat.le_refl _)).bds _ om) _⟩
 have h1 := hsol i hi
 rw [(hA i hi).2, hb i hi] at h1
 show (solv _ _ _).getD i default = nq _ + d * mnF _ _ _
 grind
open Go.RowKit
def xmean (bs : List BR) (vx : List X) : Nat → X
 | 0 => x0
 | i + 1 => xadd (xmean bs vx i) (xmul (nx (bs.getD i default).2) (vx.getD (bs.getD i default).1.toNat default))
def xyl (c : CH) (d : X) (vx : List X) : X := xadd (nx c.1) (xmul d (xmean c.2.2 vx c.2.2.length))
def vl (vx : List X) : Nat → Rat := fn_ (vx.map (·.1))
theorem iZ (vx : List X) (i : Nat) : (vx.getD i default).1 = vl vx i := by
 unfold vl fn_
 rw [List.getD_eq_getElem?_getD, List.getD_eq_getElem?_getD, List.getElem?_map]
 cases vx[i]? <;> rfl
theorem xmean_v (bs : List BR) (vx : List X) : ∀ i, (xmean bs vx i).1 = mnF bs (vl vx) i
 | 0 => rfl
 | i + 1 => by
  show (xmean bs vx i).1 + nq _ * (vx.getD _ default).1 = _
  rw [xmean_v bs vx i, iZ]; rfl
theorem oF (c : CH) (d : X) (vx : List X) : (xyl c d vx).1 = yl d.1 c (vl vx) := by
 show nq c.1 + d.1 * (xmean _ _ _).1 = _
 rw [xmean_v]; rfl
theorem VN.all3 {a : NM} (h : VN a) : I64 a.1 ∧ I64 a.2 ∧ a.2 ≠ 0 := by
 obtain ⟨h1, h2, h3, h4, _⟩ := h
 unfold I64
 omega
theorem kA {vx : List X} {β : Nat} (h0 : 1 ≤ β) (h : ∀ x, x ∈ vx → Bd β x.1) (t : Nat) : Bd β (vx.getD t default).1 := by
 rcases Nat.lt_or_ge t vx.length with ht | ht
 ·exact h _ (bA ht)
 ·rw [List.getD_eq_getElem?_getD, List.getElem?_eq_none ht]; exact Bd0 h0
theorem oD {n : Nat} {bs : List BR} (hb : VB n bs) {vx : List X} {β : Nat} (h0 : 1 ≤ β) (h : ∀ x, x ∈ vx → Bd β x.1) : ∀ i, i ≤ bs.length → Bd (1 + i * (β + 3)) (xmean bs vx i).1
 | 0, _ => Bd0 om
 | i + 1, hi => ((oD hb h0 h i om).add ((hb.vn i om).bd.mul (kA h0 h _))).mono (by rw [Nat.succ_mul]; omega)
theorem xyl_bd {n : Nat} {c : CH} (hr : VN c.1) (hb : VB n c.2.2) {d : X} (hd : Bd 2 d.1) {vx : List X} {β : Nat} (h0 : 1 ≤ β) (h : ∀ x, x ∈ vx → Bd β x.1) : Bd (8 * β + 40) (xyl c d vx).1 := by
 have h1 := oD hb h0 h c.2.2.length (Nat.le_refl _)
 refine (hr.bd.add (hd.mul h1)).mono ?_
 have : c.2.2.length * (β + 3) ≤ 8 * (β + 3) := Nat.mul_le_mul_right _ hb.len.2
 omega
def sgnF (p : Int) (a b : Rat) : Int := if p = 1 then (b - a).num.sign else (a - b).num.sign
theorem nU {p : Int} {a b : Rat} : 0 < sgnF p a b ↔ btr p a b := by
 have key : ∀ x : Rat, 0 < x.num.sign ↔ 0 < x := fun x => by
  rw [Int.sign_pos_iff]
  have h1 := Rat.num_nonneg (q := x)
  have h2 := Rat.num_eq_zero (q := x)
  constructor
  ·intro h
   have h3 := h1.1 om
   have h4 : x ≠ 0 := fun e => by have := h2.2 e; omega
   grind
  ·intro h
   have h3 := h1.2 (by grind)
   have h4 : x.num ≠ 0 := fun e => by have := h2.1 e; grind
   omega
 unfold sgnF btr
 by_cases h : p = 1
 ·rw [if_pos h, if_pos h, key]; constructor <;> intro h <;> grind
 ·rw [if_neg h, if_neg h, key]; constructor <;> intro h <;> grind
section
variable {P : Program} {T : TT} {E : TypeId → Bool} {N : Nat} {oa : Array Oper} {i b : Nat} {e : Env} {h : Hp} {Q : Env → Hp → Nat → Prop}
theorem WN.Gv {u : Tmp} {fn : Func} {f : FuncId} {c : Code} {args : Array Operand} {at_ : Array TypeId} {t : TypeId} {pos : String} {af : Array Edge} {l : List Oper} {dst : Tmp} {first cap ls : List LV} {n : Nat} {Φ : LV → Hp → Nat → Prop} (hv : evE e (.tmp u) = some (.fn (.func f) first cap)) (ha : argsE e args.toList = some ls) (hf : P.funcs[f]? = some fn) (hb : fn.body = some c) (hn : (fn.name == "runtime.NumGoroutine") = false)
  (hl : (first ++ ls ++ cap).length ≤ fn.ntmps) (hd : Nat.blt dst N = true)
  (k : WC P T E fn.ntmps c (argsEnv 0 (first ++ ls ++ cap)) h n (fun x e' h' n' => (x = .normal ∨ x = .ret) ∧ ∃ ls', resE e' T h' fn.results.toList = some ls' ∧ Φ (resultLV ls') h' n'))
  (kk : ∀ r h' n', Φ r h' n' → WN P T E N oa l (i + 1) b ((dst, r) :: e) h' n' Q) :
  WN P T E N oa (⟨some dst, .call { callee := .value (.tmp u), args := args, argTypes := at_ }, t, pos, af, none⟩ :: l) i b e h n Q := by
 intro hdr s m hs hm
 obtain ⟨hi, hl'⟩ := eR hdr
 obtain ⟨x, s', h1, e', h', h2, h3, hx, ls', hr, hΦ⟩ := k (frame fn (first ++ ls ++ cap)) m ⟨by simp [frame]; simp at hl; omega, fun t l ht => by
  obtain ⟨_, k⟩ := eK (first ++ ls ++ cap) 0 t l ht
  simp only [Nat.sub_zero] at k
  unfold frame
  rw [List.getElem?_append_left (List.getElem?_eq_some_iff.1 k).1]; exact k⟩ hm
 have hg : Run P T E (.gcall f (first ++ ls ++ cap) m n (resultLV ls') s'.m s'.n) := .gcall f fn c (first ++ ls ++ cap) m n x s' ls' hf hb hn hl h1 hx (eO h2 h3 hr)
 obtain ⟨rs, s2, k1, k2⟩ := kk _ h' s'.n hΦ hl' _ _ (hs.put hd (resultLV ls')) h3
 refine ⟨⟨i, [], [], true⟩ :: rs, s2, ?_, k2⟩
 rw [List.length_cons, List.range'_succ]
 refine .gdid oa i _ b ⟨s, m, n⟩ s2 rs _ _ (.tmp u) f first cap (resultLV ls') s'.m s'.n (by simpa using hi) rfl rfl rfl (dE hs hv) ?_ k1
 rw [dG (fun x l hx => dE hs hx) ha]
 exact hg
theorem Fz.weakH {K : Env → Hp → Prop} (a : Hp) (hs : Hp.le a h) (k : Fz N e a K) : Fz N e h K := fun s m hf hm => k s m hf fun t l hg => hm t l (hs t l hg)
end
def rq (q n x : Nat) : Nat := if x = q then 0 else rn n x + 1
theorem rq_self (q n : Nat) : rq q n q = 0 := if_pos rfl
theorem rq_lt {q n x : Nat} (h : x < n) (h2 : x ≠ q) : rq q n x = 1 := by unfold rq; rw [if_neg h2, rn_lt h]
theorem rq_add {q n : Nat} (h : q < n) (k : Nat) : rq q n (n + k) = k + 2 := by unfold rq; rw [if_neg om, iX]
end Go.Ab
namespace Go.Ab
def rq2 (a b n x : Nat) : Nat := if x = a then 0 else if x = b then 1 else rn n x + 2
theorem rq2_a (a b n : Nat) : rq2 a b n a = 0 := if_pos rfl
theorem rq2_b {a b n : Nat} (h : b ≠ a) : rq2 a b n b = 1 := by unfold rq2; rw [if_neg h, if_pos rfl]
theorem rq2_lt {a b n x : Nat} (h : x < n) (h1 : x ≠ a) (h2 : x ≠ b) : rq2 a b n x = 2 := by unfold rq2; rw [if_neg h1, if_neg h2, rn_lt h]
theorem rq2_add {a b n : Nat} (h1 : a < n) (h2 : b < n) (k : Nat) : rq2 a b n (n + k) = k + 3 := by unfold rq2; rw [if_neg om, if_neg om, iX]
end Go.Ab
namespace Go.Ab
open Go.RowKit
theorem WN.B {P : Program} {T : TT} {E : TypeId → Bool} {N : Nat} {oa : Array Oper} {i b n : Nat} {e : Env} {h : Hp} {Q : Env → Hp → Nat → Prop} {l : List Oper} {dst : Tmp} {p : Bool} (h1 : p = true → WN P T E N oa l i b ((dst, .v (.bool true)) :: e) h n Q) (h2 : p = false → WN P T E N oa l i b ((dst, .v (.bool false)) :: e) h n Q) : WN P T E N oa l i b ((dst, .v (.bool p)) :: e) h n Q := by
 cases p
 ·exact h2 rfl
 ·exact h1 rfl
theorem four_lt {n a b c d : Nat} {o1 o2 o3 o4 : Ob} (h1 : a < n) (h2 : b < n) (h3 : c < n) (h4 : d < n) : ∀ q o, getH [(a, o1), (b, o2), (c, o3), (d, o4)] q = some o → q < n := by
 intro q o hq
 by_cases e1 : a = q
 ·omega
 ·rw [g1 e1 rfl] at hq
  by_cases e2 : b = q
  ·omega
  ·rw [g1 e2 rfl] at hq
   by_cases e3 : c = q
   ·omega
   ·rw [g1 e3 rfl] at hq
    by_cases e4 : d = q
    ·omega
    ·rw [g1 e4 rfl] at hq; simp [getH] at hq
end Go.Ab
namespace Go.Ab
open Go.RowKit
def btB (p : Int) (a b : Rat) : Bool := if p = 1 then decide (a < b) else decide (b < a)
theorem btB_iff {p : Int} {a b : Rat} : btB p a b = true ↔ btr p a b := by
 unfold btB btr
 by_cases h : p = 1
 ·rw [if_pos h, if_pos h, decide_eq_true_eq]
 ·rw [if_neg h, if_neg h, decide_eq_true_eq]
theorem btr_irr {p : Int} {a : Rat} : ¬ btr p a a := by unfold btr; split <;> grind
def bkF (p : Int) (ys : Nat → Rat) : Nat → Nat
 | 0 => 0
 | i + 1 => if btB p (ys i) (ys (bkF p ys i)) = true then i else bkF p ys i
section
variable {p : Int} {ys : Nat → Rat}
theorem bkF_yes {i : Nat} (h : btr p (ys i) (ys (bkF p ys i))) : bkF p ys (i + 1) = i := if_pos (btB_iff.2 h)
theorem bkF_no {i : Nat} (h : ¬ btr p (ys i) (ys (bkF p ys i))) : bkF p ys (i + 1) = bkF p ys i := if_neg fun k => h (btB_iff.1 k)
theorem bkF_one : bkF p ys 1 = 0 := by rw [bkF_no btr_irr]; rfl
theorem qZ : ∀ n, 0 < n → bkF p ys n < n
 | 0, h => absurd h om
 | 1, _ => by rw [bkF_one]; decide
 | n + 2, _ => by
  have := qZ (n + 1) om
  unfold bkF
  split <;> omega
theorem btr_trans {a b c : Rat} (h1 : ¬ btr p a b) (h2 : ¬ btr p b c) : ¬ btr p a c := by
 unfold btr at *
 split at h1
 ·rename_i h; rw [if_pos h] at h2 ⊢; grind
 ·rename_i h; rw [if_neg h] at h2 ⊢; grind
theorem btr_asym {a b : Rat} (h : btr p a b) : ¬ btr p b a := by
 unfold btr at *
 split at h
 ·rename_i k; rw [if_pos k]; grind
 ·rename_i k; rw [if_neg k]; grind
theorem mW : ∀ n i, i < n → ¬ btr p (ys i) (ys (bkF p ys n))
 | 0, _, h => absurd h om
 | n + 1, i, h => by
  by_cases hb : btr p (ys n) (ys (bkF p ys n))
  ·rw [bkF_yes hb]
   by_cases e : i = n
   ·rw [e]; exact btr_irr
   ·exact btr_trans (mW n i om) (btr_asym hb)
  ·rw [bkF_no hb]
   by_cases e : i = n
   ·rw [e]; exact hb
   ·exact mW n i om
end
def ysF (x : ST) (d : Rat) (v : Nat → Rat) : Nat → Rat := fun k => yl d (x.2.2.getD k default) v
def bsK (x : ST) (d : Rat) (v : Nat → Rat) : Nat := bkF x.1.1 (ysF x d v) x.2.2.length
def bsV (x : ST) (d : Rat) (v : Nat → Rat) : Rat := ysF x d v (bsK x d v)
def isV (ss : List ST) (d : Rat) (v : Nat → Rat) : Bool := (List.range ss.length).all fun i => decide (bsV (ss.getD i default) d v = v i)
theorem isV_iff {ss : List ST} {d : Rat} {v : Nat → Rat} (h : DM ss d) : isV ss d v = true ↔ Val ss d v := by
 unfold isV
 rw [List.all_eq_true]
 constructor
 ·intro hv i hi
  have h1 : bsV (ss.getD i default) d v = v i := of_decide_eq_true (hv i (List.mem_range.2 hi))
  have hl := h.cs _ (bA hi)
  have hk := qZ (p := (ss.getD i default).1.1) (ys := ysF (ss.getD i default) d v) (ss.getD i default).2.2.length om
  refine ⟨⟨_, hk, h1.symm⟩, fun k hkl => ?_⟩
  have h2 := mW (p := (ss.getD i default).1.1) (ys := ysF (ss.getD i default) d v) (ss.getD i default).2.2.length k hkl
  have h3 : ysF (ss.getD i default) d v (bkF (ss.getD i default).1.1 (ysF (ss.getD i default) d v) (ss.getD i default).2.2.length) = v i := h1
  rw [h3] at h2
  unfold btr at h2
  by_cases ho : (ss.getD i default).1.1 = 1
  ·rw [if_pos ho] at h2 ⊢
   show v i ≤ ysF (ss.getD i default) d v k
   grind
  ·rw [if_neg ho] at h2 ⊢
   show ysF (ss.getD i default) d v k ≤ v i
   grind
 ·intro hv i hi
  have hi := List.mem_range.1 hi
  obtain ⟨⟨k, hk, e⟩, ha⟩ := hv i hi
  have hl := h.cs _ (bA hi)
  have hb := qZ (p := (ss.getD i default).1.1) (ys := ysF (ss.getD i default) d v) (ss.getD i default).2.2.length om
  have h2 := mW (p := (ss.getD i default).1.1) (ys := ysF (ss.getD i default) d v) (ss.getD i default).2.2.length k hk
  have h3 := ha _ hb
  refine decide_eq_true ?_
  show ysF (ss.getD i default) d v _ = v i
  have e' : v i = ysF (ss.getD i default) d v k := e
  unfold btr at h2
  by_cases ho : (ss.getD i default).1.1 = 1
  ·rw [if_pos ho] at h2 h3
   have h3' : v i ≤ ysF (ss.getD i default) d v (bkF (ss.getD i default).1.1 (ysF (ss.getD i default) d v) (ss.getD i default).2.2.length) := h3
   unfold bsK
   grind
  ·rw [if_neg ho] at h2 h3
   have h3' : ysF (ss.getD i default) d v (bkF (ss.getD i default).1.1 (ysF (ss.getD i default) d v) (ss.getD i default).2.2.length) ≤ v i := h3
   unfold bsK
   grind
def absR (x : Rat) : Rat := if x < 0 then -x else x
def gapF (ss : List ST) (d : Rat) (v : Nat → Rat) : Nat → Rat
 | 0 => 0
 | i + 1 => if gapF ss d v i < absR (bsV (ss.getD i default) d v - v i) then absR (bsV (ss.getD i default) d v - v i) else gapF ss d v i
def yds (ss : List ST) (d : Rat) (v : Nat → Rat) : List (List Rat) := tab ss.length fun i => tab (ss.getD i default).2.2.length (ysF (ss.getD i default) d v)
def eD (ss : List ST) (f : NM) (ns : List NM) : Int := if VMo ss = true ∧ VN f ∧ ns.all vn = true then if 0 < f.1 ∧ f.1 < f.2 then 0 else 6 else 1
theorem iV {ss : List ST} {f : NM} {ns : List NM} (h : eD ss f ns = 0) : VMo ss = true ∧ VN f ∧ ns.all vn = true ∧ 0 < f.1 ∧ f.1 < f.2 := by
 unfold eD at h
 by_cases h1 : VMo ss = true ∧ VN f ∧ ns.all vn = true
 ·rw [if_pos h1] at h
  by_cases h2 : 0 < f.1 ∧ f.1 < f.2
  ·exact ⟨h1.1, h1.2.1, h1.2.2, h2⟩
  ·rw [if_neg h2] at h; cases h
 ·rw [if_neg h1] at h; cases h
theorem gY {f : NM} (h : VN f) (h0 : 0 < f.1) (h1 : f.1 < f.2) : 0 < nq f ∧ nq f < 1 := by
 refine ⟨nq_pos h h0, ?_⟩
 unfold nq
 rw [Rat.divInt_eq_div]
 have e1 : (f.1 : Rat) < (f.2 : Rat) := by exact_mod_cast h1
 have e2 : (0 : Rat) < (f.2 : Rat) := by
  have : 0 < f.2 := by omega
  exact_mod_cast this
 generalize (f.1 : Rat) = p at *
 generalize (f.2 : Rat) = q at *
 apply Classical.byContradiction
 intro hn
 have h3 : 0 ≤ (p / q - 1) * q := Rat.mul_nonneg (by grind) (Rat.le_of_lt e2)
 have h4 : p / q * q = p := by grind
 grind
def bestO (ss : List ST) (d : Rat) (vv : List Rat) : LV :=
 match vv.mapM outN with
 | none => .tup [.sl 0 [], .sl 0 [], .v (.int .i64 3)]
 | some o => .tup [.sl (kd o.length) (o.map mc), .sl 1 ((tab ss.length fun i => ((bsK (ss.getD i default) d (fn_ vv) : Nat) : Int)).map ic), .v (.int .i64 0)]
theorem val_list {ss : List ST} {d : Rat} (h : DM ss d) {u v : List Rat} (hu : u.length = ss.length) (hv : v.length = ss.length) (h1 : Val ss d (fn_ u)) (h2 : Val ss d (fn_ v)) : u = v :=
 eW om fun i hi => (Val.uniq h h2 h1 i om)
end Go.Ab
namespace Go.Ab
open Go.RowKit
theorem vl_nx (ns : List NM) : vl (ns.map nx) = fn_ (ns.map nq) := by unfold vl; rw [List.map_map]; rfl
theorem sign_num0 {a b : Rat} : (a - b).num.sign = 0 ↔ a = b := by
 rw [Int.sign_eq_zero_iff_zero]
 constructor
 ·intro h
  have : a - b = 0 := Rat.num_eq_zero.1 h
  grind
 ·rintro rfl
  rw [Rat.sub_self]; rfl
def chkO (ss : List ST) (f : NM) (ns : List NM) : LV := if eD ss f [] = 0 then .tup [.v (.bool (decide (ns.length = ss.length) && ns.all vn && isV ss (nq f) (fn_ (ns.map nq)))), .v (.int .i64 0)] else .tup [.v (.bool false), .v (.int .i64 (eD ss f []))]
def ydM (ss : List ST) (f : NM) (ns : List NM) : Option (List (List NM)) := (yds ss (nq f) (fn_ (ns.map nq))).mapM fun r => r.mapM outN
def ydsO (ss : List ST) (f : NM) (ns : List NM) : LV := if eD ss f ns = 0 then if ns.length = ss.length then lvOM (ydM ss f ns) else .tup [.sl 0 [], .v (.int .i64 2)] else .tup [.sl 0 [], .v (.int .i64 (eD ss f ns))]
def gapO (ss : List ST) (f : NM) (ns : List NM) : LV := if eD ss f ns = 0 then if ns.length = ss.length then if (ydM ss f ns).isSome = true then lvO (outN (gapF ss (nq f) (fn_ (ns.map nq)) ss.length / (1 - nq f))) else .tup [lvM (0, 0), .v (.int .i64 3)] else .tup [lvM (0, 0), .v (.int .i64 2)] else .tup [lvM (0, 0), .v (.int .i64 (eD ss f ns))]
theorem eD_full {ss : List ST} {f : NM} {ns : List NM} (h : eD ss f [] = 0) (ha : ns.all vn = true) : eD ss f ns = 0 := by
 obtain ⟨h1, h2, _, h3, h4⟩ := iV h
 unfold eD; rw [if_pos ⟨h1, h2, ha⟩, if_pos ⟨h3, h4⟩]
theorem vn_all {ns : List NM} (h : ns.all vn = true) : ∀ a, a ∈ ns → VN a := fun a ha => of_decide_eq_true (List.all_eq_true.1 h a ha)
theorem nx_bd {ns : List NM} (h : ∀ a, a ∈ ns → VN a) : ∀ x, x ∈ ns.map nx → Bd 2 x.1 := fun x hx => by
 obtain ⟨a, ha, rfl⟩ := List.mem_map.1 hx
 exact (h a ha).bd
theorem bsK_lt {x : ST} {d : Rat} {v : Nat → Rat} (h : 1 ≤ x.2.2.length) : bsK x d v < x.2.2.length := qZ _ om
theorem jH {a b : LV} (ha : Data a) (hb : Data b) : Data (.tup [a, b]) := .tup _ (by intro c hc; simp only [List.mem_cons, List.not_mem_nil, or_false] at hc; rcases hc with rfl | rfl <;> assumption)
theorem jF {ss : List ST} {f : NM} {ns : List NM} : Data (chkO ss f ns) := by unfold chkO; split <;> exact jH (.v _) (.v _)
theorem lvOM_data (o : Option (List (List NM))) : Data (lvOM o) := jH (.sl _ _ fun row hr => aW dfM row hr) (.v _)
theorem pB {ss : List ST} {f : NM} {ns : List NM} : Data (ydsO ss f ns) := by
 unfold ydsO
 split
 ·split
  ·exact lvOM_data _
  ·exact jH (.sl _ _ (by simp)) (.v _)
 ·exact jH (.sl _ _ (by simp)) (.v _)
theorem lvO_data (o : Option NM) : Data (lvO o) := by cases o <;> exact jH (by simp) (.v _)
theorem lK {ss : List ST} {f : NM} {ns : List NM} : Data (gapO ss f ns) := by
 unfold gapO
 split
 ·split
  ·split
   ·exact lvO_data _
   ·exact jH (by simp) (.v _)
  ·exact jH (by simp) (.v _)
 ·exact jH (by simp) (.v _)
end Go.Ab
namespace Go.Ab
open Go.RowKit
theorem rK (o : Option NM) : lvO o = .tup [lvM (o.getD (0, 0)), .v (.int .i64 (if o.isSome = true then 0 else 3))] := by cases o <;> rfl
theorem fW {x : Rat} : x.num.sign < 0 ↔ x < 0 := by
 rw [Int.sign_neg_iff]
 have h := Rat.num_nonneg (q := x)
 constructor
 ·intro h1; apply Classical.byContradiction; intro h2; have := h.2 (by grind); omega
 ·intro h1; apply Classical.byContradiction; intro h2; have := h.1 om; grind
theorem iB {x : Rat} : 0 < x.num.sign ↔ 0 < x := by
 have h1 := fW (x := x)
 have h2 := eZ (q := x)
 constructor
 ·intro h; apply Classical.byContradiction; intro h3
  by_cases h4 : x = 0
  ·have := h2.2 h4; omega
  ·have := h1.2 (by grind); omega
 ·intro h; apply Classical.byContradiction; intro h3
  by_cases h4 : x.num.sign = 0
  ·have := h2.1 h4; grind
  ·have := h1.1 om; grind
theorem absR_neg {x : Rat} (h : x < 0) : absR x = -x := if_pos h
theorem absR_pos {x : Rat} (h : ¬ x < 0) : absR x = x := if_neg h
theorem gapF_yes {ss : List ST} {d : Rat} {v : Nat → Rat} {i : Nat} (h : gapF ss d v i < absR (bsV (ss.getD i default) d v - v i)) : gapF ss d v (i + 1) = absR (bsV (ss.getD i default) d v - v i) := if_pos h
theorem gapF_no {ss : List ST} {d : Rat} {v : Nat → Rat} {i : Nat} (h : ¬ gapF ss d v i < absR (bsV (ss.getD i default) d v - v i)) : gapF ss d v (i + 1) = gapF ss d v i := if_neg h
end Go.Ab
namespace Go.Ab
open Go.RowKit
theorem Bd_0 : Bd 2 (0 : Rat) := Bd_int (z := 0) (by decide)
theorem Bd_1 : Bd 2 (1 : Rat) := Bd_int (z := 1) (by decide)
theorem I64_1 : I64 1 := by unfold I64; omega
theorem I64_0 : I64 0 := by unfold I64; omega
theorem den1_ne {d : Rat} (h : d < 1) : (1 : Rat) + -d ≠ 0 := by grind
open Go.RowKit
def fewN (m : Nat) (ss : List ST) : Bool := !(decide (m < ss.length) && decide (ss.length ≤ 40)) && fewM ss
def few6 (ss : List ST) : Bool := fewN 6 ss
end Go.Ab
namespace Go.Ab
open Go.RowKit
end Go.Ab
namespace Go.Ab
open Go.RowKit
def ydE (ss : List ST) (f : NM) (ns : List NM) : Int := if eD ss f ns = 0 then if ns.length = ss.length then if (ydM ss f ns).isSome = true then 0 else 3 else 2 else eD ss f ns
theorem ydE_ok {ss : List ST} {f : NM} {ns : List NM} (h : ydE ss f ns = 0) : eD ss f ns = 0 ∧ ns.length = ss.length ∧ (ydM ss f ns).isSome = true := by
 unfold ydE at h
 by_cases h1 : eD ss f ns = 0
 ·rw [if_pos h1] at h
  by_cases h2 : ns.length = ss.length
  ·rw [if_pos h2] at h
   by_cases h3 : (ydM ss f ns).isSome = true
   ·exact ⟨h1, h2, h3⟩
   ·rw [if_neg h3] at h; cases h
  ·rw [if_neg h2] at h; cases h
 ·rw [if_neg h1] at h; exact absurd h h1
theorem gapO_ok {ss : List ST} {f : NM} {ns : List NM} (h : ydE ss f ns = 0) : gapO ss f ns = lvO (outN (gapF ss (nq f) (fn_ (ns.map nq)) ss.length / (1 - nq f))) := by
 obtain ⟨h1, h2, h3⟩ := ydE_ok h
 unfold gapO; rw [if_pos h1, if_pos h2, if_pos h3]
theorem gapO_no {ss : List ST} {f : NM} {ns : List NM} (h : ydE ss f ns ≠ 0) : gapO ss f ns = .tup [lvM (0, 0), .v (.int .i64 (ydE ss f ns))] := by
 unfold ydE at h ⊢
 unfold gapO
 by_cases h1 : eD ss f ns = 0
 ·rw [if_pos h1] at h ⊢
  rw [if_pos h1]
  by_cases h2 : ns.length = ss.length
  ·rw [if_pos h2] at h ⊢
   rw [if_pos h2]
   by_cases h3 : (ydM ss f ns).isSome = true
   ·rw [if_pos h3] at h; exact absurd rfl h
   ·rw [if_neg h3, if_neg h3]
  ·rw [if_neg h2, if_neg h2]
 ·rw [if_neg h1, if_neg h1]
open Go.RowKit
open Classical in
noncomputable def vals (ss : List ST) (d : Rat) : List Rat := if h : ∃ v : List Rat, v.length = ss.length ∧ Val ss d (fn_ v) then Classical.choose h else []
theorem qT {ss : List ST} {d : Rat} (hD : DM ss d) {v : List Rat} (hl : v.length = ss.length) (hv : Val ss d (fn_ v)) : vals ss d = v := by
 have h : ∃ v : List Rat, v.length = ss.length ∧ Val ss d (fn_ v) := ⟨v, hl, hv⟩
 have e : vals ss d = Classical.choose h := dif_pos h
 rw [e]
 exact val_list hD (Classical.choose_spec h).1 hl (Classical.choose_spec h).2 hv
noncomputable def dbO (ss : List ST) (f : NM) : LV := if eD ss f [] = 0 then bestO ss (nq f) (vals ss (nq f)) else .tup [.sl 0 [], .sl 0 [], .v (.int .i64 (eD ss f []))]
theorem dtup3 {a b c : LV} (ha : Data a) (hb : Data b) (hc : Data c) : Data (.tup [a, b, c]) := .tup _ (by intro x hx; simp only [List.mem_cons, List.not_mem_nil, or_false] at hx; rcases hx with rfl | rfl | rfl <;> assumption)
theorem mG {ss : List ST} {d : Rat} {v : List Rat} (h : v.mapM outN = none) : bestO ss d v = .tup [.sl 0 [], .sl 0 [], .v (.int .i64 3)] := by unfold bestO; rw [h]
theorem iL {ss : List ST} {d : Rat} {v : List Rat} {o : List NM} (h : v.mapM outN = some o) : bestO ss d v = .tup [.sl (kd o.length) (o.map mc), .sl 1 ((tab ss.length fun i => ((bsK (ss.getD i default) d (fn_ v) : Nat) : Int)).map ic), .v (.int .i64 0)] := by unfold bestO; rw [h]
theorem bestO_data {ss : List ST} {d : Rat} {v : List Rat} : Data (bestO ss d v) := by
 cases h : v.mapM outN with
 | none => rw [mG h]; exact dtup3 (.sl _ _ (by simp)) (.sl _ _ (by simp)) (.v _)
 | some o => rw [iL h]; exact dtup3 (.sl _ _ (aW nB)) (.sl _ _ (aW mA)) (.v _)
theorem dbO_data {ss : List ST} {f : NM} : Data (dbO ss f) := by
 unfold dbO
 split
 ·exact bestO_data
 ·exact dtup3 (.sl _ _ (by simp)) (.sl _ _ (by simp)) (.v _)
def awk (p : Int) : List ST := [((p, 0), (2, [((1, 1), (2, [(0, (1, 1))])), ((2, 1), (2, [(0, (1, 1))]))]))]
theorem awk_is (p : Int) (h : I64 p) : ∀ s, s ∈ awk p → IS s := by
 intro s hs
 simp only [awk, List.mem_cons, List.not_mem_nil, or_false] at hs
 subst hs
 refine ⟨h, I64_0, ?_⟩
 intro c hc
 simp only [List.mem_cons, List.not_mem_nil, or_false] at hc
 rcases hc with rfl | rfl <;> refine ⟨?_, ?_, ?_⟩ <;> simp [I64, IB]
theorem awk_data (p : Int) : Data (lvMo 2 (awk p)) := .agg _ fun c hc => by rw [List.mem_singleton] at hc; subst hc; exact .sl _ _ fun row hr c hc => dstc row hr c hc
theorem lT (k : Nat) (a : NM) : Data (.sl k [mc a]) := .sl _ _ fun row hr c hc => by rw [List.mem_singleton] at hr; subst hr; exact nB a c hc
theorem lM (k : Nat) (a : Int) : Data (.sl k [ic a]) := .sl _ _ fun row hr c hc => by rw [List.mem_singleton] at hr; subst hr; exact mA a c hc
theorem awk_e0 : eD (awk 0) (1, 2) [] = 0 := by decide +kernel
theorem awk_e1 : eD (awk 1) (1, 2) [] = 0 := by decide +kernel
theorem awk_DM {p : Int} (h : eD (awk p) (1, 2) [] = 0) : DM (awk p) (nq (1, 2)) := by
 obtain ⟨h1, h2, _, h3, h4⟩ := iV h
 exact gC h1 (gY h2 h3 h4).1 (gY h2 h3 h4).2
theorem awk_b0 : dbO (awk 0) (1, 2) = .tup [.sl 1 [mc (4, 1)], .sl 1 [ic 1], .v (.int .i64 0)] := by
 have hv : Val (awk 0) (nq (1, 2)) (fn_ [4]) := (isV_iff (awk_DM awk_e0)).1 (by decide +kernel)
 unfold dbO
 rw [if_pos awk_e0, qT (awk_DM awk_e0) (v := [4]) rfl hv, iL (o := [(4, 1)]) (by decide +kernel)]
 have h2 : (tab (awk 0).length fun i => ((bsK ((awk 0).getD i default) (nq (1, 2)) (fn_ [4]) : Nat) : Int)) = [1] := by decide +kernel
 rw [h2]; rfl
theorem awk_b1 : dbO (awk 1) (1, 2) = .tup [.sl 1 [mc (2, 1)], .sl 1 [ic 0], .v (.int .i64 0)] := by
 have hv : Val (awk 1) (nq (1, 2)) (fn_ [2]) := (isV_iff (awk_DM awk_e1)).1 (by decide +kernel)
 unfold dbO
 rw [if_pos awk_e1, qT (awk_DM awk_e1) (v := [2]) rfl hv, iL (o := [(2, 1)]) (by decide +kernel)]
 have h2 : (tab (awk 1).length fun i => ((bsK ((awk 1).getD i default) (nq (1, 2)) (fn_ [2]) : Nat) : Int)) = [0] := by decide +kernel
 rw [h2]; rfl
end Go.Ab
namespace Go.Ab
open Go.RowKit
end Go.Ab
namespace Go.Ab
open Go.RowKit
theorem gapO_pair (ss : List ST) (f : NM) (ns : List NM) : ∃ (g : NM) (e : Int), gapO ss f ns = .tup [lvM g, .v (.int .i64 e)] := by
 by_cases h : ydE ss f ns = 0
 ·rw [gapO_ok h, rK]; exact ⟨_, _, rfl⟩
 ·rw [gapO_no h]; exact ⟨_, _, rfl⟩
def chkB (ss : List ST) (f : NM) (ns : List NM) : Bool := decide (eD ss f [] = 0) && decide (ns.length = ss.length) && ns.all vn && isV ss (nq f) (fn_ (ns.map nq))
theorem chkO_pair (ss : List ST) (f : NM) (ns : List NM) : chkO ss f ns = .tup [.v (.bool (chkB ss f ns)), .v (.int .i64 (eD ss f []))] := by
 unfold chkO chkB
 by_cases h : eD ss f [] = 0
 ·rw [if_pos h, decide_eq_true h, Bool.true_and, h]
 ·rw [if_neg h, decide_eq_false h, Bool.false_and, Bool.false_and, Bool.false_and]
open Go.RowKit
open Classical in
noncomputable def wor (ss : List ST) (d : Rat) (st : List Int) : List Rat := if h : ∃ v : List Rat, v.length = ss.length ∧ WV ss d st (fn_ v) then Classical.choose h else []
theorem wor_eq {ss : List ST} {d : Rat} (hD : DM ss d) {st : List Int} (hst : vSt ss st = true) {v : List Rat} (hl : v.length = ss.length) (hv : WV ss d st (fn_ v)) : wor ss d st = v := by
 have h : ∃ v : List Rat, v.length = ss.length ∧ WV ss d st (fn_ v) := ⟨v, hl, hv⟩
 have e : wor ss d st = Classical.choose h := dif_pos h
 rw [e]
 exact eW (by rw [(Classical.choose_spec h).1, hl]) fun i hi => WV.uniq hD hst (Classical.choose_spec h).2 hv i (by rw [(Classical.choose_spec h).1] at hi; exact hi)
noncomputable def ofO (ss : List ST) (f : NM) (st : List Int) : LV := if eD ss f [] = 1 ∨ vSt ss st = false then .tup [.sl 0 [], .v (.int .i64 1)] else if eD ss f [] = 0 then lvOV ((wor ss (nq f) st).mapM outN) else .tup [.sl 0 [], .v (.int .i64 (eD ss f []))]
def stp (ss : List ST) (d : Rat) : Nat → List Rat
 | 0 => tab ss.length fun _ => 0
 | t + 1 => tab ss.length fun i => bsV (ss.getD i default) d (fn_ (stp ss d t))
theorem oA (ss : List ST) (d : Rat) : ∀ t, (stp ss d t).length = ss.length
 | 0 => cK _ _
 | t + 1 => cK _ _
def stO (ss : List ST) (f : NM) (n : Int) : LV := if eD ss f [] = 0 then if 0 ≤ n ∧ n ≤ 1000 then lvOV ((stp ss (nq f) n.toNat).mapM outN) else .tup [.sl 0 [], .v (.int .i64 6)] else .tup [.sl 0 [], .v (.int .i64 (eD ss f []))]
theorem lvOV_data (o : Option (List NM)) : Data (lvOV o) := jH (.sl _ _ (aW nB)) (.v _)
theorem nN {ss : List ST} {f : NM} {st : List Int} : Data (ofO ss f st) := by
 unfold ofO
 split
 ·exact jH (.sl _ _ (by simp)) (.v _)
 ·split
  ·exact lvOV_data _
  ·exact jH (.sl _ _ (by simp)) (.v _)
theorem nZ {ss : List ST} {f : NM} {n : Int} : Data (stO ss f n) := by
 unfold stO
 split
 ·split
  ·exact lvOV_data _
  ·exact jH (.sl _ _ (by simp)) (.v _)
 ·exact jH (.sl _ _ (by simp)) (.v _)
def CO (D C : Nat) (x : Rat) : Prop := ∃ a : Int, x * (D : Rat) = (a : Rat) ∧ a.natAbs * 16 ≤ C
theorem CO.mean {D C t : Nat} {d : Rat} {bs : List BR} {v : Nat → Rat} (hc : ∀ b, b ∈ bs → CO D C (d * nq b.2)) (hv : ∀ j, QB D C 8 t (v j)) : ∀ i, i ≤ bs.length → ∃ z : Int, (d * mnF bs v i) * (D : Rat) ^ (t + 1) = (z : Rat) ∧ z.natAbs * 16 ≤ i * C ^ (t + 1)
 | 0, _ => ⟨0, by unfold mnF; rw [Rat.mul_zero, Rat.zero_mul]; rfl, by simp⟩
 | i + 1, hi => by
  obtain ⟨z, h1, h2⟩ := CO.mean hc hv i om
  obtain ⟨a, h3, h4⟩ := hc _ (bA (us := bs) (i := i) om)
  obtain ⟨q, h5, h6⟩ := hv (bs.getD i default).1.toNat
  refine ⟨z + a * q, ?_, ?_⟩
  ·have e : (d * mnF bs v (i + 1)) * (D : Rat) ^ (t + 1) = (d * mnF bs v i) * (D : Rat) ^ (t + 1) + (d * nq (bs.getD i default).2 * (D : Rat)) * (v (bs.getD i default).1.toNat * (D : Rat) ^ t) := by
    rw [show mnF bs v (i + 1) = mnF bs v i + nq (bs.getD i default).2 * v (bs.getD i default).1.toNat from rfl, Rat.pow_succ]
    generalize (D : Rat) ^ t = p
    grind
   rw [e, h1, h3, h5, Rat.intCast_add, Rat.intCast_mul]
  ·have h7 := Int.natAbs_add_le z (a * q)
   rw [Int.natAbs_mul] at h7
   have h8 : (a.natAbs * 16) * q.natAbs ≤ C * C ^ t := Nat.mul_le_mul h4 om
   rw [← Nat.pow_succ'] at h8
   replace h8 : _ ≤ C ^ (t + 1) := h8
   have h9 : (a.natAbs * 16) * q.natAbs = a.natAbs * q.natAbs * 16 := by rw [Nat.mul_right_comm]
   rw [h9] at h8
   rw [Nat.succ_mul]
   omega
theorem CO.step {D C t : Nat} {d : Rat} {c : CH} {v : Nat → Rat} (hr : CO D C (nq c.1)) (hc : ∀ b, b ∈ c.2.2 → CO D C (d * nq b.2)) (hv : ∀ j, QB D C 8 t (v j)) (hl : c.2.2.length ≤ 8) (hDC : D ≤ C) : QB D C 8 (t + 1) (yl d c v) := by
 obtain ⟨z, h1, h2⟩ := CO.mean hc hv c.2.2.length (Nat.le_refl _)
 obtain ⟨a, h3, h4⟩ := hr
 refine ⟨z + a * ((D ^ t : Nat) : Int), ?_, ?_⟩
 ·have e : yl d c v * (D : Rat) ^ (t + 1) = (d * mnF c.2.2 v c.2.2.length) * (D : Rat) ^ (t + 1) + (nq c.1 * (D : Rat)) * (D : Rat) ^ t := by
   unfold yl mn
   rw [Rat.pow_succ]
   generalize (D : Rat) ^ t = p
   grind
  rw [e, h1, h3, Rat.intCast_add, Rat.intCast_mul, Rat.intCast_natCast, Rat.natCast_pow]
 ·have h7 := Int.natAbs_add_le z (a * ((D ^ t : Nat) : Int))
  rw [Int.natAbs_mul, Int.natAbs_natCast] at h7
  have h8 : (a.natAbs * 16) * D ^ t ≤ C * C ^ t := Nat.mul_le_mul h4 (Nat.pow_le_pow_left hDC t)
  rw [← Nat.pow_succ'] at h8
  replace h8 : _ ≤ C ^ (t + 1) := h8
  have h9 : (a.natAbs * 16) * D ^ t = a.natAbs * D ^ t * 16 := by rw [Nat.mul_right_comm]
  rw [h9] at h8
  have h10 : c.2.2.length * C ^ (t + 1) ≤ 8 * C ^ (t + 1) := Nat.mul_le_mul_right _ hl
  omega
theorem kV {α β : Type} {f : α → List β} {m : Nat} : ∀ {l : List α}, (∀ x, x ∈ l → (f x).length ≤ m) → (l.flatMap f).length ≤ l.length * m
 | [], _ => by simp
 | x :: l, h => by
  rw [List.flatMap_cons, List.length_append, List.length_cons, Nat.succ_mul]
  have h1 := kV (l := l) fun y hy => h y (by simp [hy])
  have h2 := h x (by simp)
  omega
def nums (ss : List ST) (d : Rat) : List Rat := ss.flatMap fun s => s.2.2.flatMap fun c => nq c.1 :: c.2.2.map fun b => d * nq b.2
theorem CO.base {W : List Rat} (h : ∀ x, x ∈ W → Bd 4 x) (hl : W.length ≤ 2880) : ∃ D C e : Nat, e = 11525 ∧ 0 < D ∧ D ≤ C ∧ D ≤ 4294967296 ^ e ∧ C ≤ 4294967296 ^ e ∧ ∀ x, x ∈ W → CO D C x := by
 obtain ⟨a, ha⟩ : ∃ a : Nat, a = 11520 := ⟨_, rfl⟩
 have hD : dd W ≤ 4294967296 ^ a := by
  refine Nat.le_trans (dd_le (b := 4294967296 ^ 4) fun x hx => Nat.le_of_lt (h x hx).abs.2) ?_
  rw [← Nat.pow_mul]
  exact Nat.pow_le_pow_right (by decide) om
 refine ⟨dd W, 16 * (4294967296 ^ 4 * dd W), a + 5, om, rB _, ?_, Nat.le_trans hD (Nat.pow_le_pow_right (by decide) om), ?_, fun x hx => ?_⟩
 ·have := rB W
  have h2 : dd W ≤ 4294967296 ^ 4 * dd W := Nat.le_mul_of_pos_left _ (by decide)
  omega
 ·rw [Nat.add_comm, Nat.pow_add, show (4294967296 : Nat) ^ 5 = 4294967296 * 4294967296 ^ 4 by decide +kernel, Nat.mul_assoc]
  exact Nat.mul_le_mul (by decide) (Nat.mul_le_mul_left _ hD)
 ·obtain ⟨q, hq⟩ := dd_dvd hx
  have hb := (h x hx).abs.1
  have hdq : q ≤ dd W := by
   have := x.den_pos
   rw [hq]; exact Nat.le_mul_of_pos_left q this
  have hxd : x * (x.den : Rat) = (x.num : Rat) := by
   have h1 : x = (x.num : Rat) / ((x.den : Int) : Rat) := by rw [← Rat.divInt_eq_div, Rat.num_divInt_den]
   have h2 : ((x.den : Int) : Rat) ≠ 0 := by
    intro h0
    have : (x.den : Int) = 0 := by exact_mod_cast h0
    have := x.den_pos
    omega
   rw [← Rat.intCast_natCast]
   conv => lhs; lhs; rw [h1]
   exact Rat.div_mul_cancel h2
  refine ⟨x.num * (q : Int), ?_, ?_⟩
  ·rw [hq, Rat.natCast_mul, ← Rat.mul_assoc, hxd, Rat.intCast_mul, Rat.intCast_natCast]
  ·rw [Int.natAbs_mul, Int.natAbs_natCast, Nat.mul_comm _ 16]
   exact Nat.mul_le_mul_left 16 (Nat.mul_le_mul (Nat.le_of_lt hb) hdq)
theorem fn_QB {D C t : Nat} {v : List Rat} (h : ∀ x, x ∈ v → QB D C 8 t x) (j : Nat) : QB D C 8 t (fn_ v j) := by
 unfold fn_
 by_cases hj : j < v.length
 ·exact h _ (bA hj)
 ·rw [show v.getD j default = default by rw [List.getD_eq_getElem?_getD, List.getElem?_eq_none om]; rfl]
  exact ⟨0, Rat.zero_mul _, by simp⟩
theorem stp_bd {ss : List ST} {d : Rat} (hV : VMo ss = true) (hn : ss.length ≤ 40) (hcs : ∀ x, x ∈ ss → 1 ≤ x.2.2.length ∧ x.2.2.length ≤ 8) (hd : Bd 2 d) : ∀ t, t ≤ 1000 → ∀ x, x ∈ stp ss d t → Bd 12000000 x := by
 have hW : ∀ x, x ∈ nums ss d → Bd 4 x := fun x hx => by
  obtain ⟨s, hs, hx⟩ := List.mem_flatMap.1 hx
  obtain ⟨c, hc, hx⟩ := List.mem_flatMap.1 hx
  obtain ⟨hr, hb⟩ := eT hV hs hc
  rcases List.mem_cons.1 hx with rfl | hx
  ·exact hr.bd.mono (by decide)
  ·obtain ⟨b, hb2, rfl⟩ := List.mem_map.1 hx
   obtain ⟨i, hi, rfl⟩ := List.getElem_of_mem hb2
   have := hb.vn i hi
   rw [List.getD_eq_getElem?_getD, List.getElem?_eq_getElem hi] at this
   exact (hd.mul this.bd).mono (by decide)
 have hWl : (nums ss d).length ≤ 2880 := by
  refine Nat.le_trans (kV (m := 72) fun s hs => Nat.le_trans (kV (m := 9) fun c hc => ?_) ?_) om
  ·have := (eT hV hs hc).2.len
   rw [List.length_cons, List.length_map]; omega
  ·have := hcs s hs; omega
 obtain ⟨D, C, e, he, h1, h2, h3, h4, h5⟩ := CO.base hW hWl
 have key : ∀ t, ∀ x, x ∈ stp ss d t → QB D C 8 t x := by
  intro t
  induction t with
  | zero =>
   intro x hx
   obtain ⟨i, _, rfl⟩ := List.mem_map.1 hx
   exact ⟨0, Rat.zero_mul _, by simp⟩
  | succ t ih =>
   intro x hx
   obtain ⟨i, hi, rfl⟩ := List.mem_map.1 hx
   have hi := List.mem_range.1 hi
   have hm := bA (us := ss) hi
   have hk := bsK_lt (d := d) (v := fn_ (stp ss d t)) (x := ss.getD i default) (hcs _ hm).1
   have hcm := bA (us := (ss.getD i default).2.2) hk
   have hin : ∀ y, y ∈ (nq ((ss.getD i default).2.2.getD (bsK (ss.getD i default) d (fn_ (stp ss d t))) default).1 :: ((ss.getD i default).2.2.getD (bsK (ss.getD i default) d (fn_ (stp ss d t))) default).2.2.map fun b => d * nq b.2) → y ∈ nums ss d := fun y hy => List.mem_flatMap.2 ⟨_, hm, List.mem_flatMap.2 ⟨_, hcm, hy⟩⟩
   exact CO.step (h5 _ (hin _ (by simp))) (fun b hb => h5 _ (hin _ (by simp only [List.mem_cons, List.mem_map]; exact .inr ⟨b, hb, rfl⟩))) (fn_QB ih) (eT hV hm hcm).2.len.2 h2
 intro t ht x hx
 refine ((key t x hx).bd h1 h3 h4 (by decide)).mono ?_
 rw [he]; omega
end Go.Ab
namespace Go.Ab
theorem rep_tab {α : Type} [Inhabited α] (n : Nat) (c : α) : List.replicate n c = tab n fun _ => c := eW (by rw [List.length_replicate, cK]) fun i hi => by
 rw [List.length_replicate] at hi
 rw [show (tab n fun _ => c).getD i default = c from dT hi, List.getD_eq_getElem?_getD, List.getElem?_replicate, if_pos hi]; rfl
end Go.Ab
namespace Go.Ab
theorem fewN_len {m : Nat} {ss : List ST} (h : fewN m ss = true) : ss.length ≤ 45 ∧ ∀ x, x ∈ ss → x.2.2.length ≤ 10 ∧ ∀ c, c ∈ x.2.2 → c.2.2.length ≤ 10 := by
 unfold fewN fewM at h
 rw [Bool.and_eq_true, Bool.and_eq_true] at h
 refine ⟨of_decide_eq_true h.2.1, fun x hx => ?_⟩
 have h1 := List.all_eq_true.1 h.2.2 x hx
 unfold fewS at h1
 rw [Bool.and_eq_true] at h1
 exact ⟨of_decide_eq_true h1.1, fun c hc => of_decide_eq_true (List.all_eq_true.1 h1.2 c hc)⟩
theorem few6_len {ss : List ST} (h : few6 ss = true) : ss.length ≤ 45 ∧ ∀ x, x ∈ ss → x.2.2.length ≤ 10 ∧ ∀ c, c ∈ x.2.2 → c.2.2.length ≤ 10 := fewN_len h
end Go.Ab
namespace Go.Ab
open Go.RowKit
theorem wor_len (ss : List ST) (d : Rat) (st : List Int) : (wor ss d st).length ≤ ss.length := by
 unfold wor
 split
 ·rename_i h; rw [(Classical.choose_spec h).1]; omega
 ·exact Nat.zero_le _
open Go.RowKit
section
variable {ss : List ST} {st : List Int}
end
theorem vals_len (ss : List ST) (d : Rat) : (vals ss d).length ≤ ss.length := by
 unfold vals
 split
 ·rename_i h; rw [(Classical.choose_spec h).1]; exact Nat.le_refl _
 ·exact Nat.zero_le _
end Go.Ab
namespace Go.Ab
end Go.Ab
namespace Go.Ab
open Go.RowKit
end Go.Ab
namespace Go.Ab
open Go.RowKit
end Go.Ab
namespace Go.Ab
open Go.RowKit
theorem outs_all {v : List Rat} {o : List NM} (h : v.mapM outN = some o) : o.map nq = v ∧ ∀ a, a ∈ o → VN a := by
 induction v generalizing o with
 | nil => cases h; exact ⟨rfl, by simp⟩
 | cons x v ih =>
  rw [List.mapM_cons] at h
  cases h1 : outN x with
  | none => rw [h1] at h; cases h
  | some a =>
   cases h2 : v.mapM outN with
   | none => rw [h1, h2] at h; cases h
   | some u =>
    rw [h1, h2] at h; cases h
    obtain ⟨h3, h4⟩ := ih h2
    obtain ⟨h5, h6⟩ := outN_some h1
    exact ⟨by rw [List.map_cons, h3, h6], fun b hb => by rcases List.mem_cons.1 hb with rfl | hb; exact h5; exact h4 b hb⟩
end Go.Ab
namespace Go.Ab
open Go.RowKit
open Go.RowKit
section
variable {n : Nat} {r : Int} {f : NM} (hd : 0 < nq f ∧ nq f < 1)
include hd
end
theorem wrap_u8 {b : Int} (h : 0 ≤ b ∧ b ≤ 255) : IntKind.i64.wrap b = b := by
 have h1 : -9223372036854775808 ≤ b ∧ b ≤ 9223372036854775807 := by omega
 unfold IntKind.wrap
 simp [IntKind.bits, IntKind.signed]
 omega
end Go.Ab
namespace Go.Ab
open Go.RowKit
section
variable {P : Program} {T : TT} {E : TypeId → Bool} {N : Nat} {oa : Array Oper} {i b : Nat} {e : Env} {h : Hp} {Q : Env → Hp → Nat → Prop}
def Both (n : Nat) (h h' hh : Hp) : Prop := ∀ q o, getH hh q = some o → (q < n ∧ getH h q = some o) ∨ (n ≤ q ∧ getH h' q = some o)
theorem Both.cons {n : Nat} {h h' hh : Hp} {q : Nat} {o : Ob} (k : (q < n ∧ getH h q = some o) ∨ (n ≤ q ∧ getH h' q = some o)) (hb : Both n h h' hh) : Both n h h' ((q, o) :: hh) := fun r x hr => by
 simp only [getH] at hr
 split at hr
 ·rename_i hq; have := Nat.eq_of_beq_eq_true hq; subst this; cases hr; exact k
 ·exact hb r x hr
theorem Both.old {n : Nat} {h h' : Hp} (hl : ∀ q o, getH h q = some o → q < n) : Both n h h' h := fun q o hq => .inl ⟨hl q o hq, hq⟩
theorem Both.nil {n : Nat} {h h' : Hp} : Both n h h' [] := fun q o hq => by simp [getH] at hq
theorem WN.F {cal : Operand} {fn : Func} {f : FuncId} {c : Code} {args : Array Operand} {at_ : Array TypeId} {t : TypeId} {pos : String} {af : Array Edge} {l : List Oper} {dst : Tmp} {first cap ls as_ : List LV} {n : Nat} {Φ : LV → Hp → Nat → Prop} (d : Delta) (hv : evE e cal = some (.fn (.func f) first cap)) (ha : argsE e args.toList = some ls)
  (hs : SnapA h d (first ++ ls ++ cap) as_) (hz : ∀ p, p ∈ d → ∃ o, getH h p.1 = some o ∧ o.st ≠ 2 ∧ p.2 = { o with st := 1 }) (hf : P.funcs[f]? = some fn) (hb : fn.body = some c) (hn : (fn.name == "runtime.NumGoroutine") = false) (hl : as_.length ≤ fn.ntmps) (hd : Nat.blt dst N = true)
  (k : WC P T E fn.ntmps c (argsEnv 0 as_) [] n (fun x e' h' n' => (x = .normal ∨ x = .ret) ∧ ∃ ls', resE e' T h' fn.results.toList = some ls' ∧ Φ (resultLV ls') h' n'))
  (kk : ∀ r h' n', Φ r h' n' → ∃ hh, Both n (appH d h) h' hh ∧ WN P T E N oa l (i + 1) b ((dst, r) :: e) hh n' Q) :
  WN P T E N oa (⟨some dst, .call { callee := .value cal, args := args, argTypes := at_ }, t, pos, af, none⟩ :: l) i b e h n Q := by
 intro hdr s m hs' hm
 obtain ⟨hi, hl'⟩ := eR hdr
 obtain ⟨x, s', h1, e', h', h2, h3, hx, ls', hr, hΦ⟩ := k (frame fn as_) (fun _ => none) ⟨by simp [frame]; omega, fun t l ht => by
  obtain ⟨_, k⟩ := eK as_ 0 t l ht
  simp only [Nat.sub_zero] at k
  unfold frame
  rw [List.getElem?_append_left (List.getElem?_eq_some_iff.1 k).1]; exact k⟩ (fun k o hk => by simp [getH] at hk)
 have hg : Run P T E (.gcall f as_ (fun _ => none) n (resultLV ls') s'.m s'.n) := .gcall f fn c as_ _ n x s' ls' hf hb hn hl h1 hx (eO h2 h3 hr)
 obtain ⟨hh, hbo, hk⟩ := kk _ h' s'.n hΦ
 have hm2 := hm.app d
 obtain ⟨rs, s2, k1, k2⟩ := hk hl' _ (mix n (app d m) s'.m) (hs'.put hd (resultLV ls')) (fun q o hq => by
  rcases hbo q o hq with ⟨q1, q2⟩ | ⟨q1, q2⟩
  ·rw [gV q1]; exact hm2 q o q2
  ·rw [gU om]; exact h3 q o q2)
 refine ⟨⟨i, [], [], true⟩ :: rs, s2, ?_, k2⟩
 rw [List.length_cons, List.range'_succ]
 refine .gdid oa i _ b ⟨s, m, n⟩ s2 rs _ _ cal f first cap (resultLV ls') (mix n (app d m) s'.m) s'.n (by simpa using hi) rfl rfl rfl (dE hs' hv) ?_ k1
 rw [dG (fun x l hx => dE hs' hx) ha]
 exact .frame f _ as_ m s'.m n s'.n _ d (hs.snap hm) (fun p hp => by obtain ⟨o, k1, k2, k3⟩ := hz p hp; exact ⟨o, hm _ _ k1, k2, k3⟩) hg
end
def famH (a : Nat → Nat) (o : Nat → Option Ob) (h : Hp) : Nat → Hp
 | 0 => h
 | n + 1 => match o n with
  | some x => (a n, x) :: famH a o h n
  | none => famH a o h n
theorem eB {a : Nat → Nat} {o : Nat → Option Ob} {h : Hp} {q : Nat} : ∀ n, (∀ i, i < n → a i ≠ q) → getH (famH a o h n) q = getH h q
 | 0, _ => rfl
 | n + 1, hq => by
  have ih := eB (a := a) (o := o) (h := h) (q := q) n fun i hi => hq i om
  unfold famH
  split
  ·have : Nat.beq (a n) q = false := by
    cases hb : Nat.beq (a n) q with
    | false => rfl
    | true => exact absurd (Nat.eq_of_beq_eq_true hb) (hq n om)
   simp only [getH, this]; exact ih
  ·exact ih
theorem kU {a : Nat → Nat} {o : Nat → Option Ob} {h : Hp} {x : Ob} : ∀ n {i}, i < n → o i = some x → (∀ j, j < n → a j = a i → j = i) → getH (famH a o h n) (a i) = some x
 | 0, i, hi, _, _ => absurd hi om
 | n + 1, i, hi, hx, ha => by
  by_cases e : i = n
  ·subst e
   unfold famH
   rw [hx]
   exact g0
  ·have ih := kU (a := a) (o := o) (h := h) (x := x) n (i := i) om hx fun j hj => ha j om
   unfold famH
   split
   ·exact g1 (fun h => e (ha n om h).symm) ih
   ·exact ih
theorem mO {a : Nat → Nat} {o : Nat → Option Ob} {h H : Hp} : ∀ n, (∀ i, i < n → ∀ x, o i = some x → getH H (a i) = some x) → subsM h H → subsM (famH a o h n) H
 | 0, _, hs => hs
 | n + 1, hg, hs => by
  have ih := mO (a := a) (o := o) (h := h) (H := H) n (fun i hi => hg i om) hs
  unfold famH
  split
  ·rename_i x hx; exact ⟨hg n om x hx, ih⟩
  ·exact ih
theorem Both.fam {n : Nat} {h h' hh : Hp} {a : Nat → Nat} {o : Nat → Option Ob} : ∀ m, (∀ t, t < m → n ≤ a t ∧ ∀ x, o t = some x → getH h' (a t) = some x) → Both n h h' hh → Both n h h' (famH a o hh m)
 | 0, _, hb => hb
 | m + 1, hg, hb => by
  have ih := Both.fam (a := a) (o := o) m (fun t ht => hg t om) hb
  unfold famH
  split
  ·rename_i x hx; exact .cons (.inr ⟨(hg m om).1, (hg m om).2 x hx⟩) ih
  ·exact ih
end Go.Ab
namespace Go.Ab
open Go.RowKit
section
variable {P : Program} {T : TT} {E : TypeId → Bool} {N : Nat} {e : Env} {h : Hp}
variable {dst : Option Tmp} {ty : TypeId} {pos : String} {af : Array Edge} {g : Option (Nat × Bool)} {id : Nat} {x y : Operand} {bt : TypeId} {ti : TI}
theorem resE_cell {r : Nat} {ob : Ob} {l : LV} {u v : Nat} (he : e.get u = some (.ptr r 0)) (hT : T v = some ti) (hr : getH h r = some ob) (h2 : Nat.beq ob.st 2 = false) (hl : loadLV ti ob.cells = some l) : resE e T h [.cell u v] = some [l] := by
 have h3 := Nat.ne_of_beq_eq_false h2
 simp [resE, he, hT, cellsH, hr, h3, hl]
end
end Go.Ab
namespace Go.Ab
open Go.RowKit
def obN (e : TypeId) (us : List NM) : Ob := { cells := (us.map mc).flatten, sz := 2, elem := e, st := 0 }
def opN (e : TypeId) (us : List NM) : Option Ob := match us with
 | [] => none
 | u :: us => some (obN e (u :: us))
theorem nO {e : TypeId} {us : List NM} {x : Ob} (h : opN e us = some x) : us ≠ [] ∧ x = obN e us := by
 cases us with
 | nil => cases h
 | cons u us => cases h; exact ⟨by simp, rfl⟩
theorem opN_ne {e : TypeId} {us : List NM} (h : us ≠ []) : opN e us = some (obN e us) := by
 cases us with
 | nil => exact absurd rfl h
 | cons u us => rfl
def rwC (a : Nat → Nat) (R : List (List NM)) : List (List LV) := tab R.length fun t => [outV (a t) 2 ((R.getD t []).map mc)]
theorem iW (a : Nat → Nat) (R : List (List NM)) : (rwC a R).length = R.length := cK _ _
theorem rwC_row {a : Nat → Nat} {R : List (List NM)} : ∀ row, row ∈ rwC a R → row.length = 1 := fun row hr => by
 obtain ⟨t, _, rfl⟩ := tab_mem.1 hr; rfl
theorem rwC_snoc {a : Nat → Nat} {R : List (List NM)} {o : List NM} {b i : Nat} (hl : R.length = i) : rwC (fun t => if t = i then b else a t) (R ++ [o]) = rwC a R ++ [[outV b 2 (o.map mc)]] := by
 unfold rwC
 rw [List.length_append, show R.length + [o].length = R.length + 1 from rfl, gA, hl]
 dsimp only
 rw [if_pos rfl]
 congr 1
 ·exact tab_eq fun t ht => by
   rw [if_neg (show ¬ t = i by omega)]
   simp only [List.getD_eq_getElem?_getD]
   rw [List.getElem?_append_left om]
 ·simp only [List.getD_eq_getElem?_getD]
  rw [List.getElem?_append_right om, hl, Nat.sub_self]; rfl
theorem getD_snoc {R : List (List NM)} {o : List NM} {t i : Nat} (hl : R.length = i) : (R ++ [o]).getD t [] = if t = i then o else R.getD t [] := by
 simp only [List.getD_eq_getElem?_getD]
 by_cases e : t = i
 ·rw [if_pos e, List.getElem?_append_right om, hl, e, Nat.sub_self]; rfl
 ·rw [if_neg e]
  by_cases h : t < i
  ·rw [List.getElem?_append_left om]
  ·rw [List.getElem?_eq_none (by rw [List.length_append]; show R.length + 1 ≤ t; omega), List.getElem?_eq_none om]
structure OwnM (h : Hp) (e1 e2 : TypeId) (lo hi q : Nat) (a : Nat → Nat) (R : List (List NM)) : Prop where
 ql : lo ≤ q
 qh : q < hi
 at_ : ∀ t, t < R.length → lo ≤ a t ∧ a t < hi ∧ a t ≠ q
 inj : ∀ s t, s < R.length → t < R.length → a s = a t → s = t
 top : R ≠ [] → getH h q = some { cells := (rwC a R).flatten, sz := 1, elem := e1, st := 0 }
 row : ∀ t, t < R.length → R.getD t [] ≠ [] → getH h (a t) = some (obN e2 (R.getD t []))
theorem OwnM.mono {h h' : Hp} {e1 e2 : TypeId} {lo hi lo' hi' q : Nat} {a : Nat → Nat} {R : List (List NM)} (k : OwnM h e1 e2 lo hi q a R) (hl : lo' ≤ lo) (hh : hi ≤ hi') (hg : ∀ r o, lo ≤ r → r < hi → getH h r = some o → getH h' r = some o) : OwnM h' e1 e2 lo' hi' q a R :=
 ⟨by have := k.ql; omega, by have := k.qh; omega, fun t ht => by have := k.at_ t ht; omega, k.inj, fun hr => hg _ _ k.ql k.qh (k.top hr), fun t ht hr => hg _ _ (k.at_ t ht).1 (k.at_ t ht).2.1 (k.row t ht hr)⟩
theorem OwnM.nil {h : Hp} {e1 e2 : TypeId} {lo hi q : Nat} {a : Nat → Nat} (h1 : lo ≤ q) (h2 : q < hi) : OwnM h e1 e2 lo hi q a [] :=
 ⟨h1, h2, fun t ht => absurd ht (by simp), fun s t hs => absurd hs (by simp), fun h => absurd rfl h, fun t ht => absurd ht (by simp)⟩
open Go.RowKit
def kd2 (n : Nat) : Nat := if n = 0 then 2 else 1
section
variable {P : Program} {T : TT} {E : TypeId → Bool} {N : Nat} {oa : Array Oper} {i b d : Nat} {e : Env} {h : Hp}
variable {ty : TypeId} {pos : String} {af : Array Edge} {x y : Operand} {bt xt el el2 el3 : TypeId} {te : TI} {l : List Oper}
theorem oApNil {dst : Option Tmp} {g : Option (Nat × Bool)} {id k : Nat} (hT : dsc T bt = some (.sl el)) (hT2 : dsc T xt = some (.sl el2)) (hE : T el = some te) (hx : evE e x = some (.sl 2 [])) (hy : evE e y = some (.sl k [])) (h0 : 0 < te.size) :
  OP P T E ⟨dst, .call { callee := .builtin .append, args := #[x, y], argTypes := #[bt, xt] }, ty, pos, af, g⟩ id e h (.sl 2 []) [] [] := .mk fun s m hs hm => ⟨by
 have e6 : flat m te.size (.sl k []) = some ([], 0) := lJ h0 (by simp)
 have e7 : appendLV T bt xt (.sl 2 []) (.sl k []) m id = some (.sl 2 [], []) := by
  unfold appendLV
  simp only [hT, hT2, hE, e6]
  rfl
 simp only [aop, builtinLV, List.map_cons, List.map_nil, hs x _ hx, hs y _ hy, Array.getD_eq_getD_getElem?]
 exact e7, by simp [rds, hs x _ hx, hs y _ hy, idsOf]⟩
theorem oApSR {dst : Option Tmp} {g : Option (Nat × Bool)} {id q : Nat} {rows : List (List LV)} (hT : dsc T bt = some (.sl el)) (hT2 : dsc T xt = some (.sl el2)) (hE : T el = some te) (hx : evE e x = some (.sl 2 [])) (hy : evE e y = some (.ref q te.size 0 rows.length)) (h0 : 0 < te.size) (hrow : ∀ row, row ∈ rows → row.length = te.size) (hne : 0 < rows.length)
  (hq : getH h q = some { cells := rows.flatten, sz := te.size, elem := el3, st := 0 }) (hb : (2 * (0 + rows.length) + 256) * te.bytes ≤ 2 ^ 48) (hb2 : 0 + rows.length < 2 ^ 62) :
  OP P T E ⟨dst, .call { callee := .builtin .append, args := #[x, y], argTypes := #[bt, xt] }, ty, pos, af, g⟩ id e h (.ref id te.size 0 (0 + rows.length)) [(id, { cells := rows.flatten, sz := te.size, elem := el, st := 0 })] [q] := .mk fun s m hs hm => ⟨by
 have hne' : rows.length ≠ 0 := by omega
 have hl : rows.flatten.length = rows.length * te.size := fO hrow
 have e6 : flat m te.size (.ref q te.size 0 rows.length) = some (rows.flatten, rows.length) := by
  simp only [flat, hm _ _ hq]
  rw [if_pos ⟨h0, by decide, trivial, trivial, by rw [Nat.zero_add, hl]; exact Nat.le_refl _⟩, Nat.zero_mul, List.drop_zero, List.take_of_length_le (by rw [hl]; exact Nat.le_refl _)]
 have e7 : appendLV T bt xt (.sl 2 []) (.ref q te.size 0 rows.length) m id = some (.ref id te.size 0 (0 + rows.length), [(id, { cells := rows.flatten, sz := te.size, elem := el, st := 0 })]) := by
  unfold appendLV
  simp only [hT, hT2, hE, e6]
  rw [if_neg hne', if_pos ⟨.inr trivial, rfl, hb, hb2⟩]
  rfl
 simp only [aop, builtinLV, List.map_cons, List.map_nil, hs x _ hx, hs y _ hy, Array.getD_eq_getD_getElem?]
 exact e7, by simp [rds, hs x _ hx, hs y _ hy, idsOf]⟩
theorem WO.apC {q : Nat} {rows : List (List LV)} {Q : Env → Hp → Prop} (hT : dsc T bt = some (.sl el)) (hT2 : dsc T xt = some (.sl el2)) (hE : T el = some te) (hx : evE e x = some (.sl 2 [])) (hy : evE e y = some (outV q te.size rows)) (h0 : 0 < te.size) (hrow : ∀ row, row ∈ rows → row.length = te.size)
  (hg : rows ≠ [] → getH h q = some { cells := rows.flatten, sz := te.size, elem := el3, st := 0 }) (hb : (2 * (0 + rows.length) + 256) * te.bytes ≤ 2 ^ 48) (hb2 : 0 + rows.length < 2 ^ 62) (hd : Nat.blt d N = true)
  (kk : WO P T E N oa l (i + 1) b ((d, outK 2 (b + i) te.size rows) :: e) (outH (b + i) te.size el rows h) Q) :
  WO P T E N oa (⟨some d, .call { callee := .builtin .append, args := #[x, y], argTypes := #[bt, xt] }, ty, pos, af, none⟩ :: l) i b e h Q := by
 cases rows with
 | nil => exact aA (oApNil hT hT2 hE hx hy h0) hd kk
 | cons u us => exact bB (oApSR hT hT2 hE hx hy h0 hrow (by simp) (hg (by simp)) hb hb2) hd (by rw [Nat.zero_add]; exact kk)
theorem WO.apD {k : Nat} {rows : List (List LV)} {Q : Env → Hp → Prop} (hT : dsc T bt = some (.sl el)) (hT2 : dsc T xt = some (.sl el2)) (hE : T el = some te) (hx : evE e x = some (.sl 2 [])) (hy : evE e y = some (.sl k rows)) (h0 : 0 < te.size) (hrow : ∀ row, row ∈ rows → row.length = te.size)
  (hb : (2 * (0 + rows.length) + 256) * te.bytes ≤ 2 ^ 48) (hb2 : 0 + rows.length < 2 ^ 62) (hd : Nat.blt d N = true)
  (kk : WO P T E N oa l (i + 1) b ((d, outK 2 (b + i) te.size rows) :: e) (outH (b + i) te.size el rows h) Q) :
  WO P T E N oa (⟨some d, .call { callee := .builtin .append, args := #[x, y], argTypes := #[bt, xt] }, ty, pos, af, none⟩ :: l) i b e h Q := by
 cases rows with
 | nil => exact aA (oApNil hT hT2 hE hx hy h0) hd kk
 | cons u us => exact bB (oApS (xs := []) hT hT2 hE hx hy h0 (by simp) hrow (by simp) (by simpa using hb) (by simpa using hb2)) hd (by rw [List.length_nil, Nat.zero_add]; exact kk)
theorem Fz.env2 {K : Env → Hp → Prop} {q sz t : Nat} {us : List (List LV)} (a : Env) (hs : subs a e) (ht : e.get t = some (outK 2 q sz us)) (hq : us ≠ [] → ∀ r o, getH h r = some o → r ≠ q) (h0 : 0 < sz) (hl : ∀ row, row ∈ us → row.length = sz) (hd : ∀ row, row ∈ us → ∀ c, c ∈ row → Data c)
  (k : K ((t, .sl (kd2 us.length) us) :: a) h) : Fz N e (outH q sz el us h) K := by
 cases us with
 | nil => exact Fz.same ((t, .sl 2 []) :: a) h ⟨ht, hs⟩ (fun _ _ h => h) k
 | cons u us => exact Fz.env (t := t) (us := u :: us) a hs ht hq h0 hl hd k
theorem Fz.copyC {K : Env → Hp → Prop} {q sz C z : Nat} {us : List (List LV)} {A : List LV} {H : Hp} (a : Env) (hs : subs a e) (hqC : q ≠ C) (h0 : 0 < sz) (hl : ∀ row, row ∈ us → row.length = sz) (hd : ∀ row, row ∈ us → ∀ c, c ∈ row → Data c) (hH : getH H q = none)
  (k : K a ((C, { cells := A ++ [.sl (kd2 us.length) us], sz := z, elem := el2, st := 0 }) :: H)) : Fz N e (outH q sz el us ((C, { cells := A ++ [outK 2 q sz us], sz := z, elem := el2, st := 0 }) :: H)) K := by
 cases us with
 | nil => exact Fz.same a _ hs (fun _ _ h => h) k
 | cons u us => exact Fz.cellR (us := u :: us) a hs hqC h0 hl hd hH k
end
end Go.Ab
namespace Go.Ab
open Go.RowKit
def cpC (c : CH) : CH := (c.1, (kd2 c.2.2.length, c.2.2))
def cpS (x : ST) : ST := (x.1, (kd x.2.2.length, x.2.2.map cpC))
def cpM (ss : List ST) : List ST := ss.map cpS
section
variable {P : Program} {T : TT} {E : TypeId → Bool} {N : Nat} {oa : Array Oper} {i b : Nat} {e : Env} {h : Hp}
theorem postOutA {rs : List ResultVar} {n : Nat} {z : Ex} {q sz : Nat} {el : TypeId} {us : List (List LV)} (hz : z = .normal ∨ z = .ret) (hr : resE e T h rs = some [.agg [outV q sz us]]) (hg : us ≠ [] → getH h q = some { cells := us.flatten, sz := sz, elem := el, st := 0 }) (h0 : 0 < sz) (hl : ∀ row, row ∈ us → row.length = sz) (hd : ∀ row, row ∈ us → ∀ c, c ∈ row → Data c) :
  Post T rs (.agg [outR us]) z e h n := by
 cases us with
 | nil => exact post hz hr rfl (.agg _ (by intro c hc; rw [List.mem_singleton] at hc; subst hc; exact .sl _ _ (by simp)))
 | cons u us => exact postRefA (u :: us) hz hr rfl (hg (by simp)) (by show (0 : Nat) ≠ 2; decide) rfl h0 rfl hl hd
end
def obI (e : TypeId) (us : List Int) : Ob := { cells := (us.map ic).flatten, sz := 1, elem := e, st := 0 }
theorem WL_cp {ss : List ST} : (cpM ss).length = ss.length := by unfold cpM; rw [List.length_map]
theorem cpM_get {ss : List ST} {i : Nat} (hi : i < ss.length) : (cpM ss).getD i default = cpS (ss.getD i default) := pX (f := cpS) hi
theorem eqOk_nest {P : Program} {t : TypeId} {k1 k2 k3 : IntKind} {f1 f2 g1 g2 : Field} {i : TypeInfo} (hg : P.eqGuardType P.depth t = false) (ht : P.underlying t = some (.struct #[f1, f2])) (hs : P.stoodInHeld t = false) (hn1 : f1.name ≠ "_") (hn2 : f2.name ≠ "_") (he1 : P.underlying f1.type = some (.int k1)) (hp1 : P.plainKey f1.type = true)
  (ht2 : P.underlying f2.type = some (.struct #[g1, g2])) (hs2 : P.stoodInHeld f2.type = false) (hm1 : g1.name ≠ "_") (hm2 : g2.name ≠ "_") (he2 : P.underlying g1.type = some (.int k2)) (he3 : P.underlying g2.type = some (.int k3)) (hq1 : P.plainKey g1.type = true) (hq2 : P.plainKey g2.type = true)
  (hi : P.info? f2.type = some i) (hc2 : P.cellsOf f2.type = 2) (ho1 : f1.offset = 0) (ho2 : f2.offset = 1) (go1 : g1.offset = 0) (go2 : g2.offset = 1) (hc : P.cellsOf t = 3) : EqOk P t := by
 refine ⟨hg, fun xs ys w h1 h2 h3 => ?_⟩
 unfold EqKind at h3
 rw [ht] at h3
 have hf : P.fieldsOf t = #[f1, f2] := by simp [Program.fieldsOf, ht]
 have hf2 : P.fieldsOf f2.type = #[g1, g2] := by simp [Program.fieldsOf, ht2]
 obtain ⟨xs⟩ := xs
 obtain ⟨ys⟩ := ys
 rw [hc] at h2
 simp only [List.size_toArray] at h1 h2
 match xs, ys, h1, h2 with
 | [x1, x2, x3], [y1, y2, y3], _, _ =>
  obtain ⟨k, a, b, rfl, rfl⟩ := h3 0 x1 y1 rfl rfl
  obtain ⟨k', a', b', rfl, rfl⟩ := h3 1 x2 y2 rfl rfl
  obtain ⟨k'', a'', b'', rfl, rfl⟩ := h3 2 x3 y3 rfl rfl
  refine ⟨a == b && (a' == b' && a'' == b''), ?_, by simp⟩
  rw [run_equalIn_struct w 9999 t _ _ (by rw [hf]; exact ht) hs, hf]
  have p1 := run_part_plain (P := P) w hp1 (xs := ⟨[.int k a, .int k' a', .int k'' a'']⟩) (off := 0) (v := .int k a) rfl
  have p2 := run_part_plain (P := P) w hp1 (xs := ⟨[.int k b, .int k' b', .int k'' b'']⟩) (off := 0) (v := .int k b) rfl
  have p3 : ∀ c c' c'' : Value, (part f2.type ⟨[c, c', c'']⟩ 1).run P w = .ok (.agg #[c', c'']) w := fun c c' c'' => by
   simp [part, isAgg, run_underlying ht2, run_sizeOf w hi, hc2]
  have q1 : (Op.equalIn 9999 f1.type (.int k a) (.int k b)).run P w = .ok (a == b) w := run_equalIn_int w 9998 _ _ _ _ _ he1
  have q2 : (Op.equalIn 9999 f2.type (.agg #[.int k' a', .int k'' a'']) (.agg #[.int k' b', .int k'' b''])).run P w = .ok (a' == b' && a'' == b'') w := by
   rw [run_equalIn_struct w 9998 f2.type _ _ (by rw [hf2]; exact ht2) hs2, hf2]
   have r1 := run_part_plain (P := P) w hq1 (xs := ⟨[.int k' a', .int k'' a'']⟩) (off := 0) (v := .int k' a') rfl
   have r2 := run_part_plain (P := P) w hq1 (xs := ⟨[.int k' b', .int k'' b'']⟩) (off := 0) (v := .int k' b') rfl
   have r3 := run_part_plain (P := P) w hq2 (xs := ⟨[.int k' a', .int k'' a'']⟩) (off := 1) (v := .int k'' a'') rfl
   have r4 := run_part_plain (P := P) w hq2 (xs := ⟨[.int k' b', .int k'' b'']⟩) (off := 1) (v := .int k'' b'') rfl
   have s1 : (Op.equalIn 9998 g1.type (.int k' a') (.int k' b')).run P w = .ok (a' == b') w := run_equalIn_int w 9997 _ _ _ _ _ he2
   have s2 : (Op.equalIn 9998 g2.type (.int k'' a'') (.int k'' b'')).run P w = .ok (a'' == b'') w := run_equalIn_int w 9997 _ _ _ _ _ he3
   simp only [Op.eqFields, hm1, hm2, go1, go2, ne_eq, not_false_eq_true, if_true, Sem.run_bind, r1, r2, r3, r4, Result.andThen_ok, s1, s2]
   cases (a' == b')
   ·simp
   ·cases hb : (a'' == b'')
    ·simp [r3, r4, s2, s1, hb]
    ·simp [r3, r4, s2, s1, hb]
  simp only [Op.eqFields, hn1, hn2, ho1, ho2, ne_eq, not_false_eq_true, if_true, Sem.run_bind, p1, p2, p3, Result.andThen_ok, q1, q2]
  cases (a == b)
  ·simp
  ·cases hb : (a' == b' && a'' == b'')
   ·simp [p3, q2, q1, hb]
   ·simp [p3, q2, q1, hb]
theorem rn_self (n : Nat) : rn n n = 1 := by unfold rn; rw [if_neg om]; omega
end Go.Ab
namespace Go.Ab
open Go.RowKit
def Sml (l : List Int) : Prop := l.length ≤ 1000 ∧ ∀ a, a ∈ l → -1 ≤ a ∧ a ≤ 1000
theorem Sml.nil : Sml [] := ⟨by simp, by simp⟩
theorem outV1c (q sz : Nat) (us : List (List LV)) : (outV q sz us).cells = [outV q sz us] ∧ (outV q sz us).storable = true := by cases us <;> exact ⟨rfl, rfl⟩
theorem kd_one1 {n : Nat} (h : 1 ≤ n) : kd n = 1 := by unfold kd; rw [if_neg om]
open Go.RowKit
section
variable {P : Program} {T : TT} {E : TypeId → Bool} {N : Nat} {oa : Array Oper} {i b : Nat} {e : Env} {h : Hp} {Q : Env → Hp → Nat → Prop}
theorem mkcallOv {f : FuncId} {fn : Func} {c : Code} {args : List LV} {y : LV} {sz len : Nat} {ob : Ob} (hf : P.funcs[f]? = some fn) (hb : fn.body = some c) (hn : (fn.name == "runtime.NumGoroutine") = false) (hl : args.length ≤ fn.ntmps) (hy : Data y) (hst : ob.st = 0) (hsz : ob.sz = sz) (hd : ∀ c, c ∈ ob.cells → Data c)
  (k : WC P T E fn.ntmps c (argsEnv 0 args) [] 0 (fun x e h n => (x = .normal ∨ x = .ret) ∧ ∃ q, resE e T h fn.results.toList = some [.ref q sz 0 len, y] ∧ getH h q = some ob)) : Run P T E (.callO f args (.tup (.ref 0 sz 0 len :: [y])) ob) := by
 obtain ⟨x, s', h1, e', h', h2, hm, hx, q, hr, hq⟩ := k (frame fn args) (fun _ => none) ⟨by simp [frame]; omega, fun t l ht => by
  obtain ⟨_, k⟩ := eK args 0 t l ht
  simp only [Nat.sub_zero] at k
  unfold frame
  rw [List.getElem?_append_left (List.getElem?_eq_some_iff.1 k).1]; exact k⟩ (by intro k o hk; simp [getH] at hk)
 have hg : Run P T E (.gcall f args (fun _ => none) 0 (resultLV [.ref q sz 0 len, y]) s'.m s'.n) := .gcall f fn c args _ 0 x s' _ hf hb hn hl h1 hx (eO h2 hm hr)
 exact Run.callOt f args q sz len ob ob.cells [y] [y] s'.m s'.n [] hg (hm _ _ hq) hst hsz (by simp [keys]) (pR hd) (fun i c e hc he => by rw [hc] at he; cases he; rfl) (pR (by intro c hc; rw [List.mem_singleton] at hc; subst hc; exact hy)) (by intro p hp; simp at hp)
theorem qV {fn : Func} {f : FuncId} {c : Code} {args : Array Operand} {at_ : Array TypeId} {t : TypeId} {pos : String} {af : Array Edge} {l : List Oper} {dst : Tmp} {ls : List LV} {n : Nat} {Φ : LV → Hp → Nat → Prop} (ha : argsE e args.toList = some ls) (hdl : AllData ls) (hf : P.funcs[f]? = some fn) (hb : fn.body = some c) (hn : (fn.name == "runtime.NumGoroutine") = false) (hl : ls.length ≤ fn.ntmps) (hd : Nat.blt dst N = true)
  (k : (∃ r, Run P T E (.call f ls r) ∧ Φ r [] n) ∨ WC P T E fn.ntmps c (argsEnv 0 ls) [] n (fun x e' h' n' => (x = .normal ∨ x = .ret) ∧ ∃ ls', resE e' T h' fn.results.toList = some ls' ∧ Φ (resultLV ls') h' n'))
  (kk : ∀ r h' n', Φ r h' n' → ∃ hh, Both n h h' hh ∧ WN P T E N oa l (i + 1) b ((dst, r) :: e) hh n' Q) :
  WN P T E N oa (⟨some dst, .call { callee := .value (.func f), args := args, argTypes := at_ }, t, pos, af, none⟩ :: l) i b e h n Q := by
 rcases k with ⟨r, hr, hΦ⟩ | k
 ·obtain ⟨hh, hbo, hk⟩ := kk r [] n hΦ
  refine bV (aK ha hr hdl) hd ?_
  intro hdr s m hs hm
  refine hk hdr s m hs fun q o hq => ?_
  rcases hbo q o hq with ⟨_, q2⟩ | ⟨_, q2⟩
  ·exact hm _ _ q2
  ·cases q2
 ·refine WN.F (first := []) (cap := []) (ls := ls) (as_ := ls) [] rfl ha ?_ (by intro p hp; cases hp) hf hb hn hl hd k ?_
  ·rw [List.nil_append, List.append_nil]
   exact gH hdl
  ·exact kk
end
def PhiN (e : TypeId) (lo n : Nat) (L : List NM) (er : Int) : LV → Hp → Nat → Prop := fun r h' n' => ∃ q, r = .tup [outV q 2 (L.map mc), .v (.int .i64 er)] ∧ n ≤ n' ∧ lo ≤ q ∧ q < n' ∧ (L ≠ [] → n ≤ q ∧ getH h' q = some (obN e L))
def PhiM (e1 e2 : TypeId) (lo n : Nat) (R : List (List NM)) (er : Int) : LV → Hp → Nat → Prop := fun r h' n' => ∃ (q : Nat) (a : Nat → Nat), r = .tup [outV q 1 (rwC a R), .v (.int .i64 er)] ∧ n ≤ n' ∧ OwnM h' e1 e2 lo n' q a R ∧ (R ≠ [] → OwnM h' e1 e2 n n' q a R)
def PhiB (e1 e2 : TypeId) (lo n : Nat) (L : List NM) (S : List Int) (er : Int) : LV → Hp → Nat → Prop := fun r h' n' => ∃ q1 q2, r = .tup [outV q1 2 (L.map mc), outV q2 1 (S.map ic), .v (.int .i64 er)] ∧ n ≤ n' ∧ (lo ≤ q1 ∧ q1 < n') ∧ (lo ≤ q2 ∧ q2 < n') ∧ q1 ≠ q2 ∧ (L ≠ [] → n ≤ q1 ∧ getH h' q1 = some (obN e1 L)) ∧ (S ≠ [] → n ≤ q2 ∧ getH h' q2 = some (obI e2 S))
theorem PhiN.data {e : TypeId} {lo n : Nat} {L : List NM} {er : Int} {r : LV} (hn : lo < n) (hL : L = []) (hr : r = .tup [.sl (kd L.length) (L.map mc), .v (.int .i64 er)]) : PhiN e lo n L er r [] n := by
 subst hL
 exact ⟨lo, hr, Nat.le_refl _, Nat.le_refl _, hn, fun h => absurd rfl h⟩
theorem PhiM.data {e1 e2 : TypeId} {lo n : Nat} {R : List (List NM)} {er : Int} {r : LV} (hn : lo < n) (hR : R = []) (hr : r = .tup [.sl (kd R.length) ((R.map kM).map fM), .v (.int .i64 er)]) : PhiM e1 e2 lo n R er r [] n := by
 subst hR
 exact ⟨lo, fun _ => 0, hr, Nat.le_refl _, .nil (Nat.le_refl _) hn, fun h => absurd rfl h⟩
theorem PhiB.data {e1 e2 : TypeId} {lo n : Nat} {L : List NM} {S : List Int} {er : Int} {r : LV} (hn : lo + 1 < n) (hL : L = []) (hS : S = []) (hr : r = .tup [.sl (kd L.length) (L.map mc), .sl (kd S.length) (S.map ic), .v (.int .i64 er)]) : PhiB e1 e2 lo n L S er r [] n := by
 subst hL; subst hS
 exact ⟨lo, lo + 1, hr, Nat.le_refl _, ⟨Nat.le_refl _, om⟩, ⟨om, hn⟩, om, fun h => absurd rfl h, fun h => absurd rfl h⟩
def oL {α : Type} (c : Prop) [Decidable c] (o : Option (List α)) : List α := if c then o.getD [] else []
def oE {α : Type} (c : Prop) [Decidable c] (o : Option (List α)) (er : Int) : Int := if c then if o.isSome = true then 0 else 3 else er
theorem oL_ne {α : Type} {c : Prop} [Decidable c] {o : Option (List α)} {er : Int} (h : oL c o ≠ []) : c ∧ ∃ l, o = some l ∧ l ≠ [] ∧ oL c o = l ∧ oE c o er = 0 := by
 unfold oL at h
 split at h
 ·rename_i hc
  cases o with
  | none => exact absurd rfl h
  | some l => exact ⟨hc, l, rfl, h, by unfold oL; rw [if_pos hc]; rfl, by unfold oE; rw [if_pos hc]; rfl⟩
 ·exact absurd rfl h
noncomputable def ofL (ss : List ST) (f : NM) (st : List Int) : List NM := oL (eD ss f [] = 0 ∧ vSt ss st = true) ((wor ss (nq f) st).mapM outN)
noncomputable def ofE (ss : List ST) (f : NM) (st : List Int) : Int := oE (eD ss f [] = 0 ∧ vSt ss st = true) ((wor ss (nq f) st).mapM outN) (if eD ss f [] = 1 ∨ vSt ss st = false then 1 else eD ss f [])
theorem ofO_eq (ss : List ST) (f : NM) (st : List Int) : ofO ss f st = .tup [.sl (kd (ofL ss f st).length) ((ofL ss f st).map mc), .v (.int .i64 (ofE ss f st))] := by
 unfold ofO ofL ofE oL oE
 by_cases h1 : eD ss f [] = 1 ∨ vSt ss st = false
 ·have h2 : ¬ (eD ss f [] = 0 ∧ vSt ss st = true) := by rintro ⟨h, h'⟩; rcases h1 with k | k; rw [h] at k; cases k; rw [h'] at k; cases k
  rw [if_pos h1, if_neg h2, if_neg h2, if_pos h1]; rfl
 ·rw [if_neg h1]
  by_cases h3 : eD ss f [] = 0
  ·have h2 : eD ss f [] = 0 ∧ vSt ss st = true := ⟨h3, by cases hv : vSt ss st with | true => rfl | false => exact absurd (.inr hv) h1⟩
   rw [if_pos h3, if_pos h2, if_pos h2]; rfl
  ·have h2 : ¬ (eD ss f [] = 0 ∧ vSt ss st = true) := fun h => h3 h.1
   rw [if_neg h3, if_neg h2, if_neg h2, if_neg h1]; rfl
def stL (ss : List ST) (f : NM) (n : Int) : List NM := oL (eD ss f [] = 0 ∧ 0 ≤ n ∧ n ≤ 1000) ((stp ss (nq f) n.toNat).mapM outN)
def stE (ss : List ST) (f : NM) (n : Int) : Int := oE (eD ss f [] = 0 ∧ 0 ≤ n ∧ n ≤ 1000) ((stp ss (nq f) n.toNat).mapM outN) (if eD ss f [] = 0 then 6 else eD ss f [])
theorem stO_eq (ss : List ST) (f : NM) (n : Int) : stO ss f n = .tup [.sl (kd (stL ss f n).length) ((stL ss f n).map mc), .v (.int .i64 (stE ss f n))] := by
 unfold stO stL stE oL oE
 by_cases h1 : eD ss f [] = 0
 ·by_cases h2 : 0 ≤ n ∧ n ≤ 1000
  ·rw [if_pos h1, if_pos h2, if_pos ⟨h1, h2⟩, if_pos ⟨h1, h2⟩]; rfl
  ·rw [if_pos h1, if_neg h2, if_neg (fun h => h2 h.2), if_neg (fun h => h2 h.2), if_pos h1]; rfl
 ·rw [if_neg h1, if_neg (fun h => h1 h.1), if_neg (fun h => h1 h.1), if_neg h1]; rfl
def ywR (ss : List ST) (f : NM) (ns : List NM) : List (List NM) := oL (eD ss f ns = 0 ∧ ns.length = ss.length) (ydM ss f ns)
def ywE (ss : List ST) (f : NM) (ns : List NM) : Int := oE (eD ss f ns = 0 ∧ ns.length = ss.length) (ydM ss f ns) (if eD ss f ns = 0 then 2 else eD ss f ns)
theorem ydsO_eq (ss : List ST) (f : NM) (ns : List NM) : ydsO ss f ns = .tup [.sl (kd (ywR ss f ns).length) (((ywR ss f ns).map kM).map fM), .v (.int .i64 (ywE ss f ns))] := by
 unfold ydsO ywR ywE oL oE
 by_cases h1 : eD ss f ns = 0
 ·by_cases h2 : ns.length = ss.length
  ·rw [if_pos h1, if_pos h2, if_pos ⟨h1, h2⟩, if_pos ⟨h1, h2⟩]; rfl
  ·rw [if_pos h1, if_neg h2, if_neg (fun h => h2 h.2), if_neg (fun h => h2 h.2), if_pos h1]; rfl
 ·rw [if_neg h1, if_neg (fun h => h1 h.1), if_neg (fun h => h1 h.1), if_neg h1]; rfl
noncomputable def dbL (ss : List ST) (f : NM) : List NM := oL (eD ss f [] = 0) ((vals ss (nq f)).mapM outN)
noncomputable def dbE (ss : List ST) (f : NM) : Int := oE (eD ss f [] = 0) ((vals ss (nq f)).mapM outN) (eD ss f [])
noncomputable def dbS (ss : List ST) (f : NM) : List Int := if eD ss f [] = 0 ∧ ((vals ss (nq f)).mapM outN).isSome = true then tab ss.length fun i => ((bsK (ss.getD i default) (nq f) (fn_ (vals ss (nq f))) : Nat) : Int) else []
theorem dbO_eq (ss : List ST) (f : NM) : dbO ss f = .tup [.sl (kd (dbL ss f).length) ((dbL ss f).map mc), .sl (kd (dbS ss f).length) ((dbS ss f).map ic), .v (.int .i64 (dbE ss f))] := by
 unfold dbO dbL dbE dbS oL oE
 by_cases h1 : eD ss f [] = 0
 ·rw [if_pos h1, if_pos h1, if_pos h1]
  cases hm : (vals ss (nq f)).mapM outN with
  | none => rw [mG hm, if_neg (by rintro ⟨_, h⟩; cases h)]; rfl
  | some o =>
   rw [iL hm]
   have hp := (fS (iV h1).1).pos
   rw [if_pos (show eD ss f [] = 0 ∧ (some o).isSome = true from ⟨h1, rfl⟩), cK, kd_one1 hp]; rfl
 ·rw [if_neg h1, if_neg h1, if_neg h1, if_neg (fun h => h1 h.1)]; rfl
theorem db_no {ss : List ST} {f : NM} (h : ¬ (eD ss f [] = 0 ∧ ((vals ss (nq f)).mapM outN).isSome = true)) : dbL ss f = [] ∧ dbS ss f = [] := by
 refine ⟨?_, if_neg h⟩
 unfold dbL oL
 by_cases h1 : eD ss f [] = 0
 ·rw [if_pos h1]
  cases hm : (vals ss (nq f)).mapM outN with
  | none => rfl
  | some o => exact absurd ⟨h1, by rw [hm]; rfl⟩ h
 ·rw [if_neg h1]
theorem db_ok {ss : List ST} {f : NM} {o : List NM} (h1 : eD ss f [] = 0) (hm : (vals ss (nq f)).mapM outN = some o) : dbL ss f = o ∧ dbE ss f = 0 ∧ dbS ss f = tab ss.length fun i => ((bsK (ss.getD i default) (nq f) (fn_ (vals ss (nq f))) : Nat) : Int) := by
 unfold dbL dbE dbS oL oE
 rw [if_pos h1, if_pos h1, hm]
 exact ⟨rfl, rfl, if_pos ⟨h1, rfl⟩⟩
def cutH (n : Nat) : Hp → Hp
 | [] => []
 | (q, o) :: h => if n ≤ q then (q, o) :: cutH n h else cutH n h
theorem mZ {n q : Nat} (hq : n ≤ q) : ∀ {h : Hp}, getH (cutH n h) q = getH h q
 | [] => rfl
 | (r, o) :: h => by
  unfold cutH
  split
  ·simp only [getH]; rw [mZ hq (h := h)]
  ·have : Nat.beq r q = false := by
    cases hb : Nat.beq r q with
    | false => rfl
    | true => have := Nat.eq_of_beq_eq_true hb; omega
   simp only [getH, this]; exact mZ hq
theorem oH {n q : Nat} {o : Ob} : ∀ {h : Hp}, getH (cutH n h) q = some o → n ≤ q ∧ getH h q = some o
 | [], hq => by simp [cutH, getH] at hq
 | (r, x) :: h, hq => by
  have key : n ≤ q := by
   clear oH
   revert hq
   induction ((r, x) :: h : Hp) with
   | nil => intro hq; simp [cutH, getH] at hq
   | cons p h ih =>
    intro hq
    obtain ⟨r, x⟩ := p
    unfold cutH at hq
    split at hq
    ·simp only [getH] at hq
     split at hq
     ·rename_i h1 hb; have := Nat.eq_of_beq_eq_true hb; omega
     ·exact ih hq
    ·exact ih hq
  exact ⟨key, by rw [mZ key] at hq; exact hq⟩
theorem Both.cut {n : Nat} {h h' : Hp} : Both n h h' (cutH n h') := fun q o hq => .inr (oH hq)
theorem getH_app {a b : Hp} {q : Nat} : getH (a ++ b) q = match getH a q with | some o => some o | none => getH b q := by
 induction a with
 | nil => rfl
 | cons p a ih =>
  obtain ⟨r, o⟩ := p
  simp only [List.cons_append, getH]
  split
  ·rfl
  ·exact ih
theorem Both.all {n : Nat} {h h' : Hp} (hl : ∀ q o, getH h q = some o → q < n) : Both n h h' (cutH n h' ++ h) := fun q o hq => by
 rw [getH_app] at hq
 split at hq
 ·rename_i o' h1; cases hq; exact .inr (oH h1)
 ·exact .inl ⟨hl _ _ hq, hq⟩
theorem bothN {n q : Nat} {h h' hh : Hp} {e : TypeId} {L : List NM} (hg : L ≠ [] → n ≤ q ∧ getH h' q = some (obN e L)) (hb : Both n h h' hh) : Both n h h' (outH q 2 e (L.map mc) hh) := by
 cases L with
 | nil => exact hb
 | cons u us => exact .cons (.inr (hg (by simp))) hb
theorem PhiN.mk {e : TypeId} {lo n n' q : Nat} {L o : List NM} {er : Int} {h' : Hp} (hL : L = o) (hE : er = 0) (hne : o ≠ []) (h1 : n ≤ n') (h2 : lo ≤ n) (h3 : n ≤ q) (h4 : q < n') (hg : getH h' q = some (obN e o)) : PhiN e lo n L er (.tup [.ref q 2 0 o.length, .v (.int .i64 0)]) h' n' := by
 subst hL; subst hE
 refine ⟨q, ?_, h1, om, h4, fun _ => ⟨h3, hg⟩⟩
 rw [fE (fun h => hne (List.map_eq_nil_iff.1 h)), List.length_map]
theorem PhiN.to {e : TypeId} {lo lo' n n0 n' : Nat} {L o : List NM} {er : Int} {h' h2 : Hp} {r : LV} (k : PhiN e lo n o 0 r h' n') (hL : L = o) (hE : er = 0) (hn : n0 ≤ n) (hl : lo' ≤ lo) (hg : ∀ q x, n ≤ q → getH h' q = some x → getH h2 q = some x) : PhiN e lo' n0 L er r h2 n' := by
 subst hL; subst hE
 obtain ⟨q, rfl, h1, h2, h3, h4⟩ := k
 exact ⟨q, rfl, om, om, h3, fun h => ⟨by have := (h4 h).1; omega, hg _ _ (h4 h).1 (h4 h).2⟩⟩
theorem PhiM.to {e1 e2 : TypeId} {lo lo' n n0 n' : Nat} {L o : List (List NM)} {er : Int} {h' h2 : Hp} {r : LV} (k : PhiM e1 e2 lo n o 0 r h' n') (hL : L = o) (hE : er = 0) (hne : o ≠ []) (hn : n0 ≤ n) (hl : lo' ≤ n) (hg : ∀ q x, n ≤ q → getH h' q = some x → getH h2 q = some x) : PhiM e1 e2 lo' n0 L er r h2 n' := by
 subst hL; subst hE
 obtain ⟨q, a, rfl, h1, h2, h3⟩ := k
 have k := h3 hne
 exact ⟨q, a, rfl, om, k.mono hl (Nat.le_refl _) (fun r o hr _ h => hg r o hr h), fun _ => k.mono hn (Nat.le_refl _) (fun r o hr _ h => hg r o hr h)⟩
end Go.Ab
namespace Go.Ab
open Go.RowKit
section
variable {P : Program} {T : TT} {E : TypeId → Bool} {N : Nat} {oa : Array Oper} {i b n : Nat} {e : Env} {h : Hp}
theorem WN.O {l : List Oper} {Q : Env → Hp → Nat → Prop} (k : WO P T E N oa l i b e h (fun e' h' => Q e' h' n)) : WN P T E N oa l i b e h n Q := fun hd s m hs hm => by
 obtain ⟨rs, s', h1, h2, e', h', h3, h4, h5⟩ := k hd n s m hs hm
 exact ⟨rs, s', h1, e', h', h3, h4, by rw [h2]; exact h5⟩
theorem mR {Q : Ex → Env → Hp → Nat → Prop} {rid m : Nat} {oa : Array Oper} {z : Nat} (hz : oa.size = z) (k : WN P T E N oa oa.toList 0 m e h (m + z) fun e' m' n' => Q .normal e' m' n') : WC P T E N (.region rid oa false) e h m Q := fun s mm hs hm => by
 obtain ⟨rs, s', h1, e', h', h3, h4, h5⟩ := k (by simp) s mm hs hm
 refine ⟨.normal, s', .region rid oa _ s' rs ?_, e', h', h3, h4, h5⟩
 rw [List.range_eq_range']
 subst hz
 simpa using h1
variable {dst : Option Tmp} {ty : TypeId} {pos : String} {af : Array Edge} {g : Option (Nat × Bool)} {id : Nat} {x : Operand} {bt : TypeId} {ti : TI}
theorem oLdF0 {us : List NM} {r j : Nat} {el : TypeId} (hx : evE e x = some (.ptr r ((0 + j) * 2 + 0))) (hE : T bt = some ti) (hr : getH h r = some { cells := (us.map mc).flatten, sz := 2, elem := el, st := 0 }) (hj : j < us.length) (hl : ∀ v cs, loadLV ti (.v (.int .i64 v) :: cs) = some (.v (.int .i64 v))) :
  OP P T E ⟨dst, .load bt x, ty, pos, af, g⟩ id e h (.v (.int .i64 (us.getD j default).1)) [] [r] := aL hx hE hr rfl (by
 rw [Nat.zero_add, Nat.add_zero, lH (f := mc) (sz := 2) (fun _ => rfl) us j hj]
 exact hl _ _)
end
def nrm : Hp → Hp
 | [] => []
 | (q, o) :: h => (q, o) :: (nrm h).filter fun p => !Nat.beq p.1 q
theorem pI {q r : Nat} (hr : r ≠ q) : ∀ {h : Hp}, getH (h.filter fun p => !Nat.beq p.1 q) r = getH h r
 | [] => rfl
 | (t, o) :: h => by
  have ih := pI hr (h := h)
  rw [List.filter_cons]
  cases ht : Nat.beq t q with
  | true =>
   have h1 := Nat.eq_of_beq_eq_true ht
   have h2 : Nat.beq t r = false := by
    cases hb : Nat.beq t r with
    | false => rfl
    | true => exact absurd ((Nat.eq_of_beq_eq_true hb).symm.trans h1) hr
   simp only [Bool.not_true, Bool.false_eq_true, if_false, getH, h2]
   exact ih
  | false =>
   simp only [Bool.not_false, if_true, getH]
   split
   ·rfl
   ·exact ih
theorem nrm_get {q : Nat} : ∀ {h : Hp}, getH (nrm h) q = getH h q
 | [] => rfl
 | (t, o) :: h => by
  unfold nrm
  simp only [getH]
  split
  ·rfl
  ·rename_i hb
   rw [pI (fun e => by rw [e, Nat.beq_refl] at hb; cases hb)]
   exact nrm_get (h := h)
theorem mem_nrm : ∀ {h : Hp} {p : Nat × Ob}, p ∈ nrm h → getH h p.1 = some p.2
 | [], p, hp => by cases hp
 | (t, o) :: h, p, hp => by
  unfold nrm at hp
  rcases List.mem_cons.1 hp with rfl | hp
  ·exact g0
  ·obtain ⟨h1, h2⟩ := List.mem_filter.1 hp
   refine g1 (fun e => ?_) (mem_nrm h1)
   rw [e, Nat.beq_refl] at h2
   cases h2
theorem subsM_of {a h : Hp} (k : ∀ p, p ∈ a → getH h p.1 = some p.2) : subsM a h := by
 induction a with
 | nil => trivial
 | cons p a ih => exact ⟨k p (List.mem_cons_self ..), ih fun p hp => k p (List.mem_cons_of_mem _ hp)⟩
theorem dX {a h : Hp} (k : ∀ q o, getH a q = some o → getH h q = some o) : subsM (nrm a) h := subsM_of fun p hp => k _ _ (mem_nrm hp)
def ffN (p : Nat × List NM) : List LV := [outV p.1 2 (p.2.map mc)]
def rwT (a : Nat → Nat) (R : List (List NM)) : List (Nat × List NM) := tab R.length fun t => (a t, R.getD t [])
theorem rwC_map (a : Nat → Nat) (R : List (List NM)) : rwC a R = (rwT a R).map ffN := by
 unfold rwC rwT tab
 rw [List.map_map]
 rfl
theorem lW (a : Nat → Nat) (R : List (List NM)) : (rwT a R).length = R.length := cK _ _
theorem qQ {a : Nat → Nat} {R : List (List NM)} {i : Nat} (hi : i < R.length) : (rwT a R).getD i default = (a i, R.getD i []) := oC _ hi
def cp2 (L : List NM) : M1 := (kd2 L.length, L)
structure RdR (h : Hp) (e2 : TypeId) (a : Nat → Nat) (R : List (List NM)) : Prop where
 inj : ∀ s t, s < R.length → t < R.length → a s = a t → s = t
 row : ∀ t, t < R.length → R.getD t [] ≠ [] → getH h (a t) = some (obN e2 (R.getD t []))
structure RdM (h : Hp) (e1 e2 : TypeId) (q : Nat) (a : Nat → Nat) (R : List (List NM)) : Prop where
 ne : ∀ t, t < R.length → a t ≠ q
 top : R ≠ [] → getH h q = some { cells := (rwC a R).flatten, sz := 1, elem := e1, st := 0 }
 rd : RdR h e2 a R
theorem RdR.mono {h h' : Hp} {e2 : TypeId} {a : Nat → Nat} {R : List (List NM)} (k : RdR h e2 a R) (hg : ∀ t o, t < R.length → getH h (a t) = some o → getH h' (a t) = some o) : RdR h' e2 a R := ⟨k.inj, fun t ht hr => hg t _ ht (k.row t ht hr)⟩
theorem RdM.mono {h h' : Hp} {e1 e2 : TypeId} {q : Nat} {a : Nat → Nat} {R : List (List NM)} (k : RdM h e1 e2 q a R) (hq : ∀ o, getH h q = some o → getH h' q = some o) (hg : ∀ t o, t < R.length → getH h (a t) = some o → getH h' (a t) = some o) : RdM h' e1 e2 q a R := ⟨k.ne, fun hr => hq _ (k.top hr), k.rd.mono hg⟩
theorem iO {α : Type} {L : List α} {i : Nat} (h : i < L.length) : L ≠ [] := fun e => by rw [e] at h; exact absurd h (by simp)
end Go.Ab
namespace Go.Ab
open Go.RowKit
structure SmlN (L : List NM) : Prop where
  len : L.length ≤ 1000
  rng : ∀ t, t < L.length → -9223372036854775809 < (L.getD t default).1 ∧ (L.getD t default).1 < 9223372036854775807
theorem SmlN.nil : SmlN [] := ⟨by simp, fun t ht => absurd ht (by simp)⟩
theorem smlN_of {v : List Rat} {o : List NM} (h : v.mapM outN = some o) (hl : v.length ≤ 1000) : SmlN o := ⟨by rw [kY h]; exact hl, fun t ht => by
  obtain ⟨h1, h2, h3, h4, h5⟩ := (outs_all h).2 _ (bA ht)
  omega⟩
theorem smlN_oL {c : Prop} [Decidable c] {v : List Rat} (hl : v.length ≤ 1000) : SmlN (oL c (v.mapM outN)) := by
  unfold oL
  split
  · cases hm : v.mapM outN with
    | none => exact .nil
    | some o => exact smlN_of hm hl
  · exact .nil
structure SmlM (R : List (List NM)) : Prop where
  len : R.length ≤ 1000
  row : ∀ t, t < R.length → SmlN (R.getD t [])
theorem SmlM.nil : SmlM [] := ⟨by simp, fun t ht => absurd ht (by simp)⟩
theorem smlM_of {v : List (List Rat)} {o : List (List NM)} (h : (v.mapM fun r => r.mapM outN) = some o) (hl : v.length ≤ 1000) (hr : ∀ r, r ∈ v → r.length ≤ 1000) : SmlM o := ⟨by rw [kY h]; exact hl, fun t ht => by
  obtain ⟨r, hr1, hr2⟩ := (rM h).2 _ (bA (us := o) ht)
  exact smlN_of (o := o.getD t default) hr2 (hr r hr1)⟩
theorem smlM_oL {c : Prop} [Decidable c] {v : List (List Rat)} (hl : v.length ≤ 1000) (hr : ∀ r, r ∈ v → r.length ≤ 1000) : SmlM (oL c (v.mapM fun r => r.mapM outN)) := by
  unfold oL
  split
  · cases hm : (v.mapM fun r => r.mapM outN) with
    | none => exact .nil
    | some o => exact smlM_of hm hl hr
  · exact .nil
theorem smlN_db {ss : List ST} {f : NM} (h : ss.length ≤ 1000) : SmlN (dbL ss f) := smlN_oL (Nat.le_trans (vals_len _ _) h)
theorem smlN_of' {ss : List ST} {f : NM} {st : List Int} (h : ss.length ≤ 1000) : SmlN (ofL ss f st) := smlN_oL (Nat.le_trans (wor_len _ _ _) h)
theorem smlN_st {ss : List ST} {f : NM} {n : Int} (h : ss.length ≤ 1000) : SmlN (stL ss f n) := smlN_oL (by rw [oA]; exact h)
theorem smlM_yd {ss : List ST} {f : NM} {ns : List NM} (h : ss.length ≤ 1000) (hc : ∀ x, x ∈ ss → x.2.2.length ≤ 1000) : SmlM (ywR ss f ns) := smlM_oL (by unfold yds; rw [cK]; exact h) (fun r hr => by
  unfold yds at hr
  obtain ⟨i, hi, rfl⟩ := tab_mem.1 hr
  rw [cK]
  exact hc _ (bA hi))
theorem sml_db {ss : List ST} {f : NM} (h : ss.length ≤ 1000) (hc : ∀ x, x ∈ ss → x.2.2.length ≤ 1000) : Sml (dbS ss f) := by
  unfold dbS
  split
  · rename_i hk
    refine ⟨by rw [cK]; exact h, fun a ha => ?_⟩
    obtain ⟨i, hi, rfl⟩ := tab_mem.1 ha
    have hm := bA (us := ss) hi
    have h1 := (fS (iV hk.1).1).cs _ hm
    have h2 := bsK_lt (d := nq f) (v := fn_ (vals ss (nq f))) (x := ss.getD i default) om
    have h3 := hc _ hm
    omega
  · exact .nil
theorem bothI {n q : Nat} {h h' hh : Hp} {e : TypeId} {L : List Int} (hg : L ≠ [] → n ≤ q ∧ getH h' q = some (obI e L)) (hb : Both n h h' hh) : Both n h h' (outH q 1 e (L.map ic) hh) := by
  cases L with
  | nil => exact hb
  | cons u us => exact .cons (.inr (hg (by simp))) hb
def matH (e1 e2 : TypeId) (q : Nat) (a : Nat → Nat) (R : List (List NM)) (h : Hp) : Hp := famH a (fun t => opN e2 (R.getD t [])) (outH q 1 e1 (rwC a R) h) R.length
theorem rwC_nil {a : Nat → Nat} {R : List (List NM)} (h : R ≠ []) : rwC a R ≠ [] := fun h2 => h (List.eq_nil_of_length_eq_zero (by rw [← iW a R, h2]; rfl))
theorem bothM {n q : Nat} {a : Nat → Nat} {h h' hh : Hp} {e1 e2 : TypeId} {R : List (List NM)} {m : Nat} (hO : R ≠ [] → OwnM h' e1 e2 n m q a R) (hb : Both n h h' hh) : Both n h h' (matH e1 e2 q a R hh) := by
  cases R with
  | nil => exact hb
  | cons r rs =>
    have k := hO (by simp)
    refine .fam _ (fun t ht => ⟨(k.at_ t ht).1, fun x hx => ?_⟩) ?_
    · obtain ⟨h1, rfl⟩ := nO hx
      exact k.row t ht h1
    · rw [bM (rwC_nil (by simp))]
      exact .cons (.inr ⟨k.ql, k.top (by simp)⟩) hb
theorem bR {e1 e2 : TypeId} {q r : Nat} {a : Nat → Nat} {R : List (List NM)} {h : Hp} (ha : ∀ t, t < R.length → a t ≠ r) (hq : q ≠ r) : getH (matH e1 e2 q a R h) r = getH h r := (eB _ ha).trans (aD hq rfl)
theorem matH_rd {h' : Hp} {e1 e2 : TypeId} {lo hi q : Nat} {a : Nat → Nat} {R : List (List NM)} {h : Hp} (k : OwnM h' e1 e2 lo hi q a R) : RdM (matH e1 e2 q a R h) e1 e2 q a R :=
  ⟨fun t ht => (k.at_ t ht).2.2, fun hr => by
    refine (eB _ fun t ht => (k.at_ t ht).2.2).trans ?_
    rw [bM (rwC_nil hr)]; exact g0,
   k.inj, fun t ht hr => kU _ ht (opN_ne hr) fun j hj e => k.inj j t hj ht e⟩
def tri (a b c : Nat) : Nat → Nat
  | 0 => a
  | 1 => b
  | _ + 2 => c
theorem tri_all {a b c : Nat} {Q : Nat → Prop} (ha : Q a) (hb : Q b) (hc : Q c) : ∀ t, Q (tri a b c t)
  | 0 => ha
  | 1 => hb
  | _ + 2 => hc
theorem tri_rd {h : Hp} {e2 : TypeId} {a b c : Nat} {L1 L2 L3 : List NM} (hab : a ≠ b) (hac : a ≠ c) (hbc : b ≠ c) (h1 : L1 ≠ [] → getH h a = some (obN e2 L1)) (h2 : L2 ≠ [] → getH h b = some (obN e2 L2)) (h3 : L3 ≠ [] → getH h c = some (obN e2 L3)) : RdR h e2 (tri a b c) [L1, L2, L3] :=
  ⟨fun s t hs ht e => by
    have hs : s < 3 := hs
    have ht : t < 3 := ht
    match s, t, hs, ht with
    | 0, 0, _, _ | 1, 1, _, _ | 2, 2, _, _ => rfl
    | 0, 1, _, _ => exact absurd e hab
    | 0, 2, _, _ => exact absurd e hac
    | 1, 0, _, _ => exact absurd e.symm hab
    | 1, 2, _, _ => exact absurd e hbc
    | 2, 0, _, _ => exact absurd e.symm hac
    | 2, 1, _, _ => exact absurd e.symm hbc,
   fun t ht hr => by
    have ht : t < 3 := ht
    match t, ht with
    | 0, _ => exact h1 hr
    | 1, _ => exact h2 hr
    | 2, _ => exact h3 hr⟩
theorem fill3 {a b c z : LV} (ha : a.cells = [a] ∧ a.storable = true) (hb : b.cells = [b] ∧ b.storable = true) (hc : c.cells = [c] ∧ c.storable = true) :
    fillLV (fun i => some (i * 1, 1)) [z, z, z] [(0, a), (1, b), (2, c)] = some [a, b, c] := by
  simp [fillLV, putCells, ha.1, ha.2, hb.1, hb.2, hc.1, hc.2]
theorem sml3 {L1 L2 L3 : List NM} (h1 : SmlN L1) (h2 : SmlN L2) (h3 : SmlN L3) : SmlM [L1, L2, L3] := ⟨by simp, fun t ht => by
  have ht : t < 3 := ht
  match t, ht with
  | 0, _ => exact h1
  | 1, _ => exact h2
  | 2, _ => exact h3⟩
section
variable {P : Program} {T : TT} {E : TypeId → Bool} {N : Nat} {oa : Array Oper} {i b d n : Nat} {e : Env} {h : Hp}
variable {ty : TypeId} {pos : String} {af : Array Edge} {x y : Operand} {bt xt el el2 el3 : TypeId} {te : TI} {l : List Oper}
theorem WN.apC {q : Nat} {rows : List (List LV)} {Q : Env → Hp → Nat → Prop} (hT : dsc T bt = some (.sl el)) (hT2 : dsc T xt = some (.sl el2)) (hE : T el = some te) (hx : evE e x = some (.sl 2 [])) (hy : evE e y = some (outV q te.size rows)) (h0 : 0 < te.size) (hrow : ∀ row, row ∈ rows → row.length = te.size)
    (hg : rows ≠ [] → getH h q = some { cells := rows.flatten, sz := te.size, elem := el3, st := 0 }) (hb : (2 * (0 + rows.length) + 256) * te.bytes ≤ 2 ^ 48) (hb2 : 0 + rows.length < 2 ^ 62) (hd : Nat.blt d N = true)
    (kk : WN P T E N oa l (i + 1) b ((d, outK 2 (b + i) te.size rows) :: e) (outH (b + i) te.size el rows h) n Q) :
    WN P T E N oa (⟨some d, .call { callee := .builtin .append, args := #[x, y], argTypes := #[bt, xt] }, ty, pos, af, none⟩ :: l) i b e h n Q := by
  cases rows with
  | nil => exact bV (oApNil hT hT2 hE hx hy h0) hd kk
  | cons u us => exact WN.S (oApSR hT hT2 hE hx hy h0 hrow (by simp) (hg (by simp)) hb hb2) hd (by rw [Nat.zero_add]; exact kk)
end
end Go.Ab
namespace Go.Ab
open Go.RowKit
theorem ogN {q : Nat} {e : TypeId} {us : List NM} {h : Hp} (hu : us ≠ []) : getH (outH q 2 e (us.map mc) h) q = some (obN e us) := by
  rw [bM (fun h2 => hu (List.map_eq_nil_iff.1 h2))]; exact g0
theorem ogI {q : Nat} {e : TypeId} {us : List Int} {h : Hp} (hu : us ≠ []) : getH (outH q 1 e (us.map ic) h) q = some (obI e us) := by
  rw [bM (fun h2 => hu (List.map_eq_nil_iff.1 h2))]; exact g0
end Go.Ab
set_option maxRecDepth 100000
namespace Go.Proofs.Ytcblgjaomljikaa
open Go.Ab Go.RowKit
def ti1 : TI := ⟨1, 8, [.nilFunc], .func⟩
def ti2 : TI := ⟨1, 8, [.int .i64 0], (.int .i64)⟩
def ti3 : TI := ⟨1, 8, [.int .i64 0], (.int .i64)⟩
def ti4 : TI := ⟨1, 1, [.bool false], .bool⟩
def ti5 : TI := ⟨1, 1, [.int .u8 0], (.int .u8)⟩
def ti6 : TI := ⟨1, 1, [.int .u8 0], (.int .u8)⟩
def ti7 : TI := ⟨4, 24, [.int .i64 0, .int .i64 0, .bool false, .int .u8 0], (.st [(0, 2), (1, 3), (2, 4), (3, 6)])⟩
def ti8 : TI := ⟨4, 24, [.int .i64 0, .int .i64 0, .bool false, .int .u8 0], (.st [(0, 2), (1, 3), (2, 4), (3, 6)])⟩
def ti9 : TI := ⟨1, 16, [.string ⟨#[]⟩], .str⟩
def ti10 : TI := ⟨1, 16, [.string ⟨#[]⟩], .str⟩
def ti11 : TI := ⟨1, 16, [.string ⟨#[]⟩], .str⟩
def ti12 : TI := ⟨1, 8, [.int .u64 0], (.int .u64)⟩
def ti13 : TI := ⟨2, 24, [.string ⟨#[]⟩, .int .u64 0], (.st [(0, 9), (1, 12)])⟩
def ti14 : TI := ⟨2, 24, [.string ⟨#[]⟩, .int .u64 0], (.st [(0, 9), (1, 12)])⟩
def ti21 : TI := ⟨1, 4, [.int .i32 0], (.int .i32)⟩
def ti22 : TI := ⟨1, 24, [.slice none 0 0], (.sl 3)⟩
def ti23 : TI := ⟨1, 8, [.nilFunc], .func⟩
def ti24 : TI := ⟨1, 24, [.slice none 0 0], (.sl 40)⟩
def ti25 : TI := ⟨1, 24, [.slice none 0 0], (.st [(0, 24)])⟩
def ti26 : TI := ⟨1, 24, [.slice none 0 0], (.st [(0, 24)])⟩
def ti27 : TI := ⟨2, 16, [.int .i64 0, .int .i64 0], (.st [(0, 3), (1, 3)])⟩
def ti28 : TI := ⟨2, 16, [.int .i64 0, .int .i64 0], (.st [(0, 3), (1, 3)])⟩
def ti29 : TI := ⟨1, 8, [.int .i64 0], (.int .i64)⟩
def ti31 : TI := ⟨1, 8, [.nilFunc], .func⟩
def ti32 : TI := ⟨1, 8, [.nilFunc], .func⟩
def ti33 : TI := ⟨3, 24, [.int .i64 0, .int .i64 0, .int .i64 0], (.st [(0, 3), (1, 28)])⟩
def ti34 : TI := ⟨3, 24, [.int .i64 0, .int .i64 0, .int .i64 0], (.st [(0, 3), (1, 28)])⟩
def ti35 : TI := ⟨1, 24, [.slice none 0 0], (.sl 34)⟩
def ti36 : TI := ⟨3, 40, [.int .i64 0, .int .i64 0, .slice none 0 0], (.st [(0, 28), (2, 35)])⟩
def ti37 : TI := ⟨3, 40, [.int .i64 0, .int .i64 0, .slice none 0 0], (.st [(0, 28), (2, 35)])⟩
def ti38 : TI := ⟨1, 24, [.slice none 0 0], (.sl 37)⟩
def ti39 : TI := ⟨3, 40, [.int .i64 0, .int .i64 0, .slice none 0 0], (.st [(0, 3), (1, 3), (2, 38)])⟩
def ti40 : TI := ⟨3, 40, [.int .i64 0, .int .i64 0, .slice none 0 0], (.st [(0, 3), (1, 3), (2, 38)])⟩
def ti41 : TI := ⟨1, 24, [.slice none 0 0], (.sl 28)⟩
def ti43 : TI := ⟨1, 8, [.nilFunc], .func⟩
def ti44 : TI := ⟨1, 8, [.nilFunc], .func⟩
def ti46 : TI := ⟨1, 8, [.nilFunc], .func⟩
def ti47 : TI := ⟨1, 8, [.nilFunc], .func⟩
def ti48 : TI := ⟨1, 8, [.nilFunc], .func⟩
def ti49 : TI := ⟨1, 8, [.nilFunc], .func⟩
def ti51 : TI := ⟨1, 8, [.nilFunc], .func⟩
def ti53 : TI := ⟨1, 8, [.nilFunc], .func⟩
def ti54 : TI := ⟨1, 24, [.slice none 0 0], (.sl 22)⟩
def ti55 : TI := ⟨1, 8, [.nilFunc], .func⟩
def ti56 : TI := ⟨1, 8, [.nilFunc], .func⟩
def ti57 : TI := ⟨1, 8, [.nilFunc], .func⟩
def ti58 : TI := ⟨1, 8, [.nilFunc], .func⟩
def ti59 : TI := ⟨1, 24, [.slice none 0 0], (.sl 41)⟩
def ti60 : TI := ⟨1, 8, [.nilFunc], .func⟩
def ti61 : TI := ⟨1, 8, [.nilFunc], .func⟩
def ti62 : TI := ⟨1, 8, [.nilFunc], .func⟩
def ti64 : TI := ⟨1, 8, [.nilFunc], .func⟩
def ti66 : TI := ⟨1, 8, [.nilFunc], .func⟩
def ti67 : TI := ⟨1, 8, [.nilFunc], .func⟩
def ti68 : TI := ⟨1, 8, [.nilFunc], .func⟩
def ti70 : TI := ⟨1, 8, [.nilFunc], .func⟩
def ti71 : TI := ⟨1, 8, [.nilFunc], .func⟩
def ti72 : TI := ⟨1, 8, [.nilFunc], .func⟩
def ti73 : TI := ⟨1, 8, [.nilFunc], .func⟩
def ti74 : TI := ⟨1, 8, [.nilFunc], .func⟩
def ti75 : TI := ⟨1, 8, [.nilFunc], .func⟩
def ti76 : TI := ⟨1, 8, [.nilFunc], .func⟩
def ti77 : TI := ⟨1, 8, [.nilFunc], .func⟩
def ti78 : TI := ⟨1, 8, [.nilFunc], .func⟩
def ti80 : TI := ⟨1, 8, [.nilFunc], .func⟩
def ti82 : TI := ⟨1, 8, [.nilFunc], .func⟩
def ti83 : TI := ⟨1, 8, [.nilFunc], .func⟩
def ti84 : TI := ⟨1, 8, [.nilFunc], .func⟩
def ti85 : TI := ⟨1, 8, [.nilFunc], .func⟩
def ti86 : TI := ⟨1, 8, [.nilFunc], .func⟩
def ti88 : TI := ⟨1, 8, [.nilFunc], .func⟩
def ti89 : TI := ⟨1, 8, [.nilFunc], .func⟩
def ti90 : TI := ⟨1, 8, [.nilFunc], .func⟩
def ti91 : TI := ⟨1, 8, [.nilFunc], .func⟩
def ti92 : TI := ⟨1, 8, [.nilFunc], .func⟩
def ti93 : TI := ⟨1, 8, [.nilFunc], .func⟩
def ti94 : TI := ⟨1, 8, [.nilFunc], .func⟩
def ti95 : TI := ⟨1, 8, [.nilFunc], .func⟩
def ti96 : TI := ⟨1, 8, [.nilFunc], .func⟩
def ti97 : TI := ⟨3, 40, [.int .i64 0, .bool false, .slice none 0 0], (.st [(0, 3), (1, 4), (2, 22)])⟩
def ti98 : TI := ⟨3, 40, [.int .i64 0, .bool false, .slice none 0 0], (.st [(0, 3), (1, 4), (2, 22)])⟩
def ti99 : TI := ⟨6, 80, [.int .i64 0, .bool false, .slice none 0 0, .int .i64 0, .bool false, .slice none 0 0], (.st [(0, 98), (3, 98)])⟩
def ti100 : TI := ⟨6, 80, [.int .i64 0, .bool false, .slice none 0 0, .int .i64 0, .bool false, .slice none 0 0], (.st [(0, 98), (3, 98)])⟩
def ti101 : TI := ⟨1, 8, [.nilFunc], .func⟩
def ti102 : TI := ⟨1, 8, [.nilFunc], .func⟩
def ti103 : TI := ⟨1, 8, [.nilFunc], .func⟩
def ti104 : TI := ⟨1, 8, [.nilFunc], .func⟩
def ti105 : TI := ⟨1, 8, [.nilFunc], .func⟩
def ti106 : TI := ⟨1, 8, [.nilFunc], .func⟩
def ti107 : TI := ⟨1, 8, [.nilFunc], .func⟩
def ti108 : TI := ⟨1, 24, [.slice none 0 0], (.sl 114)⟩
def ti109 : TI := ⟨1, 8, [.nilFunc], .func⟩
def ti110 : TI := ⟨1, 24, [.slice none 0 0], (.sl 189)⟩
def ti111 : TI := ⟨2, 32, [.int .i64 0, .slice none 0 0], (.st [(0, 3), (1, 110)])⟩
def ti112 : TI := ⟨2, 32, [.int .i64 0, .slice none 0 0], (.st [(0, 3), (1, 110)])⟩
def ti113 : TI := ⟨4, 64, [.int .i64 0, .slice none 0 0, .int .i64 0, .slice none 0 0], (.st [(0, 112), (2, 112)])⟩
def ti114 : TI := ⟨4, 64, [.int .i64 0, .slice none 0 0, .int .i64 0, .slice none 0 0], (.st [(0, 112), (2, 112)])⟩
def ti115 : TI := ⟨1, 8, [.nilFunc], .func⟩
def ti116 : TI := ⟨1, 8, [.nilFunc], .func⟩
def ti117 : TI := ⟨1, 8, [.nilFunc], .func⟩
def ti118 : TI := ⟨1, 24, [.slice none 0 0], (.sl 112)⟩
def ti119 : TI := ⟨1, 8, [.nilFunc], .func⟩
def ti121 : TI := ⟨1, 8, [.nilFunc], .func⟩
def ti122 : TI := ⟨1, 8, [.nilFunc], .func⟩
def ti123 : TI := ⟨1, 8, [.nilFunc], .func⟩
def ti124 : TI := ⟨1, 8, [.nilFunc], .func⟩
def ti125 : TI := ⟨1, 8, [.nilFunc], .func⟩
def ti126 : TI := ⟨1, 8, [.nilFunc], .func⟩
def ti127 : TI := ⟨1, 8, [.nilFunc], .func⟩
def ti129 : TI := ⟨40, 40, [.bool false, .bool false, .bool false, .bool false, .bool false, .bool false, .bool false, .bool false, .bool false, .bool false, .bool false, .bool false, .bool false, .bool false, .bool false, .bool false, .bool false, .bool false, .bool false, .bool false, .bool false, .bool false, .bool false, .bool false, .bool false, .bool false, .bool false, .bool false, .bool false, .bool false, .bool false, .bool false, .bool false, .bool false, .bool false, .bool false, .bool false, .bool false, .bool false, .bool false], (.arr 40 4)⟩
def ti130 : TI := ⟨40, 40, [.bool false, .bool false, .bool false, .bool false, .bool false, .bool false, .bool false, .bool false, .bool false, .bool false, .bool false, .bool false, .bool false, .bool false, .bool false, .bool false, .bool false, .bool false, .bool false, .bool false, .bool false, .bool false, .bool false, .bool false, .bool false, .bool false, .bool false, .bool false, .bool false, .bool false, .bool false, .bool false, .bool false, .bool false, .bool false, .bool false, .bool false, .bool false, .bool false, .bool false], (.arr 40 4)⟩
def ti131 : TI := ⟨1, 8, [.nilFunc], .func⟩
def ti132 : TI := ⟨1, 8, [.nilFunc], .func⟩
def ti133 : TI := ⟨1, 8, [.nilFunc], .func⟩
def ti134 : TI := ⟨1, 24, [.slice none 0 0], (.sl 59)⟩
def ti135 : TI := ⟨1, 8, [.nilFunc], .func⟩
def ti136 : TI := ⟨1, 8, [.nilFunc], .func⟩
def ti137 : TI := ⟨1, 8, [.nilFunc], .func⟩
def ti138 : TI := ⟨1, 8, [.nilFunc], .func⟩
def ti139 : TI := ⟨1, 8, [.nilFunc], .func⟩
def ti140 : TI := ⟨1, 24, [.slice none 0 0], (.sl 108)⟩
def ti141 : TI := ⟨1, 8, [.nilFunc], .func⟩
def ti142 : TI := ⟨1, 8, [.nilFunc], .func⟩
def ti143 : TI := ⟨1, 8, [.nilFunc], .func⟩
def ti144 : TI := ⟨1, 8, [.nilFunc], .func⟩
def ti145 : TI := ⟨1, 8, [.nilFunc], .func⟩
def ti146 : TI := ⟨1, 8, [.nilFunc], .func⟩
def ti147 : TI := ⟨1, 8, [.nilFunc], .func⟩
def ti148 : TI := ⟨1, 8, [.int .u64 0], (.int .u64)⟩
def ti150 : TI := ⟨1, 8, [.nilFunc], .func⟩
def ti152 : TI := ⟨1, 8, [.nilFunc], .func⟩
def ti153 : TI := ⟨1, 8, [.nilFunc], .func⟩
def ti154 : TI := ⟨1, 8, [.nilFunc], .func⟩
def ti155 : TI := ⟨1, 8, [.nilFunc], .func⟩
def ti156 : TI := ⟨1, 8, [.nilFunc], .func⟩
def ti157 : TI := ⟨1, 8, [.nilFunc], .func⟩
def ti158 : TI := ⟨8, 128, [.int .i64 0, .slice none 0 0, .int .i64 0, .slice none 0 0, .int .i64 0, .slice none 0 0, .int .i64 0, .slice none 0 0], (.st [(0, 114), (4, 114)])⟩
def ti159 : TI := ⟨8, 128, [.int .i64 0, .slice none 0 0, .int .i64 0, .slice none 0 0, .int .i64 0, .slice none 0 0, .int .i64 0, .slice none 0 0], (.st [(0, 114), (4, 114)])⟩
def ti160 : TI := ⟨1, 8, [.nilFunc], .func⟩
def ti162 : TI := ⟨2, 16, [.int .i64 0, .int .i64 0], (.st [(0, 3), (1, 3)])⟩
def ti163 : TI := ⟨2, 16, [.int .i64 0, .int .i64 0], (.st [(0, 3), (1, 3)])⟩
def ti164 : TI := ⟨1, 8, [.nilFunc], .func⟩
def ti166 : TI := ⟨1, 8, [.nilFunc], .func⟩
def ti167 : TI := ⟨1, 8, [.nilFunc], .func⟩
def ti168 : TI := ⟨1, 8, [.nilFunc], .func⟩
def ti169 : TI := ⟨1, 8, [.nilFunc], .func⟩
def ti171 : TI := ⟨1, 8, [.nilFunc], .func⟩
def ti172 : TI := ⟨1, 8, [.nilFunc], .func⟩
def ti173 : TI := ⟨1, 8, [.nilFunc], .func⟩
def ti174 : TI := ⟨1, 8, [.nilFunc], .func⟩
def ti175 : TI := ⟨1, 8, [.nilFunc], .func⟩
def ti176 : TI := ⟨1, 8, [.nilFunc], .func⟩
def ti177 : TI := ⟨1, 8, [.nilFunc], .func⟩
def ti178 : TI := ⟨1, 8, [.nilFunc], .func⟩
def ti179 : TI := ⟨1, 8, [.nilFunc], .func⟩
def ti181 : TI := ⟨1, 8, [.nilFunc], .func⟩
def ti182 : TI := ⟨1, 8, [.nilFunc], .func⟩
def ti183 : TI := ⟨1, 8, [.nilFunc], .func⟩
def ti184 : TI := ⟨1, 8, [.nilFunc], .func⟩
def ti186 : TI := ⟨1, 8, [.nilFunc], .func⟩
def ti187 : TI := ⟨1, 8, [.nilFunc], .func⟩
def ti188 : TI := ⟨1, 8, [.int .u64 0], (.int .u64)⟩
def ti189 : TI := ⟨1, 4, [.int .u32 0], (.int .u32)⟩
def ti191 : TI := ⟨1, 8, [.nilFunc], .func⟩
def ti192 : TI := ⟨1, 8, [.nilFunc], .func⟩
def ti193 : TI := ⟨1, 8, [.nilFunc], .func⟩
def ti194 : TI := ⟨1, 8, [.nilFunc], .func⟩
def ti196 : TI := ⟨1, 8, [.nilFunc], .func⟩
def ti197 : TI := ⟨1, 8, [.nilFunc], .func⟩
def ti199 : TI := ⟨1, 8, [.nilFunc], .func⟩
def ti200 : TI := ⟨1, 8, [.nilFunc], .func⟩
def ti201 : TI := ⟨1, 8, [.nilFunc], .func⟩
def ti202 : TI := ⟨1, 8, [.nilFunc], .func⟩
def ti203 : TI := ⟨1, 8, [.nilFunc], .func⟩
def ti204 : TI := ⟨1, 8, [.nilFunc], .func⟩
def ti205 : TI := ⟨1, 8, [.nilFunc], .func⟩
def ti206 : TI := ⟨1, 8, [.nilFunc], .func⟩
def ti207 : TI := ⟨1, 8, [.nilFunc], .func⟩
def ti208 : TI := ⟨1, 8, [.nilFunc], .func⟩
def ti210 : TI := ⟨1, 8, [.nilFunc], .func⟩
def ti211 : TI := ⟨1, 8, [.nilFunc], .func⟩
def ti212 : TI := ⟨1, 8, [.nilFunc], .func⟩
def ti213 : TI := ⟨1, 8, [.nilFunc], .func⟩
def ti214 : TI := ⟨1, 8, [.nilFunc], .func⟩
def ti215 : TI := ⟨1, 8, [.nilFunc], .func⟩
def ti216 : TI := ⟨1, 8, [.nilFunc], .func⟩
def ti217 : TI := ⟨1, 8, [.nilFunc], .func⟩
def ti218 : TI := ⟨1, 8, [.nilFunc], .func⟩
def ti219 : TI := ⟨1, 8, [.nilFunc], .func⟩
def ti220 : TI := ⟨1, 8, [.nilFunc], .func⟩
def ti221 : TI := ⟨1, 8, [.nilFunc], .func⟩
def ti222 : TI := ⟨1, 8, [.nilFunc], .func⟩
def ti223 : TI := ⟨1, 8, [.nilFunc], .func⟩
def ti224 : TI := ⟨1, 8, [.nilFunc], .func⟩
def ti225 : TI := ⟨1, 8, [.nilFunc], .func⟩
def ti226 : TI := ⟨1, 8, [.nilFunc], .func⟩
def ti227 : TI := ⟨1, 8, [.nilFunc], .func⟩
def ti228 : TI := ⟨1, 8, [.nilFunc], .func⟩
def ti229 : TI := ⟨1, 8, [.nilFunc], .func⟩
def ti230 : TI := ⟨1, 8, [.nilFunc], .func⟩
def ti231 : TI := ⟨1, 8, [.nilFunc], .func⟩
def ti232 : TI := ⟨1, 8, [.nilFunc], .func⟩
def ti233 : TI := ⟨1, 8, [.nilFunc], .func⟩
def ti234 : TI := ⟨1, 8, [.nilFunc], .func⟩
def ti236 : TI := ⟨1, 8, [.nilFunc], .func⟩
def ti237 : TI := ⟨1, 8, [.nilFunc], .func⟩
def ti238 : TI := ⟨1, 8, [.nilFunc], .func⟩
def ti239 : TI := ⟨1, 8, [.nilFunc], .func⟩
def ti240 : TI := ⟨1, 8, [.nilFunc], .func⟩
def ti242 : TI := ⟨1, 8, [.nilFunc], .func⟩
def ti244 : TI := ⟨1, 8, [.nilFunc], .func⟩
def ti245 : TI := ⟨1, 8, [.nilFunc], .func⟩
def ti246 : TI := ⟨1, 8, [.nilFunc], .func⟩
def ti247 : TI := ⟨1, 8, [.nilFunc], .func⟩
def ti248 : TI := ⟨1, 8, [.nilFunc], .func⟩
def ti249 : TI := ⟨1, 8, [.nilFunc], .func⟩
def ti250 : TI := ⟨1, 8, [.nilFunc], .func⟩
def ti251 : TI := ⟨1, 8, [.nilFunc], .func⟩
def ti252 : TI := ⟨1, 8, [.nilFunc], .func⟩
def ti253 : TI := ⟨1, 8, [.nilFunc], .func⟩
def ti255 : TI := ⟨1, 8, [.nilFunc], .func⟩
def ti257 : TI := ⟨1, 8, [.nilFunc], .func⟩
def ti258 : TI := ⟨1, 8, [.nilFunc], .func⟩
def ti262 : TI := ⟨1, 8, [.nilFunc], .func⟩
def ti268 : TI := ⟨1, 1, [.int .u8 0], (.int .u8)⟩
def ti269 : TI := ⟨1, 1, [.int .u8 0], (.int .u8)⟩
def ti270 : TI := ⟨1, 8, [.nilFunc], .func⟩
def ti272 : TI := ⟨1, 4, [.int .i32 0], (.int .i32)⟩
def ti273 : TI := ⟨1, 4, [.int .i32 0], (.int .i32)⟩
def ti276 : TI := ⟨1, 16, [.string ⟨#[]⟩], (.st [(0, 9)])⟩
def ti277 : TI := ⟨1, 16, [.string ⟨#[]⟩], (.st [(0, 9)])⟩
theorem tok1 : TypeOk Try.prog 1 ti1 := aC (z := (.nilFunc)) (by kernel_rfl) rfl Try.underlying1 ⟨_, _, _, rfl⟩ rfl (by decide)
theorem tok2 : TypeOk Try.prog 2 ti2 := aC (z := (.int .i64 0)) (by kernel_rfl) rfl Try.underlying2 rfl rfl (by decide)
theorem tok3 : TypeOk Try.prog 3 ti3 := aC (z := (.int .i64 0)) (by kernel_rfl) rfl Try.underlying3 rfl rfl (by decide)
theorem tok4 : TypeOk Try.prog 4 ti4 := aC (z := (.bool false)) (by kernel_rfl) rfl Try.underlying4 rfl rfl (by decide)
theorem tok5 : TypeOk Try.prog 5 ti5 := aC (z := (.int .u8 0)) (by kernel_rfl) rfl Try.underlying5 rfl rfl (by decide)
theorem tok6 : TypeOk Try.prog 6 ti6 := aC (z := (.int .u8 0)) (by kernel_rfl) rfl Try.underlying6 rfl rfl (by decide)
theorem tok7 : TypeOk Try.prog 7 ti7 := aC (z := (.agg #[.int .i64 0, .int .i64 0, .bool false, .int .u8 0])) (by kernel_rfl) rfl Try.underlying7 ⟨_, rfl, rfl⟩ rfl (by decide)
theorem tok8 : TypeOk Try.prog 8 ti8 := aC (z := (.agg #[.int .i64 0, .int .i64 0, .bool false, .int .u8 0])) (by kernel_rfl) rfl Try.underlying8 ⟨_, rfl, rfl⟩ rfl (by decide)
theorem tok9 : TypeOk Try.prog 9 ti9 := aC (z := (.string ⟨#[]⟩)) (by kernel_rfl) rfl Try.underlying9 rfl rfl (by decide)
theorem tok10 : TypeOk Try.prog 10 ti10 := aC (z := (.string ⟨#[]⟩)) (by kernel_rfl) rfl Try.underlying10 rfl rfl (by decide)
theorem tok11 : TypeOk Try.prog 11 ti11 := aC (z := (.string ⟨#[]⟩)) (by kernel_rfl) rfl Try.underlying11 rfl rfl (by decide)
theorem tok12 : TypeOk Try.prog 12 ti12 := aC (z := (.int .u64 0)) (by kernel_rfl) rfl Try.underlying12 rfl rfl (by decide)
theorem tok13 : TypeOk Try.prog 13 ti13 := aC (z := (.agg #[.string ⟨#[]⟩, .int .u64 0])) (by kernel_rfl) rfl Try.underlying13 ⟨_, rfl, rfl⟩ rfl (by decide)
theorem tok14 : TypeOk Try.prog 14 ti14 := aC (z := (.agg #[.string ⟨#[]⟩, .int .u64 0])) (by kernel_rfl) rfl Try.underlying14 ⟨_, rfl, rfl⟩ rfl (by decide)
theorem tok21 : TypeOk Try.prog 21 ti21 := aC (z := (.int .i32 0)) (by kernel_rfl) rfl Try.underlying21 rfl rfl (by decide)
theorem tok22 : TypeOk Try.prog 22 ti22 := aC (z := (.slice none 0 0)) (by kernel_rfl) rfl Try.underlying22 rfl rfl (by decide)
theorem tok23 : TypeOk Try.prog 23 ti23 := aC (z := (.nilFunc)) (by kernel_rfl) rfl Try.underlying23 ⟨_, _, _, rfl⟩ rfl (by decide)
theorem tok24 : TypeOk Try.prog 24 ti24 := aC (z := (.slice none 0 0)) (by kernel_rfl) rfl Try.underlying24 rfl rfl (by decide)
theorem tok25 : TypeOk Try.prog 25 ti25 := aC (z := (.agg #[.slice none 0 0])) (by kernel_rfl) rfl Try.underlying25 ⟨_, rfl, rfl⟩ rfl (by decide)
theorem tok26 : TypeOk Try.prog 26 ti26 := aC (z := (.agg #[.slice none 0 0])) (by kernel_rfl) rfl Try.underlying26 ⟨_, rfl, rfl⟩ rfl (by decide)
theorem tok27 : TypeOk Try.prog 27 ti27 := aC (z := (.agg #[.int .i64 0, .int .i64 0])) (by kernel_rfl) rfl Try.underlying27 ⟨_, rfl, rfl⟩ rfl (by decide)
theorem tok28 : TypeOk Try.prog 28 ti28 := aC (z := (.agg #[.int .i64 0, .int .i64 0])) (by kernel_rfl) rfl Try.underlying28 ⟨_, rfl, rfl⟩ rfl (by decide)
theorem tok29 : TypeOk Try.prog 29 ti29 := aC (z := (.int .i64 0)) (by kernel_rfl) rfl Try.underlying29 rfl rfl (by decide)
theorem tok31 : TypeOk Try.prog 31 ti31 := aC (z := (.nilFunc)) (by kernel_rfl) rfl Try.underlying31 ⟨_, _, _, rfl⟩ rfl (by decide)
theorem tok32 : TypeOk Try.prog 32 ti32 := aC (z := (.nilFunc)) (by kernel_rfl) rfl Try.underlying32 ⟨_, _, _, rfl⟩ rfl (by decide)
theorem tok33 : TypeOk Try.prog 33 ti33 := aC (z := (.agg #[.int .i64 0, .int .i64 0, .int .i64 0])) (by kernel_rfl) rfl Try.underlying33 ⟨_, rfl, rfl⟩ rfl (by decide)
theorem tok34 : TypeOk Try.prog 34 ti34 := aC (z := (.agg #[.int .i64 0, .int .i64 0, .int .i64 0])) (by kernel_rfl) rfl Try.underlying34 ⟨_, rfl, rfl⟩ rfl (by decide)
theorem tok35 : TypeOk Try.prog 35 ti35 := aC (z := (.slice none 0 0)) (by kernel_rfl) rfl Try.underlying35 rfl rfl (by decide)
theorem tok36 : TypeOk Try.prog 36 ti36 := aC (z := (.agg #[.int .i64 0, .int .i64 0, .slice none 0 0])) (by kernel_rfl) rfl Try.underlying36 ⟨_, rfl, rfl⟩ rfl (by decide)
theorem tok37 : TypeOk Try.prog 37 ti37 := aC (z := (.agg #[.int .i64 0, .int .i64 0, .slice none 0 0])) (by kernel_rfl) rfl Try.underlying37 ⟨_, rfl, rfl⟩ rfl (by decide)
theorem tok38 : TypeOk Try.prog 38 ti38 := aC (z := (.slice none 0 0)) (by kernel_rfl) rfl Try.underlying38 rfl rfl (by decide)
theorem tok39 : TypeOk Try.prog 39 ti39 := aC (z := (.agg #[.int .i64 0, .int .i64 0, .slice none 0 0])) (by kernel_rfl) rfl Try.underlying39 ⟨_, rfl, rfl⟩ rfl (by decide)
theorem tok40 : TypeOk Try.prog 40 ti40 := aC (z := (.agg #[.int .i64 0, .int .i64 0, .slice none 0 0])) (by kernel_rfl) rfl Try.underlying40 ⟨_, rfl, rfl⟩ rfl (by decide)
theorem tok41 : TypeOk Try.prog 41 ti41 := aC (z := (.slice none 0 0)) (by kernel_rfl) rfl Try.underlying41 rfl rfl (by decide)
theorem tok43 : TypeOk Try.prog 43 ti43 := aC (z := (.nilFunc)) (by kernel_rfl) rfl Try.underlying43 ⟨_, _, _, rfl⟩ rfl (by decide)
theorem tok44 : TypeOk Try.prog 44 ti44 := aC (z := (.nilFunc)) (by kernel_rfl) rfl Try.underlying44 ⟨_, _, _, rfl⟩ rfl (by decide)
theorem tok46 : TypeOk Try.prog 46 ti46 := aC (z := (.nilFunc)) (by kernel_rfl) rfl Try.underlying46 ⟨_, _, _, rfl⟩ rfl (by decide)
theorem tok47 : TypeOk Try.prog 47 ti47 := aC (z := (.nilFunc)) (by kernel_rfl) rfl Try.underlying47 ⟨_, _, _, rfl⟩ rfl (by decide)
theorem tok48 : TypeOk Try.prog 48 ti48 := aC (z := (.nilFunc)) (by kernel_rfl) rfl Try.underlying48 ⟨_, _, _, rfl⟩ rfl (by decide)
theorem tok49 : TypeOk Try.prog 49 ti49 := aC (z := (.nilFunc)) (by kernel_rfl) rfl Try.underlying49 ⟨_, _, _, rfl⟩ rfl (by decide)
theorem tok51 : TypeOk Try.prog 51 ti51 := aC (z := (.nilFunc)) (by kernel_rfl) rfl Try.underlying51 ⟨_, _, _, rfl⟩ rfl (by decide)
theorem tok53 : TypeOk Try.prog 53 ti53 := aC (z := (.nilFunc)) (by kernel_rfl) rfl Try.underlying53 ⟨_, _, _, rfl⟩ rfl (by decide)
theorem tok54 : TypeOk Try.prog 54 ti54 := aC (z := (.slice none 0 0)) (by kernel_rfl) rfl Try.underlying54 rfl rfl (by decide)
theorem tok55 : TypeOk Try.prog 55 ti55 := aC (z := (.nilFunc)) (by kernel_rfl) rfl Try.underlying55 ⟨_, _, _, rfl⟩ rfl (by decide)
theorem tok56 : TypeOk Try.prog 56 ti56 := aC (z := (.nilFunc)) (by kernel_rfl) rfl Try.underlying56 ⟨_, _, _, rfl⟩ rfl (by decide)
theorem tok57 : TypeOk Try.prog 57 ti57 := aC (z := (.nilFunc)) (by kernel_rfl) rfl Try.underlying57 ⟨_, _, _, rfl⟩ rfl (by decide)
theorem tok58 : TypeOk Try.prog 58 ti58 := aC (z := (.nilFunc)) (by kernel_rfl) rfl Try.underlying58 ⟨_, _, _, rfl⟩ rfl (by decide)
theorem tok59 : TypeOk Try.prog 59 ti59 := aC (z := (.slice none 0 0)) (by kernel_rfl) rfl Try.underlying59 rfl rfl (by decide)
theorem tok60 : TypeOk Try.prog 60 ti60 := aC (z := (.nilFunc)) (by kernel_rfl) rfl Try.underlying60 ⟨_, _, _, rfl⟩ rfl (by decide)
theorem tok61 : TypeOk Try.prog 61 ti61 := aC (z := (.nilFunc)) (by kernel_rfl) rfl Try.underlying61 ⟨_, _, _, rfl⟩ rfl (by decide)
theorem tok62 : TypeOk Try.prog 62 ti62 := aC (z := (.nilFunc)) (by kernel_rfl) rfl Try.underlying62 ⟨_, _, _, rfl⟩ rfl (by decide)
theorem tok64 : TypeOk Try.prog 64 ti64 := aC (z := (.nilFunc)) (by kernel_rfl) rfl Try.underlying64 ⟨_, _, _, rfl⟩ rfl (by decide)
theorem tok66 : TypeOk Try.prog 66 ti66 := aC (z := (.nilFunc)) (by kernel_rfl) rfl Try.underlying66 ⟨_, _, _, rfl⟩ rfl (by decide)
theorem tok67 : TypeOk Try.prog 67 ti67 := aC (z := (.nilFunc)) (by kernel_rfl) rfl Try.underlying67 ⟨_, _, _, rfl⟩ rfl (by decide)
theorem tok68 : TypeOk Try.prog 68 ti68 := aC (z := (.nilFunc)) (by kernel_rfl) rfl Try.underlying68 ⟨_, _, _, rfl⟩ rfl (by decide)
theorem tok70 : TypeOk Try.prog 70 ti70 := aC (z := (.nilFunc)) (by kernel_rfl) rfl Try.underlying70 ⟨_, _, _, rfl⟩ rfl (by decide)
theorem tok71 : TypeOk Try.prog 71 ti71 := aC (z := (.nilFunc)) (by kernel_rfl) rfl Try.underlying71 ⟨_, _, _, rfl⟩ rfl (by decide)
theorem tok72 : TypeOk Try.prog 72 ti72 := aC (z := (.nilFunc)) (by kernel_rfl) rfl Try.underlying72 ⟨_, _, _, rfl⟩ rfl (by decide)
theorem tok73 : TypeOk Try.prog 73 ti73 := aC (z := (.nilFunc)) (by kernel_rfl) rfl Try.underlying73 ⟨_, _, _, rfl⟩ rfl (by decide)
theorem tok74 : TypeOk Try.prog 74 ti74 := aC (z := (.nilFunc)) (by kernel_rfl) rfl Try.underlying74 ⟨_, _, _, rfl⟩ rfl (by decide)
theorem tok75 : TypeOk Try.prog 75 ti75 := aC (z := (.nilFunc)) (by kernel_rfl) rfl Try.underlying75 ⟨_, _, _, rfl⟩ rfl (by decide)
theorem tok76 : TypeOk Try.prog 76 ti76 := aC (z := (.nilFunc)) (by kernel_rfl) rfl Try.underlying76 ⟨_, _, _, rfl⟩ rfl (by decide)
theorem tok77 : TypeOk Try.prog 77 ti77 := aC (z := (.nilFunc)) (by kernel_rfl) rfl Try.underlying77 ⟨_, _, _, rfl⟩ rfl (by decide)
theorem tok78 : TypeOk Try.prog 78 ti78 := aC (z := (.nilFunc)) (by kernel_rfl) rfl Try.underlying78 ⟨_, _, _, rfl⟩ rfl (by decide)
theorem tok80 : TypeOk Try.prog 80 ti80 := aC (z := (.nilFunc)) (by kernel_rfl) rfl Try.underlying80 ⟨_, _, _, rfl⟩ rfl (by decide)
theorem tok82 : TypeOk Try.prog 82 ti82 := aC (z := (.nilFunc)) (by kernel_rfl) rfl Try.underlying82 ⟨_, _, _, rfl⟩ rfl (by decide)
theorem tok83 : TypeOk Try.prog 83 ti83 := aC (z := (.nilFunc)) (by kernel_rfl) rfl Try.underlying83 ⟨_, _, _, rfl⟩ rfl (by decide)
theorem tok84 : TypeOk Try.prog 84 ti84 := aC (z := (.nilFunc)) (by kernel_rfl) rfl Try.underlying84 ⟨_, _, _, rfl⟩ rfl (by decide)
theorem tok85 : TypeOk Try.prog 85 ti85 := aC (z := (.nilFunc)) (by kernel_rfl) rfl Try.underlying85 ⟨_, _, _, rfl⟩ rfl (by decide)
theorem tok86 : TypeOk Try.prog 86 ti86 := aC (z := (.nilFunc)) (by kernel_rfl) rfl Try.underlying86 ⟨_, _, _, rfl⟩ rfl (by decide)
theorem tok88 : TypeOk Try.prog 88 ti88 := aC (z := (.nilFunc)) (by kernel_rfl) rfl Try.underlying88 ⟨_, _, _, rfl⟩ rfl (by decide)
theorem tok89 : TypeOk Try.prog 89 ti89 := aC (z := (.nilFunc)) (by kernel_rfl) rfl Try.underlying89 ⟨_, _, _, rfl⟩ rfl (by decide)
theorem tok90 : TypeOk Try.prog 90 ti90 := aC (z := (.nilFunc)) (by kernel_rfl) rfl Try.underlying90 ⟨_, _, _, rfl⟩ rfl (by decide)
theorem tok91 : TypeOk Try.prog 91 ti91 := aC (z := (.nilFunc)) (by kernel_rfl) rfl Try.underlying91 ⟨_, _, _, rfl⟩ rfl (by decide)
theorem tok92 : TypeOk Try.prog 92 ti92 := aC (z := (.nilFunc)) (by kernel_rfl) rfl Try.underlying92 ⟨_, _, _, rfl⟩ rfl (by decide)
theorem tok93 : TypeOk Try.prog 93 ti93 := aC (z := (.nilFunc)) (by kernel_rfl) rfl Try.underlying93 ⟨_, _, _, rfl⟩ rfl (by decide)
theorem tok94 : TypeOk Try.prog 94 ti94 := aC (z := (.nilFunc)) (by kernel_rfl) rfl Try.underlying94 ⟨_, _, _, rfl⟩ rfl (by decide)
theorem tok95 : TypeOk Try.prog 95 ti95 := aC (z := (.nilFunc)) (by kernel_rfl) rfl Try.underlying95 ⟨_, _, _, rfl⟩ rfl (by decide)
theorem tok96 : TypeOk Try.prog 96 ti96 := aC (z := (.nilFunc)) (by kernel_rfl) rfl Try.underlying96 ⟨_, _, _, rfl⟩ rfl (by decide)
theorem tok97 : TypeOk Try.prog 97 ti97 := aC (z := (.agg #[.int .i64 0, .bool false, .slice none 0 0])) (by kernel_rfl) rfl Try.underlying97 ⟨_, rfl, rfl⟩ rfl (by decide)
theorem tok98 : TypeOk Try.prog 98 ti98 := aC (z := (.agg #[.int .i64 0, .bool false, .slice none 0 0])) (by kernel_rfl) rfl Try.underlying98 ⟨_, rfl, rfl⟩ rfl (by decide)
theorem tok99 : TypeOk Try.prog 99 ti99 := aC (z := (.agg #[.int .i64 0, .bool false, .slice none 0 0, .int .i64 0, .bool false, .slice none 0 0])) (by kernel_rfl) rfl Try.underlying99 ⟨_, rfl, rfl⟩ rfl (by decide)
theorem tok100 : TypeOk Try.prog 100 ti100 := aC (z := (.agg #[.int .i64 0, .bool false, .slice none 0 0, .int .i64 0, .bool false, .slice none 0 0])) (by kernel_rfl) rfl Try.underlying100 ⟨_, rfl, rfl⟩ rfl (by decide)
theorem tok101 : TypeOk Try.prog 101 ti101 := aC (z := (.nilFunc)) (by kernel_rfl) rfl Try.underlying101 ⟨_, _, _, rfl⟩ rfl (by decide)
theorem tok102 : TypeOk Try.prog 102 ti102 := aC (z := (.nilFunc)) (by kernel_rfl) rfl Try.underlying102 ⟨_, _, _, rfl⟩ rfl (by decide)
theorem tok103 : TypeOk Try.prog 103 ti103 := aC (z := (.nilFunc)) (by kernel_rfl) rfl Try.underlying103 ⟨_, _, _, rfl⟩ rfl (by decide)
theorem tok104 : TypeOk Try.prog 104 ti104 := aC (z := (.nilFunc)) (by kernel_rfl) rfl Try.underlying104 ⟨_, _, _, rfl⟩ rfl (by decide)
theorem tok105 : TypeOk Try.prog 105 ti105 := aC (z := (.nilFunc)) (by kernel_rfl) rfl Try.underlying105 ⟨_, _, _, rfl⟩ rfl (by decide)
theorem tok106 : TypeOk Try.prog 106 ti106 := aC (z := (.nilFunc)) (by kernel_rfl) rfl Try.underlying106 ⟨_, _, _, rfl⟩ rfl (by decide)
theorem tok107 : TypeOk Try.prog 107 ti107 := aC (z := (.nilFunc)) (by kernel_rfl) rfl Try.underlying107 ⟨_, _, _, rfl⟩ rfl (by decide)
theorem tok108 : TypeOk Try.prog 108 ti108 := aC (z := (.slice none 0 0)) (by kernel_rfl) rfl Try.underlying108 rfl rfl (by decide)
theorem tok109 : TypeOk Try.prog 109 ti109 := aC (z := (.nilFunc)) (by kernel_rfl) rfl Try.underlying109 ⟨_, _, _, rfl⟩ rfl (by decide)
theorem tok110 : TypeOk Try.prog 110 ti110 := aC (z := (.slice none 0 0)) (by kernel_rfl) rfl Try.underlying110 rfl rfl (by decide)
theorem tok111 : TypeOk Try.prog 111 ti111 := aC (z := (.agg #[.int .i64 0, .slice none 0 0])) (by kernel_rfl) rfl Try.underlying111 ⟨_, rfl, rfl⟩ rfl (by decide)
theorem tok112 : TypeOk Try.prog 112 ti112 := aC (z := (.agg #[.int .i64 0, .slice none 0 0])) (by kernel_rfl) rfl Try.underlying112 ⟨_, rfl, rfl⟩ rfl (by decide)
theorem tok113 : TypeOk Try.prog 113 ti113 := aC (z := (.agg #[.int .i64 0, .slice none 0 0, .int .i64 0, .slice none 0 0])) (by kernel_rfl) rfl Try.underlying113 ⟨_, rfl, rfl⟩ rfl (by decide)
theorem tok114 : TypeOk Try.prog 114 ti114 := aC (z := (.agg #[.int .i64 0, .slice none 0 0, .int .i64 0, .slice none 0 0])) (by kernel_rfl) rfl Try.underlying114 ⟨_, rfl, rfl⟩ rfl (by decide)
theorem tok115 : TypeOk Try.prog 115 ti115 := aC (z := (.nilFunc)) (by kernel_rfl) rfl Try.underlying115 ⟨_, _, _, rfl⟩ rfl (by decide)
theorem tok116 : TypeOk Try.prog 116 ti116 := aC (z := (.nilFunc)) (by kernel_rfl) rfl Try.underlying116 ⟨_, _, _, rfl⟩ rfl (by decide)
theorem tok117 : TypeOk Try.prog 117 ti117 := aC (z := (.nilFunc)) (by kernel_rfl) rfl Try.underlying117 ⟨_, _, _, rfl⟩ rfl (by decide)
theorem tok118 : TypeOk Try.prog 118 ti118 := aC (z := (.slice none 0 0)) (by kernel_rfl) rfl Try.underlying118 rfl rfl (by decide)
theorem tok119 : TypeOk Try.prog 119 ti119 := aC (z := (.nilFunc)) (by kernel_rfl) rfl Try.underlying119 ⟨_, _, _, rfl⟩ rfl (by decide)
theorem tok121 : TypeOk Try.prog 121 ti121 := aC (z := (.nilFunc)) (by kernel_rfl) rfl Try.underlying121 ⟨_, _, _, rfl⟩ rfl (by decide)
theorem tok122 : TypeOk Try.prog 122 ti122 := aC (z := (.nilFunc)) (by kernel_rfl) rfl Try.underlying122 ⟨_, _, _, rfl⟩ rfl (by decide)
theorem tok123 : TypeOk Try.prog 123 ti123 := aC (z := (.nilFunc)) (by kernel_rfl) rfl Try.underlying123 ⟨_, _, _, rfl⟩ rfl (by decide)
theorem tok124 : TypeOk Try.prog 124 ti124 := aC (z := (.nilFunc)) (by kernel_rfl) rfl Try.underlying124 ⟨_, _, _, rfl⟩ rfl (by decide)
theorem tok125 : TypeOk Try.prog 125 ti125 := aC (z := (.nilFunc)) (by kernel_rfl) rfl Try.underlying125 ⟨_, _, _, rfl⟩ rfl (by decide)
theorem tok126 : TypeOk Try.prog 126 ti126 := aC (z := (.nilFunc)) (by kernel_rfl) rfl Try.underlying126 ⟨_, _, _, rfl⟩ rfl (by decide)
theorem tok127 : TypeOk Try.prog 127 ti127 := aC (z := (.nilFunc)) (by kernel_rfl) rfl Try.underlying127 ⟨_, _, _, rfl⟩ rfl (by decide)
theorem tok129 : TypeOk Try.prog 129 ti129 := aC (z := (.agg #[.bool false, .bool false, .bool false, .bool false, .bool false, .bool false, .bool false, .bool false, .bool false, .bool false, .bool false, .bool false, .bool false, .bool false, .bool false, .bool false, .bool false, .bool false, .bool false, .bool false, .bool false, .bool false, .bool false, .bool false, .bool false, .bool false, .bool false, .bool false, .bool false, .bool false, .bool false, .bool false, .bool false, .bool false, .bool false, .bool false, .bool false, .bool false, .bool false, .bool false])) (by kernel_rfl) rfl Try.underlying129 rfl rfl (by decide)
theorem tok130 : TypeOk Try.prog 130 ti130 := aC (z := (.agg #[.bool false, .bool false, .bool false, .bool false, .bool false, .bool false, .bool false, .bool false, .bool false, .bool false, .bool false, .bool false, .bool false, .bool false, .bool false, .bool false, .bool false, .bool false, .bool false, .bool false, .bool false, .bool false, .bool false, .bool false, .bool false, .bool false, .bool false, .bool false, .bool false, .bool false, .bool false, .bool false, .bool false, .bool false, .bool false, .bool false, .bool false, .bool false, .bool false, .bool false])) (by kernel_rfl) rfl Try.underlying130 rfl rfl (by decide)
theorem tok131 : TypeOk Try.prog 131 ti131 := aC (z := (.nilFunc)) (by kernel_rfl) rfl Try.underlying131 ⟨_, _, _, rfl⟩ rfl (by decide)
theorem tok132 : TypeOk Try.prog 132 ti132 := aC (z := (.nilFunc)) (by kernel_rfl) rfl Try.underlying132 ⟨_, _, _, rfl⟩ rfl (by decide)
theorem tok133 : TypeOk Try.prog 133 ti133 := aC (z := (.nilFunc)) (by kernel_rfl) rfl Try.underlying133 ⟨_, _, _, rfl⟩ rfl (by decide)
theorem tok134 : TypeOk Try.prog 134 ti134 := aC (z := (.slice none 0 0)) (by kernel_rfl) rfl Try.underlying134 rfl rfl (by decide)
theorem tok135 : TypeOk Try.prog 135 ti135 := aC (z := (.nilFunc)) (by kernel_rfl) rfl Try.underlying135 ⟨_, _, _, rfl⟩ rfl (by decide)
theorem tok136 : TypeOk Try.prog 136 ti136 := aC (z := (.nilFunc)) (by kernel_rfl) rfl Try.underlying136 ⟨_, _, _, rfl⟩ rfl (by decide)
theorem tok137 : TypeOk Try.prog 137 ti137 := aC (z := (.nilFunc)) (by kernel_rfl) rfl Try.underlying137 ⟨_, _, _, rfl⟩ rfl (by decide)
theorem tok138 : TypeOk Try.prog 138 ti138 := aC (z := (.nilFunc)) (by kernel_rfl) rfl Try.underlying138 ⟨_, _, _, rfl⟩ rfl (by decide)
theorem tok139 : TypeOk Try.prog 139 ti139 := aC (z := (.nilFunc)) (by kernel_rfl) rfl Try.underlying139 ⟨_, _, _, rfl⟩ rfl (by decide)
theorem tok140 : TypeOk Try.prog 140 ti140 := aC (z := (.slice none 0 0)) (by kernel_rfl) rfl Try.underlying140 rfl rfl (by decide)
theorem tok141 : TypeOk Try.prog 141 ti141 := aC (z := (.nilFunc)) (by kernel_rfl) rfl Try.underlying141 ⟨_, _, _, rfl⟩ rfl (by decide)
theorem tok142 : TypeOk Try.prog 142 ti142 := aC (z := (.nilFunc)) (by kernel_rfl) rfl Try.underlying142 ⟨_, _, _, rfl⟩ rfl (by decide)
theorem tok143 : TypeOk Try.prog 143 ti143 := aC (z := (.nilFunc)) (by kernel_rfl) rfl Try.underlying143 ⟨_, _, _, rfl⟩ rfl (by decide)
theorem tok144 : TypeOk Try.prog 144 ti144 := aC (z := (.nilFunc)) (by kernel_rfl) rfl Try.underlying144 ⟨_, _, _, rfl⟩ rfl (by decide)
theorem tok145 : TypeOk Try.prog 145 ti145 := aC (z := (.nilFunc)) (by kernel_rfl) rfl Try.underlying145 ⟨_, _, _, rfl⟩ rfl (by decide)
theorem tok146 : TypeOk Try.prog 146 ti146 := aC (z := (.nilFunc)) (by kernel_rfl) rfl Try.underlying146 ⟨_, _, _, rfl⟩ rfl (by decide)
theorem tok147 : TypeOk Try.prog 147 ti147 := aC (z := (.nilFunc)) (by kernel_rfl) rfl Try.underlying147 ⟨_, _, _, rfl⟩ rfl (by decide)
theorem tok148 : TypeOk Try.prog 148 ti148 := aC (z := (.int .u64 0)) (by kernel_rfl) rfl Try.underlying148 rfl rfl (by decide)
theorem tok150 : TypeOk Try.prog 150 ti150 := aC (z := (.nilFunc)) (by kernel_rfl) rfl Try.underlying150 ⟨_, _, _, rfl⟩ rfl (by decide)
theorem tok152 : TypeOk Try.prog 152 ti152 := aC (z := (.nilFunc)) (by kernel_rfl) rfl Try.underlying152 ⟨_, _, _, rfl⟩ rfl (by decide)
theorem tok153 : TypeOk Try.prog 153 ti153 := aC (z := (.nilFunc)) (by kernel_rfl) rfl Try.underlying153 ⟨_, _, _, rfl⟩ rfl (by decide)
theorem tok154 : TypeOk Try.prog 154 ti154 := aC (z := (.nilFunc)) (by kernel_rfl) rfl Try.underlying154 ⟨_, _, _, rfl⟩ rfl (by decide)
theorem tok155 : TypeOk Try.prog 155 ti155 := aC (z := (.nilFunc)) (by kernel_rfl) rfl Try.underlying155 ⟨_, _, _, rfl⟩ rfl (by decide)
theorem tok156 : TypeOk Try.prog 156 ti156 := aC (z := (.nilFunc)) (by kernel_rfl) rfl Try.underlying156 ⟨_, _, _, rfl⟩ rfl (by decide)
theorem tok157 : TypeOk Try.prog 157 ti157 := aC (z := (.nilFunc)) (by kernel_rfl) rfl Try.underlying157 ⟨_, _, _, rfl⟩ rfl (by decide)
theorem tok158 : TypeOk Try.prog 158 ti158 := aC (z := (.agg #[.int .i64 0, .slice none 0 0, .int .i64 0, .slice none 0 0, .int .i64 0, .slice none 0 0, .int .i64 0, .slice none 0 0])) (by kernel_rfl) rfl Try.underlying158 ⟨_, rfl, rfl⟩ rfl (by decide)
theorem tok159 : TypeOk Try.prog 159 ti159 := aC (z := (.agg #[.int .i64 0, .slice none 0 0, .int .i64 0, .slice none 0 0, .int .i64 0, .slice none 0 0, .int .i64 0, .slice none 0 0])) (by kernel_rfl) rfl Try.underlying159 ⟨_, rfl, rfl⟩ rfl (by decide)
theorem tok160 : TypeOk Try.prog 160 ti160 := aC (z := (.nilFunc)) (by kernel_rfl) rfl Try.underlying160 ⟨_, _, _, rfl⟩ rfl (by decide)
theorem tok162 : TypeOk Try.prog 162 ti162 := aC (z := (.agg #[.int .i64 0, .int .i64 0])) (by kernel_rfl) rfl Try.underlying162 ⟨_, rfl, rfl⟩ rfl (by decide)
theorem tok163 : TypeOk Try.prog 163 ti163 := aC (z := (.agg #[.int .i64 0, .int .i64 0])) (by kernel_rfl) rfl Try.underlying163 ⟨_, rfl, rfl⟩ rfl (by decide)
theorem tok164 : TypeOk Try.prog 164 ti164 := aC (z := (.nilFunc)) (by kernel_rfl) rfl Try.underlying164 ⟨_, _, _, rfl⟩ rfl (by decide)
theorem tok166 : TypeOk Try.prog 166 ti166 := aC (z := (.nilFunc)) (by kernel_rfl) rfl Try.underlying166 ⟨_, _, _, rfl⟩ rfl (by decide)
theorem tok167 : TypeOk Try.prog 167 ti167 := aC (z := (.nilFunc)) (by kernel_rfl) rfl Try.underlying167 ⟨_, _, _, rfl⟩ rfl (by decide)
theorem tok168 : TypeOk Try.prog 168 ti168 := aC (z := (.nilFunc)) (by kernel_rfl) rfl Try.underlying168 ⟨_, _, _, rfl⟩ rfl (by decide)
theorem tok169 : TypeOk Try.prog 169 ti169 := aC (z := (.nilFunc)) (by kernel_rfl) rfl Try.underlying169 ⟨_, _, _, rfl⟩ rfl (by decide)
theorem tok171 : TypeOk Try.prog 171 ti171 := aC (z := (.nilFunc)) (by kernel_rfl) rfl Try.underlying171 ⟨_, _, _, rfl⟩ rfl (by decide)
theorem tok172 : TypeOk Try.prog 172 ti172 := aC (z := (.nilFunc)) (by kernel_rfl) rfl Try.underlying172 ⟨_, _, _, rfl⟩ rfl (by decide)
theorem tok173 : TypeOk Try.prog 173 ti173 := aC (z := (.nilFunc)) (by kernel_rfl) rfl Try.underlying173 ⟨_, _, _, rfl⟩ rfl (by decide)
theorem tok174 : TypeOk Try.prog 174 ti174 := aC (z := (.nilFunc)) (by kernel_rfl) rfl Try.underlying174 ⟨_, _, _, rfl⟩ rfl (by decide)
theorem tok175 : TypeOk Try.prog 175 ti175 := aC (z := (.nilFunc)) (by kernel_rfl) rfl Try.underlying175 ⟨_, _, _, rfl⟩ rfl (by decide)
theorem tok176 : TypeOk Try.prog 176 ti176 := aC (z := (.nilFunc)) (by kernel_rfl) rfl Try.underlying176 ⟨_, _, _, rfl⟩ rfl (by decide)
theorem tok177 : TypeOk Try.prog 177 ti177 := aC (z := (.nilFunc)) (by kernel_rfl) rfl Try.underlying177 ⟨_, _, _, rfl⟩ rfl (by decide)
theorem tok178 : TypeOk Try.prog 178 ti178 := aC (z := (.nilFunc)) (by kernel_rfl) rfl Try.underlying178 ⟨_, _, _, rfl⟩ rfl (by decide)
theorem tok179 : TypeOk Try.prog 179 ti179 := aC (z := (.nilFunc)) (by kernel_rfl) rfl Try.underlying179 ⟨_, _, _, rfl⟩ rfl (by decide)
theorem tok181 : TypeOk Try.prog 181 ti181 := aC (z := (.nilFunc)) (by kernel_rfl) rfl Try.underlying181 ⟨_, _, _, rfl⟩ rfl (by decide)
theorem tok182 : TypeOk Try.prog 182 ti182 := aC (z := (.nilFunc)) (by kernel_rfl) rfl Try.underlying182 ⟨_, _, _, rfl⟩ rfl (by decide)
theorem tok183 : TypeOk Try.prog 183 ti183 := aC (z := (.nilFunc)) (by kernel_rfl) rfl Try.underlying183 ⟨_, _, _, rfl⟩ rfl (by decide)
theorem tok184 : TypeOk Try.prog 184 ti184 := aC (z := (.nilFunc)) (by kernel_rfl) rfl Try.underlying184 ⟨_, _, _, rfl⟩ rfl (by decide)
theorem tok186 : TypeOk Try.prog 186 ti186 := aC (z := (.nilFunc)) (by kernel_rfl) rfl Try.underlying186 ⟨_, _, _, rfl⟩ rfl (by decide)
theorem tok187 : TypeOk Try.prog 187 ti187 := aC (z := (.nilFunc)) (by kernel_rfl) rfl Try.underlying187 ⟨_, _, _, rfl⟩ rfl (by decide)
theorem tok188 : TypeOk Try.prog 188 ti188 := aC (z := (.int .u64 0)) (by kernel_rfl) rfl Try.underlying188 rfl rfl (by decide)
theorem tok189 : TypeOk Try.prog 189 ti189 := aC (z := (.int .u32 0)) (by kernel_rfl) rfl Try.underlying189 rfl rfl (by decide)
theorem tok191 : TypeOk Try.prog 191 ti191 := aC (z := (.nilFunc)) (by kernel_rfl) rfl Try.underlying191 ⟨_, _, _, rfl⟩ rfl (by decide)
theorem tok192 : TypeOk Try.prog 192 ti192 := aC (z := (.nilFunc)) (by kernel_rfl) rfl Try.underlying192 ⟨_, _, _, rfl⟩ rfl (by decide)
theorem tok193 : TypeOk Try.prog 193 ti193 := aC (z := (.nilFunc)) (by kernel_rfl) rfl Try.underlying193 ⟨_, _, _, rfl⟩ rfl (by decide)
theorem tok194 : TypeOk Try.prog 194 ti194 := aC (z := (.nilFunc)) (by kernel_rfl) rfl Try.underlying194 ⟨_, _, _, rfl⟩ rfl (by decide)
theorem tok196 : TypeOk Try.prog 196 ti196 := aC (z := (.nilFunc)) (by kernel_rfl) rfl Try.underlying196 ⟨_, _, _, rfl⟩ rfl (by decide)
theorem tok197 : TypeOk Try.prog 197 ti197 := aC (z := (.nilFunc)) (by kernel_rfl) rfl Try.underlying197 ⟨_, _, _, rfl⟩ rfl (by decide)
theorem tok199 : TypeOk Try.prog 199 ti199 := aC (z := (.nilFunc)) (by kernel_rfl) rfl Try.underlying199 ⟨_, _, _, rfl⟩ rfl (by decide)
theorem tok200 : TypeOk Try.prog 200 ti200 := aC (z := (.nilFunc)) (by kernel_rfl) rfl Try.underlying200 ⟨_, _, _, rfl⟩ rfl (by decide)
theorem tok201 : TypeOk Try.prog 201 ti201 := aC (z := (.nilFunc)) (by kernel_rfl) rfl Try.underlying201 ⟨_, _, _, rfl⟩ rfl (by decide)
theorem tok202 : TypeOk Try.prog 202 ti202 := aC (z := (.nilFunc)) (by kernel_rfl) rfl Try.underlying202 ⟨_, _, _, rfl⟩ rfl (by decide)
theorem tok203 : TypeOk Try.prog 203 ti203 := aC (z := (.nilFunc)) (by kernel_rfl) rfl Try.underlying203 ⟨_, _, _, rfl⟩ rfl (by decide)
theorem tok204 : TypeOk Try.prog 204 ti204 := aC (z := (.nilFunc)) (by kernel_rfl) rfl Try.underlying204 ⟨_, _, _, rfl⟩ rfl (by decide)
theorem tok205 : TypeOk Try.prog 205 ti205 := aC (z := (.nilFunc)) (by kernel_rfl) rfl Try.underlying205 ⟨_, _, _, rfl⟩ rfl (by decide)
theorem tok206 : TypeOk Try.prog 206 ti206 := aC (z := (.nilFunc)) (by kernel_rfl) rfl Try.underlying206 ⟨_, _, _, rfl⟩ rfl (by decide)
theorem tok207 : TypeOk Try.prog 207 ti207 := aC (z := (.nilFunc)) (by kernel_rfl) rfl Try.underlying207 ⟨_, _, _, rfl⟩ rfl (by decide)
theorem tok208 : TypeOk Try.prog 208 ti208 := aC (z := (.nilFunc)) (by kernel_rfl) rfl Try.underlying208 ⟨_, _, _, rfl⟩ rfl (by decide)
theorem tok210 : TypeOk Try.prog 210 ti210 := aC (z := (.nilFunc)) (by kernel_rfl) rfl Try.underlying210 ⟨_, _, _, rfl⟩ rfl (by decide)
theorem tok211 : TypeOk Try.prog 211 ti211 := aC (z := (.nilFunc)) (by kernel_rfl) rfl Try.underlying211 ⟨_, _, _, rfl⟩ rfl (by decide)
theorem tok212 : TypeOk Try.prog 212 ti212 := aC (z := (.nilFunc)) (by kernel_rfl) rfl Try.underlying212 ⟨_, _, _, rfl⟩ rfl (by decide)
theorem tok213 : TypeOk Try.prog 213 ti213 := aC (z := (.nilFunc)) (by kernel_rfl) rfl Try.underlying213 ⟨_, _, _, rfl⟩ rfl (by decide)
theorem tok214 : TypeOk Try.prog 214 ti214 := aC (z := (.nilFunc)) (by kernel_rfl) rfl Try.underlying214 ⟨_, _, _, rfl⟩ rfl (by decide)
theorem tok215 : TypeOk Try.prog 215 ti215 := aC (z := (.nilFunc)) (by kernel_rfl) rfl Try.underlying215 ⟨_, _, _, rfl⟩ rfl (by decide)
theorem tok216 : TypeOk Try.prog 216 ti216 := aC (z := (.nilFunc)) (by kernel_rfl) rfl Try.underlying216 ⟨_, _, _, rfl⟩ rfl (by decide)
theorem tok217 : TypeOk Try.prog 217 ti217 := aC (z := (.nilFunc)) (by kernel_rfl) rfl Try.underlying217 ⟨_, _, _, rfl⟩ rfl (by decide)
theorem tok218 : TypeOk Try.prog 218 ti218 := aC (z := (.nilFunc)) (by kernel_rfl) rfl Try.underlying218 ⟨_, _, _, rfl⟩ rfl (by decide)
theorem tok219 : TypeOk Try.prog 219 ti219 := aC (z := (.nilFunc)) (by kernel_rfl) rfl Try.underlying219 ⟨_, _, _, rfl⟩ rfl (by decide)
theorem tok220 : TypeOk Try.prog 220 ti220 := aC (z := (.nilFunc)) (by kernel_rfl) rfl Try.underlying220 ⟨_, _, _, rfl⟩ rfl (by decide)
theorem tok221 : TypeOk Try.prog 221 ti221 := aC (z := (.nilFunc)) (by kernel_rfl) rfl Try.underlying221 ⟨_, _, _, rfl⟩ rfl (by decide)
theorem tok222 : TypeOk Try.prog 222 ti222 := aC (z := (.nilFunc)) (by kernel_rfl) rfl Try.underlying222 ⟨_, _, _, rfl⟩ rfl (by decide)
theorem tok223 : TypeOk Try.prog 223 ti223 := aC (z := (.nilFunc)) (by kernel_rfl) rfl Try.underlying223 ⟨_, _, _, rfl⟩ rfl (by decide)
theorem tok224 : TypeOk Try.prog 224 ti224 := aC (z := (.nilFunc)) (by kernel_rfl) rfl Try.underlying224 ⟨_, _, _, rfl⟩ rfl (by decide)
theorem tok225 : TypeOk Try.prog 225 ti225 := aC (z := (.nilFunc)) (by kernel_rfl) rfl Try.underlying225 ⟨_, _, _, rfl⟩ rfl (by decide)
theorem tok226 : TypeOk Try.prog 226 ti226 := aC (z := (.nilFunc)) (by kernel_rfl) rfl Try.underlying226 ⟨_, _, _, rfl⟩ rfl (by decide)
theorem tok227 : TypeOk Try.prog 227 ti227 := aC (z := (.nilFunc)) (by kernel_rfl) rfl Try.underlying227 ⟨_, _, _, rfl⟩ rfl (by decide)
theorem tok228 : TypeOk Try.prog 228 ti228 := aC (z := (.nilFunc)) (by kernel_rfl) rfl Try.underlying228 ⟨_, _, _, rfl⟩ rfl (by decide)
theorem tok229 : TypeOk Try.prog 229 ti229 := aC (z := (.nilFunc)) (by kernel_rfl) rfl Try.underlying229 ⟨_, _, _, rfl⟩ rfl (by decide)
theorem tok230 : TypeOk Try.prog 230 ti230 := aC (z := (.nilFunc)) (by kernel_rfl) rfl Try.underlying230 ⟨_, _, _, rfl⟩ rfl (by decide)
theorem tok231 : TypeOk Try.prog 231 ti231 := aC (z := (.nilFunc)) (by kernel_rfl) rfl Try.underlying231 ⟨_, _, _, rfl⟩ rfl (by decide)
theorem tok232 : TypeOk Try.prog 232 ti232 := aC (z := (.nilFunc)) (by kernel_rfl) rfl Try.underlying232 ⟨_, _, _, rfl⟩ rfl (by decide)
theorem tok233 : TypeOk Try.prog 233 ti233 := aC (z := (.nilFunc)) (by kernel_rfl) rfl Try.underlying233 ⟨_, _, _, rfl⟩ rfl (by decide)
theorem tok234 : TypeOk Try.prog 234 ti234 := aC (z := (.nilFunc)) (by kernel_rfl) rfl Try.underlying234 ⟨_, _, _, rfl⟩ rfl (by decide)
theorem tok236 : TypeOk Try.prog 236 ti236 := aC (z := (.nilFunc)) (by kernel_rfl) rfl Try.underlying236 ⟨_, _, _, rfl⟩ rfl (by decide)
theorem tok237 : TypeOk Try.prog 237 ti237 := aC (z := (.nilFunc)) (by kernel_rfl) rfl Try.underlying237 ⟨_, _, _, rfl⟩ rfl (by decide)
theorem tok238 : TypeOk Try.prog 238 ti238 := aC (z := (.nilFunc)) (by kernel_rfl) rfl Try.underlying238 ⟨_, _, _, rfl⟩ rfl (by decide)
theorem tok239 : TypeOk Try.prog 239 ti239 := aC (z := (.nilFunc)) (by kernel_rfl) rfl Try.underlying239 ⟨_, _, _, rfl⟩ rfl (by decide)
theorem tok240 : TypeOk Try.prog 240 ti240 := aC (z := (.nilFunc)) (by kernel_rfl) rfl Try.underlying240 ⟨_, _, _, rfl⟩ rfl (by decide)
theorem tok242 : TypeOk Try.prog 242 ti242 := aC (z := (.nilFunc)) (by kernel_rfl) rfl Try.underlying242 ⟨_, _, _, rfl⟩ rfl (by decide)
theorem tok244 : TypeOk Try.prog 244 ti244 := aC (z := (.nilFunc)) (by kernel_rfl) rfl Try.underlying244 ⟨_, _, _, rfl⟩ rfl (by decide)
theorem tok245 : TypeOk Try.prog 245 ti245 := aC (z := (.nilFunc)) (by kernel_rfl) rfl Try.underlying245 ⟨_, _, _, rfl⟩ rfl (by decide)
theorem tok246 : TypeOk Try.prog 246 ti246 := aC (z := (.nilFunc)) (by kernel_rfl) rfl Try.underlying246 ⟨_, _, _, rfl⟩ rfl (by decide)
theorem tok247 : TypeOk Try.prog 247 ti247 := aC (z := (.nilFunc)) (by kernel_rfl) rfl Try.underlying247 ⟨_, _, _, rfl⟩ rfl (by decide)
theorem tok248 : TypeOk Try.prog 248 ti248 := aC (z := (.nilFunc)) (by kernel_rfl) rfl Try.underlying248 ⟨_, _, _, rfl⟩ rfl (by decide)
theorem tok249 : TypeOk Try.prog 249 ti249 := aC (z := (.nilFunc)) (by kernel_rfl) rfl Try.underlying249 ⟨_, _, _, rfl⟩ rfl (by decide)
theorem tok250 : TypeOk Try.prog 250 ti250 := aC (z := (.nilFunc)) (by kernel_rfl) rfl Try.underlying250 ⟨_, _, _, rfl⟩ rfl (by decide)
theorem tok251 : TypeOk Try.prog 251 ti251 := aC (z := (.nilFunc)) (by kernel_rfl) rfl Try.underlying251 ⟨_, _, _, rfl⟩ rfl (by decide)
theorem tok252 : TypeOk Try.prog 252 ti252 := aC (z := (.nilFunc)) (by kernel_rfl) rfl Try.underlying252 ⟨_, _, _, rfl⟩ rfl (by decide)
theorem tok253 : TypeOk Try.prog 253 ti253 := aC (z := (.nilFunc)) (by kernel_rfl) rfl Try.underlying253 ⟨_, _, _, rfl⟩ rfl (by decide)
theorem tok255 : TypeOk Try.prog 255 ti255 := aC (z := (.nilFunc)) (by kernel_rfl) rfl Try.underlying255 ⟨_, _, _, rfl⟩ rfl (by decide)
theorem tok257 : TypeOk Try.prog 257 ti257 := aC (z := (.nilFunc)) (by kernel_rfl) rfl Try.underlying257 ⟨_, _, _, rfl⟩ rfl (by decide)
theorem tok258 : TypeOk Try.prog 258 ti258 := aC (z := (.nilFunc)) (by kernel_rfl) rfl Try.underlying258 ⟨_, _, _, rfl⟩ rfl (by decide)
theorem tok262 : TypeOk Try.prog 262 ti262 := aC (z := (.nilFunc)) (by kernel_rfl) rfl Try.underlying262 ⟨_, _, _, rfl⟩ rfl (by decide)
theorem tok268 : TypeOk Try.prog 268 ti268 := aC (z := (.int .u8 0)) (by kernel_rfl) rfl Try.underlying268 rfl rfl (by decide)
theorem tok269 : TypeOk Try.prog 269 ti269 := aC (z := (.int .u8 0)) (by kernel_rfl) rfl Try.underlying269 rfl rfl (by decide)
theorem tok270 : TypeOk Try.prog 270 ti270 := aC (z := (.nilFunc)) (by kernel_rfl) rfl Try.underlying270 ⟨_, _, _, rfl⟩ rfl (by decide)
theorem tok272 : TypeOk Try.prog 272 ti272 := aC (z := (.int .i32 0)) (by kernel_rfl) rfl Try.underlying272 rfl rfl (by decide)
theorem tok273 : TypeOk Try.prog 273 ti273 := aC (z := (.int .i32 0)) (by kernel_rfl) rfl Try.underlying273 rfl rfl (by decide)
theorem tok276 : TypeOk Try.prog 276 ti276 := aC (z := (.agg #[.string ⟨#[]⟩])) (by kernel_rfl) rfl Try.underlying276 ⟨_, rfl, rfl⟩ rfl (by decide)
theorem tok277 : TypeOk Try.prog 277 ti277 := aC (z := (.agg #[.string ⟨#[]⟩])) (by kernel_rfl) rfl Try.underlying277 ⟨_, rfl, rfl⟩ rfl (by decide)
def tbl : List (Nat × TI) := [(1, ti1), (2, ti2), (3, ti3), (4, ti4), (5, ti5), (6, ti6), (7, ti7), (8, ti8), (9, ti9), (10, ti10), (11, ti11), (12, ti12), (13, ti13), (14, ti14), (21, ti21), (22, ti22), (23, ti23), (24, ti24), (25, ti25), (26, ti26), (27, ti27), (28, ti28), (29, ti29), (31, ti31), (32, ti32), (33, ti33), (34, ti34), (35, ti35), (36, ti36), (37, ti37), (38, ti38), (39, ti39), (40, ti40), (41, ti41), (43, ti43), (44, ti44), (46, ti46), (47, ti47), (48, ti48), (49, ti49), (51, ti51), (53, ti53), (54, ti54), (55, ti55), (56, ti56), (57, ti57), (58, ti58), (59, ti59), (60, ti60), (61, ti61), (62, ti62), (64, ti64), (66, ti66), (67, ti67), (68, ti68), (70, ti70), (71, ti71), (72, ti72), (73, ti73), (74, ti74), (75, ti75), (76, ti76), (77, ti77), (78, ti78), (80, ti80), (82, ti82), (83, ti83), (84, ti84), (85, ti85), (86, ti86), (88, ti88), (89, ti89), (90, ti90), (91, ti91), (92, ti92), (93, ti93), (94, ti94), (95, ti95), (96, ti96), (97, ti97), (98, ti98), (99, ti99), (100, ti100), (101, ti101), (102, ti102), (103, ti103), (104, ti104), (105, ti105), (106, ti106), (107, ti107), (108, ti108), (109, ti109), (110, ti110), (111, ti111), (112, ti112), (113, ti113), (114, ti114), (115, ti115), (116, ti116), (117, ti117), (118, ti118), (119, ti119), (121, ti121), (122, ti122), (123, ti123), (124, ti124), (125, ti125), (126, ti126), (127, ti127), (129, ti129), (130, ti130), (131, ti131), (132, ti132), (133, ti133), (134, ti134), (135, ti135), (136, ti136), (137, ti137), (138, ti138), (139, ti139), (140, ti140), (141, ti141), (142, ti142), (143, ti143), (144, ti144), (145, ti145), (146, ti146), (147, ti147), (148, ti148), (150, ti150), (152, ti152), (153, ti153), (154, ti154), (155, ti155), (156, ti156), (157, ti157), (158, ti158), (159, ti159), (160, ti160), (162, ti162), (163, ti163), (164, ti164), (166, ti166), (167, ti167), (168, ti168), (169, ti169), (171, ti171), (172, ti172), (173, ti173), (174, ti174), (175, ti175), (176, ti176), (177, ti177), (178, ti178), (179, ti179), (181, ti181), (182, ti182), (183, ti183), (184, ti184), (186, ti186), (187, ti187), (188, ti188), (189, ti189), (191, ti191), (192, ti192), (193, ti193), (194, ti194), (196, ti196), (197, ti197), (199, ti199), (200, ti200), (201, ti201), (202, ti202), (203, ti203), (204, ti204), (205, ti205), (206, ti206), (207, ti207), (208, ti208), (210, ti210), (211, ti211), (212, ti212), (213, ti213), (214, ti214), (215, ti215), (216, ti216), (217, ti217), (218, ti218), (219, ti219), (220, ti220), (221, ti221), (222, ti222), (223, ti223), (224, ti224), (225, ti225), (226, ti226), (227, ti227), (228, ti228), (229, ti229), (230, ti230), (231, ti231), (232, ti232), (233, ti233), (234, ti234), (236, ti236), (237, ti237), (238, ti238), (239, ti239), (240, ti240), (242, ti242), (244, ti244), (245, ti245), (246, ti246), (247, ti247), (248, ti248), (249, ti249), (250, ti250), (251, ti251), (252, ti252), (253, ti253), (255, ti255), (257, ti257), (258, ti258), (262, ti262), (268, ti268), (269, ti269), (270, ti270), (272, ti272), (273, ti273), (276, ti276), (277, ti277)]
def T : TT := getT tbl
theorem typesOk : TypesOk Try.prog T := typesOk_of (by simp only [tbl, List.forall_mem_cons]; exact ⟨tok1, tok2, tok3, tok4, tok5, tok6, tok7, tok8, tok9, tok10, tok11, tok12, tok13, tok14, tok21, tok22, tok23, tok24, tok25, tok26, tok27, tok28, tok29, tok31, tok32, tok33, tok34, tok35, tok36, tok37, tok38, tok39, tok40, tok41, tok43, tok44, tok46, tok47, tok48, tok49, tok51, tok53, tok54, tok55, tok56, tok57, tok58, tok59, tok60, tok61, tok62, tok64, tok66, tok67, tok68, tok70, tok71, tok72, tok73, tok74, tok75, tok76, tok77, tok78, tok80, tok82, tok83, tok84, tok85, tok86, tok88, tok89, tok90, tok91, tok92, tok93, tok94, tok95, tok96, tok97, tok98, tok99, tok100, tok101, tok102, tok103, tok104, tok105, tok106, tok107, tok108, tok109, tok110, tok111, tok112, tok113, tok114, tok115, tok116, tok117, tok118, tok119, tok121, tok122, tok123, tok124, tok125, tok126, tok127, tok129, tok130, tok131, tok132, tok133, tok134, tok135, tok136, tok137, tok138, tok139, tok140, tok141, tok142, tok143, tok144, tok145, tok146, tok147, tok148, tok150, tok152, tok153, tok154, tok155, tok156, tok157, tok158, tok159, tok160, tok162, tok163, tok164, tok166, tok167, tok168, tok169, tok171, tok172, tok173, tok174, tok175, tok176, tok177, tok178, tok179, tok181, tok182, tok183, tok184, tok186, tok187, tok188, tok189, tok191, tok192, tok193, tok194, tok196, tok197, tok199, tok200, tok201, tok202, tok203, tok204, tok205, tok206, tok207, tok208, tok210, tok211, tok212, tok213, tok214, tok215, tok216, tok217, tok218, tok219, tok220, tok221, tok222, tok223, tok224, tok225, tok226, tok227, tok228, tok229, tok230, tok231, tok232, tok233, tok234, tok236, tok237, tok238, tok239, tok240, tok242, tok244, tok245, tok246, tok247, tok248, tok249, tok250, tok251, tok252, tok253, tok255, tok257, tok258, tok262, tok268, tok269, tok270, tok272, tok273, tok276, tok277, by simp⟩)
end Go.Proofs.Ytcblgjaomljikaa
namespace Go.Proofs.Ytcblgjaomljikaa
open Go.Ab Go.RowKit
abbrev E0 : TypeId → Bool := fun t => Nat.beq t 28 || Nat.beq t 130 || Nat.beq t 34
theorem lD (k : Nat) (ds : List Nat) (hk : k ≤ 2) (hl : ds.length < 4611686018427387904) : Run Try.prog T E0 (.call 191 [.sl k (ds.map d32)] (.sl (if k = 0 then 0 else 1) ((trim ds).map d32))) := by
 refine bK Try.func191 J J (dM J) <| Rg 1 J <| Ua J J <| Wn <| aI <| aX (α := Nat × (List Nat)) (fun ⟨k1, es⟩ => [(0, .sl k1 (es.map d32))]) (fun ⟨k1, es⟩ => []) (fun ⟨k1, es⟩ n => (k1 = k ∨ k = 2 ∧ k1 = 1) ∧ trim es = trim ds ∧ es.length < 4611686018427387904) (fun ⟨k1, es⟩ => es.length) (k, ds) ⟨J, trivial⟩ trivial ⟨.inl J, rfl, hl⟩ ?_
 rintro ⟨k1, es⟩ n hF
 change WC _ _ _ _ _ (_ :: _) ([]) n _
 obtain ⟨hk1, hds, hel⟩ := hF
 refine aB <| Rg 12 J <| Um J J <| aA (bD J J) J <| aA (gW J J) J <| bE (fun h5 => ?_) (fun h5 => ?_)
 rotate_left
 ·refine Um J J <| K1 J J <| K1 J J <| K1 J J <| K1 J J <| K1 J J <| K1 J J <| K1 J J <| aA (cG J J) J <| Wn <| aT J <| aU <| aN <| aO J <| Rg 2 J <| Um J J <| Ua J J <| Nk [2] J <| aP <| postW (n := 0) (.inr J) J ?_ (by simp)
  have ht : trim es = es := trim_done om
  rw [← hds, ht]
  rcases hk1 with rfl | ⟨rfl, rfl⟩
  ·have : k1 = 0 ∨ k1 = 1 ∨ k1 = 2 := by omega
   rcases this with rfl | rfl | rfl
   ·exact .same _
   ·exact .same _
   ·exact .two _
  ·exact .same _
 refine Um J J <| aM J (dU J) J <| aM J (dU J) J <| aM J (bD J J) J <| aM J (dN J J om) J <| aM J (bS (j := es.length - 1) J J J J om om J) J <| aM J (dL J J J) J <| aM J (gB J J) J <| bE (fun h13 => ?_) (fun h13 => ?_)
 ·refine aA (bW J J) J <| Wn <| aR J <| aE <| cN <| aJ (z := 6) J <| Um J J <| Um J J <| aA (bD J J) J <| aA (dN J J om) J <| aA (oSlH (j := es.length - 1) J J J gT J om (by simp)) J <| Ua J J <| Wn <| dY <| aF <| ⟨⟨if k1 = 2 then 1 else k1, es.take (es.length - 1)⟩, ⟨congrArg some ?_, trivial⟩, trivial, ⟨?_, ?_, ?_⟩, ?_⟩
  ·have h9 : es.length - 1 < es.length := by omega
   simp [h9]
  ·split <;> omega
  ·rw [trim_step om om]; exact hds
  ·simp; omega
  ·simp; omega
 refine aA (bW J J) J <| Wn <| aT J <| aU <| aN <| aO J <| Rg 2 J <| Um J J <| Ua J J <| Nk [2] J <| aP <| postW (n := 0) (.inr J) J ?_ (by simp)
 have ht : trim es = es := trim_done om
 rw [← hds, ht]
 rcases hk1 with rfl | ⟨rfl, rfl⟩
 ·have : k1 = 0 ∨ k1 = 1 ∨ k1 = 2 := by omega
  rcases this with rfl | rfl | rfl
  ·exact .same _
  ·exact .same _
  ·exact .two _
 ·exact .same _
theorem jN (v : Int) : Run Try.prog T E0 (.call 145 [lvI v] (.v (.int .i64 v.sign))) := by
 refine bK Try.func145 J J (dM J) <| Rg 2 J <| bB (eG J J) J <| Ua J J <| Wn <| aI <| Rg 4 J <| aA (bH J J J J J) J <| aA (aL J J J J J) J <| aA (gW J J) J <| bE (fun h6 => ?_) (fun h6 => ?_)
 ·refine Ua J J <| Wn <| cL J <| Rg 1 J <| Ua J J <| Wn <| aP <| aS <| post (n := 0) (.inr J) J (congrArg (fun z => LV.v (.int .i64 z)) ?_) (by simp)
  exact (Int.sign_eq_one_of_pos ((ia_pos v).1 h6)).symm
 refine Ua J J <| Wn <| cH J <| Rg 4 J <| aA (bH J J J J J) J <| aA (aL J J J J J) J <| aA (bU J J) J <| bE (fun h10 => ?_) (fun h10 => ?_)
 ·refine Ua J J <| Wn <| cL J <| Rg 1 J <| Ua J J <| Wn <| aP <| aS <| post (n := 0) (.inr J) J (congrArg (fun z => LV.v (.int .i64 z)) ?_) (by simp)
  exact (Int.sign_eq_neg_one_of_neg ((ia_neg v).1 h10)).symm
 refine Ua J J <| Wn <| cH J <| cM <| aG <| Rg 1 J <| Ua J J <| Wn <| aP <| post (n := 0) (.inr J) J (congrArg (fun z => LV.v (.int .i64 z)) ?_) (by simp)
 have h1 := ia_pos v
 have h2 := ia_neg v
 have : v = 0 := by omega
 subst this; rfl
theorem qN (v : Int) : Run Try.prog T E0 (.call 182 [lvI v] (lvI (-v))) := by
 have hb := pJ v
 refine bK Try.func182 J J (dM J) <| Rg 2 J <| bB (eG J J) J <| bB (dS J) J <| Wn <| Rg 7 J <| aA (bH J J J J J) J <| aA (aL J J J J J) J <| aA (rR J om) J <| aA (bH J J J J J) J <| aA (aL J J J J J) J <| aA (kH (cs := [_, _]) J J J J J) J <| aZ (cO (cs' := [_, _]) J J J J J J J J) <| Wn <| aP <| post (n := 0) (.inr J) J ?_ (by simp)
 simp only [lvI, ia_negate, ik_negate, idg_negate]; rfl
theorem abs_run (v : Int) : Run Try.prog T E0 (.call 206 [lvI v] (lvI v.natAbs)) := by
 refine bK Try.func206 J J (dM J) <| Rg 2 J <| bB (eG J J) J <| bB (dS J) J <| Wn <| aB <| Rg 3 J <| aA (bH J J J J J) J <| aA (aL J J J J J) J <| aA (bU J J) J <| bE (fun h5 => ?_) (fun h5 => ?_)
 rotate_left
 ·refine Wn <| aT J <| aE <| Rg 2 J <| aA (aL (l := .agg [_, _]) J J J J J) J <| aZ (cO (cs' := [_, _]) J J J J J J J J) <| Wn <| aP <| post (n := 0) (.inr J) J ?_ (by simp)
  have h1 := ia_neg v
  have : (v.natAbs : Int) = v := by omega
  rw [this]; rfl
 refine Wn <| aR J <| aB <| Rg 3 J <| aA (aL (l := .agg [_, _]) J J J J J) J <| aA (aK J (qN _) (by simp)) J <| aZ (cO (cs' := [_, _]) J J J J J J J J) <| Wn <| bC <| post (n := 0) (.inr J) J ?_ (by simp)
 have h1 := (ia_neg v).1 h5
 have : (v.natAbs : Int) = -v := by omega
 rw [this]; rfl
theorem one_run  : Run Try.prog T E0 (.call 203 [] (lvI 1)) := by
 refine bK Try.func203 J J (dM J) <| Rg 1 J <| bB (dS J) J <| Wn <| Rg 2 J <| aA (kH (cs := [_, _]) J J J J J) J <| aZ (cO (cs' := [_, _]) J J J J J J J J) <| Wn <| aP ?_
 exact post (n := 0) (.inr J) J J (by simp)
theorem oU (v : Int) (hv : -9223372036854775808 ≤ v ∧ v ≤ 9223372036854775807) : Run Try.prog T E0 (.call 66 [.v (.int .i64 v)] (lvI v)) := by
 refine bK Try.func66 J J (dM J) <| Rg 1 J <| bB (dS J) J <| Wn <| aB <| Rg 6 J <| Um J J <| aA (gW J J) J <| bE (fun h6 => ?_) (fun h6 => ?_)
 rotate_left
 ·refine Um J J <| K1 J J <| K1 J J <| aA (cG J J) J <| Wn <| aT J <| aE <| Rg 1 J <| Ua J J <| Wn <| Rg 3 J <| Um J J <| aA (cI (v % 18446744073709551616) (cE J J J) (IntKind.wrap_u64 _)) J <| Ua J J <| Wn <| aB <| Rg 2 J <| Um J J <| aA (bU J J) J <| bE (fun h16 => ?_) (fun h16 => ?_)
  rotate_left
  ·refine Wn <| aT J <| aE <| Rg 9 J <| Um J J <| Um J J <| aA (cI (((v.natAbs % 4294967296 : Nat) : Int)) (cE J J J) (by rw [IntKind.wrap_u32]; omega)) J <| Um J J <| aA (cI (((v.natAbs / 4294967296 : Nat) : Int)) (eP (s := 32) J J om) om) J <| aA (cI (((v.natAbs / 4294967296 : Nat) : Int)) (cE J J J) (by rw [IntKind.wrap_u32]; omega)) J <| aA (dJ (cs := [_, _]) (rows := [[_], [_]]) J J (by decide) J J J) J <| aA (kH (cs := [_, _]) J J J J J) J <| aZ (cO (cs' := [_, _]) J J J J J J J J) <| Nk [2] J <| aP ?_
   omega
  refine Wn <| aR J <| Rg 4 J <| Um J J <| aA (cI (((v.natAbs : Nat) : Int)) (oNeg J) (by rw [IntKind.wrap_u64]; omega)) J <| Ua J J <| Ua J J <| Nk [2,3,4] J <| Rg 9 J <| Um J J <| Um J J <| aA (cI (((v.natAbs % 4294967296 : Nat) : Int)) (cE J J J) (by rw [IntKind.wrap_u32]; omega)) J <| Um J J <| aA (cI (((v.natAbs / 4294967296 : Nat) : Int)) (eP (s := 32) J J om) om) J <| aA (cI (((v.natAbs / 4294967296 : Nat) : Int)) (cE J J J) (by rw [IntKind.wrap_u32]; omega)) J <| aA (dJ (cs := [_, _]) (rows := [[_], [_]]) J J (by decide) J J J) J <| aA (kH (cs := [_, _]) J J J J J) J <| aZ (cO (cs' := [_, _]) J J J J J J J J) <| Wn <| aP <| postW (n := 0) (l := .agg [_, _]) (.inr J) J ?_ (by simp)
  have hns : ¬ small v := by unfold small; omega
  rw [qL hns, Int.sign_eq_neg_one_of_neg h16, ← two_big (m := v.natAbs) om om]
  exact .int _ _
 refine Um J J <| aM J (dU J) J <| aM J (bU J J) J <| bE (fun h9 => ?_) (fun h9 => ?_)
 ·refine aA (bW J J) J <| Wn <| aR J <| aB <| Rg 3 J <| Um J J <| aA (kH (cs := [_, _]) J J J J J) J <| aZ (cO (cs' := [_, _]) J J J J J J J J) <| Wn <| bC <| post (n := 0) (.inr J) J ?_ (by simp)
  rw [jJ ⟨h6, h9⟩]; rfl
 refine aA (bW J J) J <| Wn <| aT J <| aE <| Rg 1 J <| Ua J J <| Wn <| Rg 3 J <| Um J J <| aA (cI (v % 18446744073709551616) (cE J J J) (IntKind.wrap_u64 _)) J <| Ua J J <| Wn <| aB <| Rg 2 J <| Um J J <| aA (bU J J) J <| bE (fun h16 => ?_) (fun h16 => ?_)
 rotate_left
 ·refine Wn <| aT J <| aE <| Rg 9 J <| Um J J <| Um J J <| aA (cI (((v.natAbs % 4294967296 : Nat) : Int)) (cE J J J) (by rw [IntKind.wrap_u32]; omega)) J <| Um J J <| aA (cI (((v.natAbs / 4294967296 : Nat) : Int)) (eP (s := 32) J J om) om) J <| aA (cI (((v.natAbs / 4294967296 : Nat) : Int)) (cE J J J) (by rw [IntKind.wrap_u32]; omega)) J <| aA (dJ (cs := [_, _]) (rows := [[_], [_]]) J J (by decide) J J J) J <| aA (kH (cs := [_, _]) J J J J J) J <| aZ (cO (cs' := [_, _]) J J J J J J J J) <| Nk [2] J <| aP <| postW (n := 0) (l := .agg [_, _]) (.inr J) J ?_ (by simp)
  have hns : ¬ small v := by unfold small; omega
  rw [qL hns, Int.sign_eq_one_of_pos om, ← two_big (m := v.natAbs) om om]
  exact .int _ _
 refine Wn <| aR J <| Rg 4 J <| Um J J <| aA (cI (((v.natAbs : Nat) : Int)) (oNeg J) (by rw [IntKind.wrap_u64]; omega)) J <| Ua J J <| Ua J J <| Nk [2,3,4] J <| Rg 9 J <| Um J J <| Um J J <| aA (cI (((v.natAbs % 4294967296 : Nat) : Int)) (cE J J J) (by rw [IntKind.wrap_u32]; omega)) J <| Um J J <| aA (cI (((v.natAbs / 4294967296 : Nat) : Int)) (eP (s := 32) J J om) om) J <| aA (cI (((v.natAbs / 4294967296 : Nat) : Int)) (cE J J J) (by rw [IntKind.wrap_u32]; omega)) J <| aA (dJ (cs := [_, _]) (rows := [[_], [_]]) J J (by decide) J J J) J <| aA (kH (cs := [_, _]) J J J J J) J <| aZ (cO (cs' := [_, _]) J J J J J J J J) <| Wn <| aP <| postW (n := 0) (l := .agg [_, _]) (.inr J) J ?_ (by simp)
 have hns : ¬ small v := by unfold small; omega
 rw [qL hns, Int.sign_eq_neg_one_of_neg h16, ← two_big (m := v.natAbs) om om]
 exact .int _ _
theorem qI (v b : Int) (hb : 0 ≤ b ∧ b < 4611686018427387904) : Run Try.prog T E0 (.call 69 [lvI v, .v (.int .i64 b)] (.tup [.v (.int .i64 (if -b ≤ v ∧ v ≤ b then v else 0)), .v (.bool (decide (-b ≤ v ∧ v ≤ b)))])) := by
 refine bK Try.func69 J J (dM J) <| Rg 3 J <| bB (eG J J) J <| Ua J J <| Ua J J <| Wn <| aB <| Rg 16 J <| aA (bH J J J J J) J <| aA (aL J J J J J) J <| aA (oNilN J J) J <| fT (fun h8 => ?_) (fun h8 => ?_)
 ·refine Um J J <| K1 J J <| K1 J J <| K1 J J <| K1 J J <| aA (bW J J) J <| Um J J <| K1 J J <| K1 J J <| K1 J J <| K1 J J <| K1 J J <| aA (bW J J) J <| Nk [2,21] J <| aR J <| aB <| Rg 2 J <| Ua J J <| Ua J J <| Wn <| bC <| post (n := 0) (.inr J) J ?_ (by simp)
  have hs := ik_eq'.1 h8
  have hn : ¬ (-b ≤ v ∧ v ≤ b) := by unfold small at hs; omega
  rw [if_neg hn, decide_eq_false hn]; rfl
 refine Um J J <| aM J (bH J J J J J) J <| aM J (aL J J J J J) J <| aM J (dU J) J <| aM J (gW J J) J <| bE (fun h13 => ?_) (fun h13 => ?_)
 ·refine aA (cG J J) J <| Um J J <| K1 J J <| K1 J J <| K1 J J <| K1 J J <| K1 J J <| aA (bW J J) J <| Nk [2,21] J <| aR J <| aB <| Rg 2 J <| Ua J J <| Ua J J <| Wn <| bC <| post (n := 0) (.inr J) J ?_ (by simp)
  have hs := dH (rJ.1 h8)
  have hn : ¬ (-b ≤ v ∧ v ≤ b) := by omega
  rw [if_neg hn, decide_eq_false hn]; rfl
 refine aA (cG J J) J <| Um J J <| aM J (bH J J J J J) J <| aM J (aL J J J J J) J <| aM J (dU J) J <| aM J (rR J om) J <| aM J (bU J J) J <| bE (fun h20 => ?_) (fun h20 => ?_)
 ·refine aA (cG J J) J <| Nk [2,21] J <| aR J <| aB <| Rg 2 J <| Ua J J <| Ua J J <| Wn <| bC <| post (n := 0) (.inr J) J ?_ (by simp)
  have hs := dH (rJ.1 h8)
  have hn : ¬ (-b ≤ v ∧ v ≤ b) := by omega
  rw [if_neg hn, decide_eq_false hn]; rfl
 refine aA (cG J J) J <| Nk [2,21] J <| aT J <| aE <| Rg 4 J <| aA (bH J J J J J) J <| aA (aL J J J J J) J <| Ua J J <| Ua J J <| Wn <| aP <| post (n := 0) (.inr J) J ?_ (by simp)
 have hs := dH (rJ.1 h8)
 have hn : -b ≤ v ∧ v ≤ b := by omega
 rw [if_pos hn, decide_eq_true hn]
 exact congrArg (fun z => LV.tup [.v (.int .i64 z), .v (.bool true)]) hs
theorem eV (v : Int) : Run Try.prog T E0 (.call 139 [lvI v] (.tup [.v (.int .i64 v.sign), .sl 1 ((dgs B32 v.natAbs).map d32)])) := by
 have hb := pJ v
 refine bK Try.func139 J J (dM J) <| Rg 3 J <| bB (eG J J) J <| Ua J J <| Ua J J <| Wn <| aB <| Rg 3 J <| aA (bH J J J J J) J <| aA (aL J J J J J) J <| aA (oNilN J J) J <| fT (fun h8 => ?_) (fun h8 => ?_)
 ·refine Wn <| aR J <| aB <| bN (z := 6) J kR <| aH (bH J J J J J) J <| aH (aL J J J J J) J <| aH (bH J J J J J) J <| aH (aL J J J J J) J <| aH (fR J) J <| aH (fR J) J <| bJ (aY kR) J <| bC <| post (n := 0) (.inr J) J ?_ (by simp)
  have hs := ik_eq'.1 h8
  rw [oP hs, ik_big hs, idg_big hs]; rfl
 have hs := rJ.1 h8
 have hia := dH hs
 refine Wn <| aT J <| aE <| Rg 2 J <| Ua J J <| Ua J J <| Wn <| aI <| Rg 4 J <| aA (bH J J J J J) J <| aA (aL J J J J J) J <| aA (gW J J) J <| bE (fun h16 => ?_) (fun h16 => ?_)
 ·refine Ua J J <| Wn <| cL J <| dW (z := 5) J kR <| aH (bH J J J J J) J <| aH (aL J J J J J) J <| aH (cI (((v.natAbs : Nat) : Int)) (cE J J J) (by rw [IntKind.wrap_u64]; omega)) J <| aH (fR J) J <| aH (fR J) J <| bJ (aY kR) J <| aG <| Ck [4,5] J <| Rg 10 J <| Um J J <| Um J J <| aA (cI (((v.natAbs % 4294967296 : Nat) : Int)) (cE J J J) (by rw [IntKind.wrap_u32]; omega)) J <| Um J J <| aA (cI (((v.natAbs / 4294967296 : Nat) : Int)) (eP (s := 32) J J om) om) J <| aA (cI (((v.natAbs / 4294967296 : Nat) : Int)) (cE J J J) (by rw [IntKind.wrap_u32]; omega)) J <| aA (dJ (cs := [_, _]) (rows := [[_], [_]]) J J (by decide) J J J) J <| aA (aK J (lD 2 [v.natAbs % 4294967296, v.natAbs / 4294967296] om (by simp)) (by simp)) J <| Ua J J <| Ua J J <| dA ?_
  refine aP <| post (n := 0) (.inr J) J ?_ (by simp)
  rw [← two_dg (m := v.natAbs) om, Int.sign_eq_one_of_pos om]; rfl
 refine Ua J J <| Wn <| cH J <| Rg 4 J <| aA (bH J J J J J) J <| aA (aL J J J J J) J <| aA (bU J J) J <| bE (fun h23 => ?_) (fun h23 => ?_)
 rotate_left
 ·refine Ua J J <| Nk [1,4,5,20] J <| cH J <| cM <| aG <| Rg 10 J <| Um J J <| Um J J <| aA (cI (((v.natAbs % 4294967296 : Nat) : Int)) (cE J J J) (by rw [IntKind.wrap_u32]; omega)) J <| Um J J <| aA (cI (((v.natAbs / 4294967296 : Nat) : Int)) (eP (s := 32) J J om) om) J <| aA (cI (((v.natAbs / 4294967296 : Nat) : Int)) (cE J J J) (by rw [IntKind.wrap_u32]; omega)) J <| aA (dJ (cs := [_, _]) (rows := [[_], [_]]) J J (by decide) J J J) J <| aA (aK J (lD 2 [v.natAbs % 4294967296, v.natAbs / 4294967296] om (by simp)) (by simp)) J <| Ua J J <| Ua J J <| Wn <| aP <| post (n := 0) (.inr J) J ?_ (by simp)
  have h0 : v = 0 := by omega
  rw [← two_dg (m := v.natAbs) om]
  subst h0; rfl
 refine Ua J J <| Nk [1,4,5,20] J <| cL J <| dW (z := 6) J kR <| aH (bH J J J J J) J <| aH (aL J J J J J) J <| aH (rR J om) J <| aH (cI (((v.natAbs : Nat) : Int)) (cE J J J) (by rw [IntKind.wrap_u64]; omega)) J <| aH (fR J) J <| aH (fR J) J <| bJ (aY kR) J <| aG <| Rg 10 J <| Um J J <| Um J J <| aA (cI (((v.natAbs % 4294967296 : Nat) : Int)) (cE J J J) (by rw [IntKind.wrap_u32]; omega)) J <| Um J J <| aA (cI (((v.natAbs / 4294967296 : Nat) : Int)) (eP (s := 32) J J om) om) J <| aA (cI (((v.natAbs / 4294967296 : Nat) : Int)) (cE J J J) (by rw [IntKind.wrap_u32]; omega)) J <| aA (dJ (cs := [_, _]) (rows := [[_], [_]]) J J (by decide) J J J) J <| aA (aK J (lD 2 [v.natAbs % 4294967296, v.natAbs / 4294967296] om (by simp)) (by simp)) J <| Ua J J <| Ua J J ?_
 refine Nk [2,3] J <| aP <| post (n := 0) (.inr J) J ?_ (by simp)
 rw [← two_dg (m := v.natAbs) om, Int.sign_eq_neg_one_of_neg om]; rfl
theorem jD (x y c : Nat) (hx : x < 4294967296) (hy : y < 4294967296) (hc : c ≤ 1) : Run Try.prog T E0 (.call 192 [.v (.int .u32 (x : Int)), .v (.int .u32 (y : Int)), .v (.int .u32 (c : Int))] (.tup [.v (.int .u32 (((x + y + c) % 4294967296 : Nat) : Int)), .v (.int .u32 (((x + y + c) / 4294967296 : Nat) : Int))])) := by
 refine bK Try.func192 J J (dM J) <| Rg 2 J <| Ua J J <| Ua J J <| Wn <| Rg 9 J <| Um J J <| aA (cI ((x : Int)) (cE J J J) (by rw [IntKind.wrap_u64]; omega)) J <| Um J J <| aA (cI ((y : Int)) (cE J J J) (by rw [IntKind.wrap_u64]; omega)) J <| aA (cI (((x + y : Nat) : Int)) (jK J J) om) J <| Um J J <| aA (cI ((c : Int)) (cE J J J) (by rw [IntKind.wrap_u64]; omega)) J <| aA (cI (((x + y + c : Nat) : Int)) (jK J J) om) J <| Ua J J <| Wn <| Rg 3 J <| Um J J <| aA (cI ((((x + y + c) % 4294967296 : Nat) : Int)) (cE J J J) (by rw [IntKind.wrap_u32]; omega)) J <| Ua J J <| Nk [6,8] J <| Rg 4 J <| Um J J ?_
 refine aA (cI ((((x + y + c) / 4294967296 : Nat) : Int)) (eP (s := 32) J J om) om) J <| aA (cI ((((x + y + c) / 4294967296 : Nat) : Int)) (cE J J J) (by rw [IntKind.wrap_u32]; omega)) J <| Ua J J <| Wn <| aP ?_
 exact post (n := 0) (.inr J) J J (by simp)
theorem kL (k1 k2 : Nat) (xs ys : List Nat) (hx : Dg B32 xs) (hy : Dg B32 ys) (tx : Trm xs) (ty : Trm ys) (lx : xs.length < 4611686018427387904) (ly : ys.length < 4611686018427387904) : Run Try.prog T E0 (.call 142 [.sl k1 (xs.map d32), .sl k2 (ys.map d32)] (.v (.int .i64 ((val B32 xs : Int) - val B32 ys).sign))) := by
 refine bK Try.func142 J J (dM J) <| Rg 1 J <| Ua J J <| Wn <| aB <| Rg 5 J <| Um J J <| aA (bD J J) J <| Um J J <| aA (bD J J) J <| aA (dV J J) J <| bE (fun h10 => ?_) (fun h10 => ?_)
 ·refine Wn <| aR J <| aB <| aB <| Rg 5 J <| Um J J <| aA (bD J J) J <| Um J J <| aA (bD J J) J <| aA (bU J J) J <| bE (fun h15 => ?_) (fun h15 => ?_)
  ·refine Wn <| aR J <| aB <| Rg 1 J <| Ua J J <| Wn <| bC <| post (n := 0) (.inr J) J (congrArg (fun z => LV.v (.int .i64 z)) ?_) (by simp)
   have := fL (B := B32) (by decide) hx ty om
   exact (Int.sign_eq_neg_one_of_neg om).symm
  refine Wn <| aT J <| aE <| aB <| Rg 1 J <| Ua J J <| Wn <| bC <| post (n := 0) (.inr J) J (congrArg (fun z => LV.v (.int .i64 z)) ?_) (by simp)
  have := fL (B := B32) (by decide) hy tx om
  exact (Int.sign_eq_one_of_pos om).symm
 have hlen : xs.length = ys.length := by omega
 refine Wn <| aT J <| aE <| aB <| Rg 4 J <| Um J J <| aA (bD J J) J <| aA (dN J J om) J <| Ua J J <| Wn <| aI <| aX (α := Nat) (fun k => [(0, .sl k1 (xs.map d32)), (1, .sl k2 (ys.map d32)), (5, .v (.int .i64 ((k : Int) - 1)))]) (fun k => []) (fun k n => k ≤ xs.length ∧ xs.drop k = ys.drop k) (fun k => k) (xs.length) ⟨J, J, J, trivial⟩ trivial ⟨Nat.le_refl _, by rw [List.drop_length, hlen, List.drop_length]⟩ ?_
 rintro k n hF
 change WC _ _ _ _ _ (_ :: _) ([]) n _
 obtain ⟨hk, hd⟩ := hF
 refine aB <| Rg 2 J <| Um J J <| aA (mK J J) J <| bE (fun h20 => ?_) (fun h20 => ?_)
 rotate_left
 ·refine Wn <| aT J <| aU <| aN <| aO J <| Rg 1 J <| Ua J J <| Wn <| aP <| post (n := 0) (.inr J) J (congrArg (fun z => LV.v (.int .i64 z)) ?_) (by simp)
  have h0 : k = 0 := by omega
  subst h0
  simp only [List.drop_zero] at hd
  subst hd
  simp
 refine Wn <| aR J <| aE <| aI <| bN (z := 9) J kR <| Dm J J <| Dm J J <| aH (bS (j := k - 1) J J J J om om J) J <| aH (dL J J J) J <| Dm J J <| Dm J J <| aH (bS (j := k - 1) J J J J om om J) J <| aH (dL J J J) J <| aH (dV J J) J <| WD.D (fun h31 => ?_) (fun h31 => ?_)
 rotate_left
 ·refine bJ (aY kR) J <| cH J <| cM <| aG <| aJ (z := 3) J <| Um J J <| aA (cI (((k - 1 : Nat) : Int) - 1) (dN J J om) om) J <| Ua J J <| Wn <| aF ?_
  have hj : k - 1 + 1 = k := by omega
  refine ⟨k - 1, ⟨J, J, J, trivial⟩, trivial, ⟨om, ?_⟩, by show k - 1 < k; omega⟩
  rw [cB (by omega : k - 1 < xs.length), cB (by omega : k - 1 < ys.length), hj, hd]
  congr 1; omega
 refine bJ (aY kR) J <| cL J <| aB <| bN (z := 9) J kR <| Dm J J <| Dm J J <| aH (bS (j := k - 1) J J J J om om J) J <| aH (dL J J J) J <| Dm J J <| Dm J J <| aH (bS (j := k - 1) J J J J om om J) J <| aH (dL J J J) J <| aH (bU J J) J <| WD.D (fun h40 => ?_) (fun h40 => ?_)
 ·refine bJ (aY kR) J <| Ck [40] J <| aR J <| aB <| Rg 1 J <| Ua J J <| Wn <| bC <| aS <| bO <| aS <| post (n := 0) (.inr J) J (congrArg (fun z => LV.v (.int .i64 z)) ?_) (by simp)
  have hj : k - 1 + 1 = k := by omega
  have := val_lt_at (B := B32) (ys := ys) (by decide) hx (k := k - 1) om om (by rw [hj]; exact hd) om
  exact (Int.sign_eq_neg_one_of_neg om).symm
 refine bJ (aY kR) J <| Ck [40] J <| aT J <| aE <| Rg 1 J <| Ua J J <| Wn <| aP <| aS <| bO <| aS <| post (n := 0) (.inr J) J (congrArg (fun z => LV.v (.int .i64 z)) ?_) (by simp)
 have hj : k - 1 + 1 = k := by omega
 have := val_lt_at (B := B32) (ys := xs) (by decide) hy (k := k - 1) om om (by rw [hj]; exact hd.symm) om
 exact (Int.sign_eq_one_of_pos om).symm
end Go.Proofs.Ytcblgjaomljikaa
