/- Part C of the proof of lpCheck_holds: what it rests on. No condition. -/
import Derived.Test.YtohfklpfeilcpaaGreatLpB
import Derived.Test.YtohfklpfeilcpaaGreatProg
set_option linter.unusedVariables false
set_option linter.unusedSimpArgs false
namespace Go.Ab
open Go.RowKit
structure IP (p : PB) : Prop where
 m : IM p.1.2
 r : IV p.2.1.2
 g : IV p.2.2.2
 lm : p.1.2.length < 1000000
 lw : ∀ r, r ∈ p.1.2 → r.2.length < 1000000
 lr : p.2.1.2.length < 1000000
 lg : p.2.2.2.length < 1000000
section
variable {p : PB}
theorem vP_F (h : ¬ VP p) : false = vP p := (Bool.eq_false_iff.2 fun h2 => h (lS.1 h2)).symm
theorem nP (h : VM p.1.2 = false) : false = vP p := vP_F fun k => by have := k.m; rw [h] at this; cases this
theorem vP_2 (h : ¬ (p.1.2.length : Int) ≤ 40) : false = vP p := vP_F fun k => h (by have := k.rows; omega)
theorem nQ (h : VV p.2.1.2 = false) : false = vP p := vP_F fun k => by have := k.r; rw [h] at this; cases this
theorem vP_4 (h : ¬ (p.2.1.2.length : Int) = (p.1.2.length : Int)) : false = vP p := vP_F fun k => h (by have := k.rl; omega)
theorem nR (h : VV p.2.2.2 = false) : false = vP p := vP_F fun k => by have := k.g; rw [h] at this; cases this
theorem vP_6 (h : ¬ (p.2.2.2.length : Int) ≤ 40) : false = vP p := vP_F fun k => h (by have := k.cols; omega)
theorem vP_7 (h : (p.1.2.any fun r => !wid p.2.2.2.length r) = true) : false = vP p := vP_F fun k => by
 obtain ⟨r, hr, h2⟩ := List.any_eq_true.1 h
 have := k.w r hr
 simp [wid, this] at h2
theorem vP_8 (h1 : VM p.1.2 = true) (h2 : (p.1.2.length : Int) ≤ 40) (h3 : VV p.2.1.2 = true) (h4 : (p.2.1.2.length : Int) = (p.1.2.length : Int)) (h5 : VV p.2.2.2 = true) (h6 : (p.2.2.2.length : Int) ≤ 40) (h7 : (p.1.2.any fun r => !wid p.2.2.2.length r) = false) : true = vP p := by
 refine (lS.2 ⟨h1, om, h3, om, h5, om, fun r hr => ?_⟩).symm
 have := List.any_eq_false.1 h7 r hr
 simpa [wid] using this
end
def dtX (a b : List X) : Nat → X
 | 0 => x0
 | i + 1 => xadd (dtX a b i) (xmul (a.getD i default) (b.getD i default))
theorem dtX_v {a b : List X} : ∀ i, i ≤ a.length → i ≤ b.length → (dtX a b i).1 = dt (rvs a) (rvs b) i
 | 0, _, _ => rfl
 | i + 1, h1, h2 => by
  show (dtX a b i).1 + (a.getD i default).1 * (b.getD i default).1 = dt (rvs a) (rvs b) i + (rvs a).getD i default * (rvs b).getD i default
  rw [dtX_v i om om, rvs_get om, rvs_get om]
theorem dtX_bd {a b : List X} {β : Nat} (ha : ∀ x, x ∈ a → Bd β x.1) (hb : ∀ x, x ∈ b → Bd β x.1) (h2 : 2 ≤ β) : ∀ i, i ≤ a.length → i ≤ b.length → Bd (β + i * (2 * β + 1)) (dtX a b i).1
 | 0, _, _ => Bd_0.mono om
 | i + 1, h1, h3 => by
  have ih := dtX_bd ha hb h2 i om om
  refine (ih.add ((ha _ (bS (us := a) (i := i) om)).mul (hb _ (bS (us := b) (i := i) om)))).mono ?_
  rw [Nat.add_mul]; omega
theorem lD {a b : List NM} (h : a.length ≤ b.length) : (dtX (a.map nx) (b.map nx) a.length).1 = dtN a b := by
 rw [dtX_v _ (by simp) (by simpa using h), eQ, eQ]; rfl
theorem fN {ns : List NM} (h : ∀ a, a ∈ ns → VN a) : ∀ x, x ∈ ns.map nx → Bd 2 x.1 := fun x hx => by
 obtain ⟨a, ha, rfl⟩ := List.mem_map.1 hx
 exact (h a ha).bd
theorem dtN_bd {a b : List NM} (ha : ∀ x, x ∈ a → VN x) (hb : ∀ x, x ∈ b → VN x) (h : a.length ≤ b.length) (hl : a.length ≤ 100) : Bd 1000 (dtX (a.map nx) (b.map nx) a.length).1 :=
 (dtX_bd (fN ha) (fN hb) (Nat.le_refl 2) a.length (by simp) (by simpa using h)).mono om
theorem hN {l : List NM} {n : Nat} (h : posS l n = true) : l.length = n ∧ ∀ a, a ∈ l → VN a ∧ 0 ≤ a.1 := by
 unfold posS posN at h
 simp only [Bool.and_eq_true, decide_eq_true_eq, List.all_eq_true] at h
 exact ⟨h.1, fun a ha => ⟨of_decide_eq_true (h.2 a ha).1, (h.2 a ha).2⟩⟩
theorem nT {l : List NM} (h : VV l = true) : l.length ≤ 60 ∧ ∀ a, a ∈ l → VN a := by
 unfold VV at h
 simp only [Bool.and_eq_true, decide_eq_true_eq, List.all_eq_true] at h
 exact ⟨h.1, fun a ha => of_decide_eq_true (h.2 a ha)⟩
theorem VP.row {p : PB} (h : VP p) {r : M1} (hr : r ∈ p.1.2) : ∀ a, a ∈ r.2 → VN a := by
 have := h.m
 unfold VM at this
 simp only [Bool.and_eq_true, List.all_eq_true] at this
 have h2 := this.2 r hr
 unfold VMr at h2
 rw [Bool.and_eq_true] at h2
 exact (nT h2.2).2
end Go.Ab
namespace Go.Ab
theorem vP_9 {p : PB} (h1 : VM p.1.2 = true) (h2 : (p.1.2.length : Int) ≤ 40) (h3 : VV p.2.1.2 = true) (h4 : (p.2.1.2.length : Int) = (p.1.2.length : Int)) (h5 : VV p.2.2.2 = true) (h6 : (p.2.2.2.length : Int) ≤ 40) : (!(p.1.2.any fun r => !wid p.2.2.2.length r)) = vP p := by
 cases h : (p.1.2.any fun r => !wid p.2.2.2.length r) with
 | true => exact vP_7 h
 | false => exact vP_8 h1 h2 h3 h4 h5 h6 h
theorem VP.rowlen {p : PB} (h : VP p) {i : Nat} (hi : i < p.1.2.length) : (p.1.2.getD i default).2.length = p.2.2.2.length ∧ ∀ a, a ∈ (p.1.2.getD i default).2 → VN a := ⟨h.w _ (bS hi), h.row (bS hi)⟩
theorem feaS_1 {p : PB} {x : List NM} (h : posS x p.2.2.2.length = false) : false = feaS p x := by unfold feaS; rw [h]; rfl
theorem feaS_2 {p : PB} {x : List NM} {i : Nat} (hi : i < p.1.2.length) (h : feaR p x i = false) : false = feaS p x := by
 unfold feaS; rw [oK hi h, Bool.and_false]
theorem feaS_3 {p : PB} {x : List NM} (h : posS x p.2.2.2.length = true) (h2 : ∀ i, i < p.1.2.length → feaR p x i = true) : true = feaS p x := by
 unfold feaS; rw [h, List.all_eq_true.2 fun i hi => h2 i (List.mem_range.1 hi)]; rfl
theorem sign_neg {x y : Rat} : (x - y).num.sign < 0 ↔ x < y := by
 rw [lL]
 constructor <;> intro h <;> grind
theorem sign_pos {x y : Rat} : 0 < (x - y).num.sign ↔ y < x := by
 have h1 : (x - y).num.sign = -((y - x).num.sign) := by
  rw [show x - y = -(y - x) by grind, Rat.neg_num, Int.sign_neg]
 have h2 := sign_neg (x := y) (y := x)
 rw [h1]
 constructor
 ·intro h; exact h2.1 om
 ·intro h; have := h2.2 h; omega
theorem oO {x y : Rat} : (x - y).num.sign = 0 ↔ x = y := by
 rw [Int.sign_eq_zero_iff_zero, Rat.num_eq_zero]
 constructor <;> intro h <;> grind
theorem feaR_F {p : PB} {x : List NM} {i : Nat} (h : 0 < (dtN (p.1.2.getD i default).2 x - nq (p.2.1.2.getD i default)).num.sign) : feaR p x i = false := by
 unfold feaR; exact decide_eq_false (by have := sign_pos.1 h; grind)
theorem feaR_T {p : PB} {x : List NM} {i : Nat} (h : ¬ 0 < (dtN (p.1.2.getD i default).2 x - nq (p.2.1.2.getD i default)).num.sign) : feaR p x i = true := by
 unfold feaR; refine decide_eq_true ?_
 have := fun h2 => h (sign_pos.2 h2)
 grind
def colX (p : PB) (y : List NM) (k : Nat) : Nat → X
 | 0 => x0
 | i + 1 => xadd (colX p y k i) (xmul (nx ((p.1.2.getD i default).2.getD k default)) (nx (y.getD i default)))
theorem colX_v (p : PB) (y : List NM) (k : Nat) : ∀ i, (colX p y k i).1 = colS p y k i
 | 0 => rfl
 | i + 1 => by
  show (colX p y k i).1 + nq ((p.1.2.getD i default).2.getD k default) * nq (y.getD i default) = _
  rw [colX_v p y k i]; rfl
theorem qP {p : PB} {y : List NM} {k : Nat} (h : VP p) (hk : k < p.2.2.2.length) (hy : ∀ a, a ∈ y → VN a) (hl : y.length = p.1.2.length) : ∀ i, i ≤ p.1.2.length → Bd (2 + i * 5) (colX p y k i).1
 | 0, _ => Bd_0
 | i + 1, hi => by
  have ih := qP h hk hy hl i om
  obtain ⟨h1, h2⟩ := h.rowlen (i := i) om
  refine (ih.add (((h2 _ (bS (us := (p.1.2.getD i default).2) (i := k) om)).bd).mul ((hy _ (bS (us := y) (i := i) om)).bd))).mono om
theorem covS_F {p : PB} {y : List NM} {ls : List Rat} {k : Nat} (hk : k < p.2.2.2.length) (h : (colS p y k p.1.2.length - ls.getD k default).num.sign < 0) : false = covS p y ls := by
 unfold covS
 rw [oK hk]
 unfold covK
 exact decide_eq_false (by have := sign_neg.1 h; grind)
theorem covS_T {p : PB} {y : List NM} {ls : List Rat} (h : ∀ k, k < p.2.2.2.length → ¬ (colS p y k p.1.2.length - ls.getD k default).num.sign < 0) : true = covS p y ls := by
 unfold covS
 rw [List.all_eq_true.2]
 intro k hk
 have := h k (List.mem_range.1 hk)
 unfold covK
 refine decide_eq_true ?_
 have h3 := fun h2 => this (sign_neg.2 h2)
 grind
end Go.Ab
namespace Go.Ab
def tpB (b : Bool) (e : Int) : LV := .tup [.v (.bool b), .v (.int .i64 e)]
def feaO (p : PB) (x : List NM) : LV := if vP p = true ∧ VV x = true then (if x.length = p.2.2.2.length then tpB (feaS p x) 0 else tpB false 2) else tpB false 1
theorem tpB_data {b : Bool} {e : Int} : Data (tpB b e) := .tup _ (by intro x hx; simp only [List.mem_cons, List.not_mem_nil, or_false] at hx; rcases hx with rfl | rfl <;> exact .v _)
theorem mO {p : PB} {x : List NM} : Data (feaO p x) := by unfold feaO; split <;> (try split) <;> exact tpB_data
section
variable {p : PB} {x : List NM}
theorem feaO_1 (h : vP p = false) : tpB false 1 = feaO p x := by unfold feaO; rw [if_neg (by rw [h]; simp)]
theorem feaO_2 (h : VV x = false) : tpB false 1 = feaO p x := by unfold feaO; rw [if_neg (by rw [h]; simp)]
theorem feaO_3 (h : vP p = true) (h2 : VV x = true) (h3 : ¬ (x.length : Int) = (p.2.2.2.length : Int)) : tpB false 2 = feaO p x := by unfold feaO; rw [if_pos ⟨h, h2⟩, if_neg om]
theorem feaO_4 (h : vP p = true) (h2 : VV x = true) (h3 : ¬ (x.length : Int) ≠ (p.2.2.2.length : Int)) : tpB (feaS p x) 0 = feaO p x := by unfold feaO; rw [if_pos ⟨h, h2⟩, if_pos om]
end
end Go.Ab
namespace Go.Ab
open Go.RowKit
structure IR (r : RS) : Prop where
 v : I64 r.2.1.1 ∧ I64 r.2.1.2
 x : IV r.2.2.1.2
 y : IV r.2.2.2.1.2
 ray : IV r.2.2.2.2.2
 lx : r.2.2.1.2.length < 1000000
 ly : r.2.2.2.1.2.length < 1000000
 lr : r.2.2.2.2.2.length < 1000000
theorem nm_eq (a b : NM) : (a.1 == b.1 && (a.2 == b.2 && true)) = decide (a = b) := by
 rw [Bool.eq_iff_iff]
 simp only [Bool.and_eq_true, beq_iff_eq, and_true, decide_eq_true_eq]
 exact ⟨fun ⟨h1, h2⟩ => Prod.ext h1 h2, fun h => by rw [h]; exact ⟨rfl, rfl⟩⟩
def lckO (p : PB) (r : RS) : LV := if vP p = true then tpB (chkS p r) 0 else tpB false 1
theorem dC {p : PB} {r : RS} : Data (lckO p r) := by unfold lckO; split <;> exact tpB_data
theorem rvs_zero (n : Nat) : rvs (List.replicate n x0) = zeroL n := by unfold rvs zeroL; rw [List.map_replicate]; rfl
section
variable {p : PB} {r : RS}
theorem gU (h : vP p = false) : tpB false 1 = lckO p r := by unfold lckO; rw [if_neg (by rw [h]; simp)]
theorem bO (h : vP p = true) (hk : r.1 = 0) {b : Bool} (hb : b = chk0 p r) : tpB b 0 = lckO p r := by unfold lckO chkS; rw [if_pos h, if_pos hk, hb]
theorem bD (h : vP p = true) (hk : ¬ r.1 = 0) (hk1 : r.1 = 1) {b : Bool} (hb : b = chk1 p r) : tpB b 0 = lckO p r := by unfold lckO chkS; rw [if_pos h, if_neg hk, if_pos hk1, hb]
theorem aZ (h : vP p = true) (hk : ¬ r.1 = 0) (hk1 : ¬ r.1 = 1) (hk2 : r.1 = 2) {b : Bool} (hb : b = chk2 p r) : tpB b 0 = lckO p r := by unfold lckO chkS; rw [if_pos h, if_neg hk, if_neg hk1, if_pos hk2, hb]
theorem fF (h : vP p = true) (hk : ¬ r.1 = 0) (hk1 : ¬ r.1 = 1) (hk2 : ¬ r.1 = 2) : tpB false 0 = lckO p r := by unfold lckO chkS; rw [if_pos h, if_neg hk, if_neg hk1, if_neg hk2]
theorem cS (h : decide (r.2.1 = ((0, 0) : NM)) = false) : false = chk0 p r := by unfold chk0; rw [h]; rfl
theorem eP (h : ¬ (r.2.2.1.2.length : Int) + (r.2.2.2.2.2.length : Int) = 0) : false = chk0 p r := by unfold chk0; rw [decide_eq_false (show ¬ r.2.2.1.2.length + r.2.2.2.2.2.length = 0 by omega)]; simp
theorem eT (h : posS r.2.2.2.1.2 p.1.2.length = false) : false = chk0 p r := by unfold chk0; rw [h]; simp
theorem chk0_4 (h : covS p r.2.2.2.1.2 (zeroL p.2.2.2.length) = false) : false = chk0 p r := by unfold chk0; rw [h]; simp
theorem chk0_5 (h1 : decide (r.2.1 = ((0, 0) : NM)) = true) (h2 : (r.2.2.1.2.length : Int) + (r.2.2.2.2.2.length : Int) = 0) (h3 : posS r.2.2.2.1.2 p.1.2.length = true) (h4 : covS p r.2.2.2.1.2 (zeroL p.2.2.2.length) = true) {q : Rat} (hq : q = dtN p.2.1.2 r.2.2.2.1.2) : decide (q.num.sign < 0) = chk0 p r := by
 unfold chk0
 rw [h1, decide_eq_true (show r.2.2.1.2.length + r.2.2.2.2.2.length = 0 by omega), h3, h4, hq]
 simp only [Bool.true_and]
 exact decide_eq_decide.2 lL
theorem cU (h : (!decide (r.2.1 = ((0, 0) : NM))) = true) : false = chk1 p r := by
 unfold chk1
 have : decide (r.2.1 = ((0, 0) : NM)) = false := by simpa using h
 rw [this]; rfl
theorem eU (h : (0 : Int) < (r.2.2.2.1.2.length : Int)) : false = chk1 p r := by unfold chk1; rw [decide_eq_false (show ¬ r.2.2.2.1.2.length = 0 by omega)]; simp
theorem cV (h : feaS p r.2.2.1.2 = false) : false = chk1 p r := by unfold chk1; rw [h]; simp
theorem cW (h : posS r.2.2.2.2.2 p.2.2.2.length = false) : false = chk1 p r := by unfold chk1; rw [h]; simp
theorem cX (h : upS p r.2.2.2.2.2 = true) : false = chk1 p r := by unfold chk1; rw [h]; simp
theorem eV (h1 : (!decide (r.2.1 = ((0, 0) : NM))) = false) (h2 : ¬ (0 : Int) < (r.2.2.2.1.2.length : Int)) (h3 : feaS p r.2.2.1.2 = true) (h4 : posS r.2.2.2.2.2 p.2.2.2.length = true) (h5 : upS p r.2.2.2.2.2 = false) {q : Rat} (hq : q = dtN p.2.2.2 r.2.2.2.2.2) : decide (0 < q.num.sign) = chk1 p r := by
 have e1 : decide (r.2.1 = ((0, 0) : NM)) = true := by simpa using h1
 unfold chk1
 rw [e1, decide_eq_true (show r.2.2.2.1.2.length = 0 by omega), h3, h4, h5, hq]
 simp only [Bool.true_and, Bool.not_false]
 exact decide_eq_decide.2 jI
theorem cY (h : vn r.2.1 = false) : false = chk2 p r := by unfold chk2; rw [h]; rfl
theorem eW (h : (0 : Int) < (r.2.2.2.2.2.length : Int)) : false = chk2 p r := by unfold chk2; rw [decide_eq_false (show ¬ r.2.2.2.2.2.length = 0 by omega)]; simp
theorem cZ (h : feaS p r.2.2.1.2 = false) : false = chk2 p r := by unfold chk2; rw [h]; simp
theorem eX (h : posS r.2.2.2.1.2 p.1.2.length = false) : false = chk2 p r := by unfold chk2; rw [h]; simp
theorem eY {q : Rat} (hq : q = dtN p.2.2.2 r.2.2.1.2) (h : ¬ (q - nq r.2.1).num.sign = 0) : false = chk2 p r := by
 unfold chk2; rw [decide_eq_false (show ¬ dtN p.2.2.2 r.2.2.1.2 = nq r.2.1 from fun hh => h (oO.2 (hq.trans hh)))]; simp
theorem eZ {q : Rat} (hq : q = dtN p.2.1.2 r.2.2.2.1.2) (h : ¬ (q - nq r.2.1).num.sign = 0) : false = chk2 p r := by
 unfold chk2; rw [decide_eq_false (show ¬ dtN p.2.1.2 r.2.2.2.1.2 = nq r.2.1 from fun hh => h (oO.2 (hq.trans hh)))]; simp
theorem fA (h1 : vn r.2.1 = true) (h2 : ¬ (0 : Int) < (r.2.2.2.2.2.length : Int)) (h3 : feaS p r.2.2.1.2 = true) (h4 : posS r.2.2.2.1.2 p.1.2.length = true) {q q' : Rat} (hq : q = dtN p.2.2.2 r.2.2.1.2) (h5 : (q - nq r.2.1).num.sign = 0) (hq' : q' = dtN p.2.1.2 r.2.2.2.1.2) (h6 : (q' - nq r.2.1).num.sign = 0) {ls : List Rat} (hls : ls = p.2.2.2.map nq) : covS p r.2.2.2.1.2 ls = chk2 p r := by
 unfold chk2
 rw [h1, decide_eq_true (show r.2.2.2.2.2.length = 0 by omega), h3, h4, decide_eq_true (hq.symm.trans (oO.1 h5)), decide_eq_true (hq'.symm.trans (oO.1 h6)), hls]
 simp only [Bool.true_and]
theorem feaS_pos {x : List NM} (h : feaS p x = true) : posS x p.2.2.2.length = true := by
 unfold feaS at h; rw [Bool.and_eq_true] at h; exact h.1
end
end Go.Ab
namespace Go.Ab
section
variable {p : PB} {r : RS}
theorem eD (h : covS p r.2.2.2.1.2 (rvs (List.replicate p.2.2.2.length x0)) = false) : false = chk0 p r := chk0_4 (by rw [← rvs_zero]; exact h)
theorem eE (h1 : decide (r.2.1 = ((0, 0) : NM)) = true) (h2 : (r.2.2.1.2.length : Int) + (r.2.2.2.2.2.length : Int) = 0) (h3 : posS r.2.2.2.1.2 p.1.2.length = true) (h4 : covS p r.2.2.2.1.2 (rvs (List.replicate p.2.2.2.length x0)) = true) {q : Rat} (hq : q = dtN p.2.1.2 r.2.2.2.1.2) : decide (q.num.sign < 0) = chk0 p r := chk0_5 h1 h2 h3 (by rw [← rvs_zero]; exact h4) hq
end
end Go.Ab
namespace Go.Ab
open Go.RowKit
theorem posS_no {l : List NM} {n i : Nat} (hi : i < l.length) (h : (l.getD i default).1 < 0) : false = posS l n := by
 unfold posS
 rw [kI (p := posN) (us := l) (i := i) hi (by unfold posN; rw [decide_eq_false om, Bool.and_false]), Bool.and_false]
theorem posS_len {l : List NM} {n : Nat} (h : ¬ (l.length : Int) = (n : Int)) : false = posS l n := by
 unfold posS; rw [decide_eq_false om]; rfl
theorem posS_all {l : List NM} {n : Nat} (h : (l.length : Int) = (n : Int)) (hn : ∀ i, i < l.length → ¬ (l.getD i default).1 < 0) : l.all vn = posS l n := by
 unfold posS
 rw [decide_eq_true (show l.length = n by omega), Bool.true_and, Bool.eq_iff_iff, List.all_eq_true, List.all_eq_true]
 constructor
 ·intro h2 a ha
  obtain ⟨i, hi, rfl⟩ := mem_gD ha
  unfold posN
  rw [h2 _ ha, decide_eq_true (by have := hn i hi; omega)]; rfl
 ·intro h2 a ha
  have := h2 a ha
  unfold posN at this
  rw [Bool.and_eq_true] at this
  exact this.1
theorem colS_bd {p : PB} {y : List NM} {k : Nat} (h : VP p) (hk : k < p.2.2.2.length) (hy : ∀ a, a ∈ y → VN a) (hl : y.length = p.1.2.length) (i : Nat) (hi : i ≤ p.1.2.length) : Bd (2 + i * 5) (colS p y k i) := by
 rw [← colX_v]; exact qP h hk hy hl i hi
def covQ (p : PB) (y : List NM) (ls : List Rat) : Bool := posS y p.1.2.length && covS p y ls
theorem covQ_1 {p : PB} {y : List NM} {ls : List Rat} (h : posS y p.1.2.length = false) : false = covQ p y ls := by unfold covQ; rw [h]; rfl
theorem covQ_2 {p : PB} {y : List NM} {ls : List Rat} {b : Bool} (h : posS y p.1.2.length = true) (hb : b = covS p y ls) : b = covQ p y ls := by unfold covQ; rw [h, hb]; rfl
end Go.Ab
namespace Go.Ab
theorem dotn_dt (a b : List Rat) : ∀ i, dotn a b i = dt a b i
 | 0 => rfl
 | i + 1 => by
  rw [dotn, dotn_dt a b i]; rfl
theorem dotR_N (a b : List NM) : dotR (a.map nq) (b.map nq) = dtN a b := by
 unfold dotR dtN
 rw [dotn_dt, List.length_map]
theorem dtN_bd2 {a b : List NM} (ha : ∀ x, x ∈ a → VN x) (hb : ∀ x, x ∈ b → VN x) (h : a.length ≤ b.length) (hl : a.length ≤ 100) : Bd 1000 (dtN a b) := by
 rw [← lD h]; exact dtN_bd ha hb h hl
open Go.RowKit
section
variable {p : PB}
theorem vQ_2 (h : (40 : Int) < (p.1.2.length : Int)) : false = vP p := vP_2 om
theorem vQ_4 (h : (p.2.1.2.length : Int) ≠ (p.1.2.length : Int)) : false = vP p := vP_4 h
theorem vQ_6 (h : (40 : Int) < (p.2.2.2.length : Int)) : false = vP p := vP_6 om
theorem VM_wid (h : VM p.1.2 = true) {r : M1} (hr : r ∈ p.1.2) : r.2.length = (p.1.2.getD 0 default).2.length := by
 unfold VM at h
 simp only [Bool.and_eq_true, List.all_eq_true] at h
 have h2 := h.2 r hr
 unfold VMr at h2
 rw [Bool.and_eq_true] at h2
 exact of_decide_eq_true h2.1
theorem vQ_7 (h1 : VM p.1.2 = true) (h2 : ¬ (40 : Int) < (p.1.2.length : Int)) (h3 : VV p.2.1.2 = true) (h4 : ¬ (p.2.1.2.length : Int) ≠ (p.1.2.length : Int)) (h5 : VV p.2.2.2 = true) (h6 : ¬ (40 : Int) < (p.2.2.2.length : Int)) (h7 : (p.1.2.length : Int) = 0) : true = vP p := by
 refine (lS.2 ⟨h1, om, h3, om, h5, om, fun r hr => ?_⟩).symm
 have : p.1.2 = [] := List.length_eq_zero_iff.1 om
 rw [this] at hr; cases hr
theorem vQ_8 (h1 : VM p.1.2 = true) (h2 : ¬ (40 : Int) < (p.1.2.length : Int)) (h3 : VV p.2.1.2 = true) (h4 : ¬ (p.2.1.2.length : Int) ≠ (p.1.2.length : Int)) (h5 : VV p.2.2.2 = true) (h6 : ¬ (40 : Int) < (p.2.2.2.length : Int)) (h7 : ¬ (p.1.2.length : Int) = 0) : decide (((wd p.1.2 : Nat) : Int) = (p.2.2.2.length : Int)) = vP p := by
 by_cases hw : wd p.1.2 = p.2.2.2.length
 ·rw [decide_eq_true om]
  refine (lS.2 ⟨h1, om, h3, om, h5, om, fun r hr => ?_⟩).symm
  rw [VM_wid h1 hr, ← hw]; unfold wd; rw [if_neg om]
 ·rw [decide_eq_false om]
  exact vP_F fun k => hw (by
   have := k.w _ (bS (us := p.1.2) (i := 0) om)
   rw [← this]; unfold wd; rw [if_neg om])
end
def fewL (p : PB) : Bool := fewb p.1.2 && decide (p.2.1.2.length ≤ 70) && (decide (p.2.2.2.length ≤ 8) || (decide (40 < p.2.2.2.length) && decide (p.2.2.2.length ≤ 70)))
theorem rG {p : PB} (h : fewb p.1.2 = false) : false = fewL p := by unfold fewL; rw [h]; rfl
theorem rH {p : PB} (h : ¬ (p.2.1.2.length : Int) ≤ 70) : false = fewL p := by unfold fewL; rw [decide_eq_false (show ¬ p.2.1.2.length ≤ 70 by omega), Bool.and_false]; rfl
theorem rI {p : PB} (h1 : fewb p.1.2 = true) (h2 : (p.2.1.2.length : Int) ≤ 70) (h3 : (p.2.2.2.length : Int) ≤ 8) : true = fewL p := by unfold fewL; rw [h1, decide_eq_true (show p.2.1.2.length ≤ 70 by omega), decide_eq_true (show p.2.2.2.length ≤ 8 by omega)]; rfl
theorem rJ {p : PB} (h3 : ¬ (p.2.2.2.length : Int) ≤ 8) (h4 : ¬ (40 : Int) < (p.2.2.2.length : Int)) : false = fewL p := by unfold fewL; rw [decide_eq_false (show ¬ p.2.2.2.length ≤ 8 by omega), decide_eq_false (show ¬ 40 < p.2.2.2.length by omega)]; simp
theorem rK {p : PB} (h1 : fewb p.1.2 = true) (h2 : (p.2.1.2.length : Int) ≤ 70) (h3 : ¬ (p.2.2.2.length : Int) ≤ 8) (h4 : (40 : Int) < (p.2.2.2.length : Int)) : decide ((p.2.2.2.length : Int) ≤ 70) = fewL p := by unfold fewL; rw [h1, decide_eq_true (show p.2.1.2.length ≤ 70 by omega), decide_eq_false (show ¬ p.2.2.2.length ≤ 8 by omega), decide_eq_true (show 40 < p.2.2.2.length by omega)]; simp only [Bool.true_and, Bool.false_or]; exact decide_eq_decide.2 om
end Go.Ab
namespace Go.Ab
open Go.RowKit
section
variable {p : PB} {r : RS}
theorem bX (hk : r.1 = 0) {b : Bool} (hb : b = chk0 p r) : b = chkS p r := by unfold chkS; rw [if_pos hk, hb]
theorem bT (hk : ¬ r.1 = 0) (hk1 : r.1 = 1) {b : Bool} (hb : b = chk1 p r) : b = chkS p r := by unfold chkS; rw [if_neg hk, if_pos hk1, hb]
theorem bU (hk : ¬ r.1 = 0) (hk1 : ¬ r.1 = 1) (hk2 : r.1 = 2) {b : Bool} (hb : b = chk2 p r) : b = chkS p r := by unfold chkS; rw [if_neg hk, if_neg hk1, if_pos hk2, hb]
theorem iB (hk : ¬ r.1 = 0) (hk1 : ¬ r.1 = 1) (hk2 : ¬ r.1 = 2) : false = chkS p r := by unfold chkS; rw [if_neg hk, if_neg hk1, if_neg hk2]
theorem iC (h : ¬ (r.2.2.1.2.length : Int) = 0) : false = chk0 p r := eP om
theorem iD (h : ¬ (r.2.2.2.2.2.length : Int) = 0) : false = chk0 p r := eP om
theorem iE (h : covQ p r.2.2.2.1.2 (zeroL p.2.2.2.length) = false) : false = chk0 p r := by
 unfold covQ at h
 rw [Bool.and_eq_false_iff] at h
 rcases h with h | h
 ·exact eT h
 ·exact chk0_4 h
theorem mL {y : List NM} {ls : List Rat} (h : covQ p y ls = true) : posS y p.1.2.length = true ∧ covS p y ls = true := by
 unfold covQ at h; rw [Bool.and_eq_true] at h; exact h
theorem iF (h1 : decide (r.2.1 = ((0, 0) : NM)) = true) (h2 : (r.2.2.1.2.length : Int) = 0) (h3 : (r.2.2.2.2.2.length : Int) = 0) (h4 : covQ p r.2.2.2.1.2 (zeroL p.2.2.2.length) = true) : decide ((dtN p.2.1.2 r.2.2.2.1.2).num.sign < 0) = chk0 p r := chk0_5 h1 om (mL h4).1 (mL h4).2 rfl
theorem iG (h : (r.2.2.2.1.2.length : Int) ≠ 0) : false = chk1 p r := eU om
theorem iM {ray : List NM} {i : Nat} (hi : i < p.1.2.length) (h : 0 < (dtN (p.1.2.getD i default).2 ray).num.sign) : upS p ray = true := List.any_eq_true.2 ⟨_, bS hi, decide_eq_true (jI.1 h)⟩
theorem upS_F {ray : List NM} (h : ∀ i, i < p.1.2.length → ¬ 0 < (dtN (p.1.2.getD i default).2 ray).num.sign) : upS p ray = false := by
 unfold upS
 rw [List.any_eq_false]
 intro row hr
 obtain ⟨i, hi, rfl⟩ := mem_gD hr
 have := h i hi
 simp only [decide_eq_true_eq]
 exact fun h2 => this (jI.2 h2)
theorem iH (h1 : (!decide (r.2.1 = ((0, 0) : NM))) = false) (h2 : ¬ (r.2.2.2.1.2.length : Int) ≠ 0) (h3 : feaS p r.2.2.1.2 = true) (h4 : posS r.2.2.2.2.2 p.2.2.2.length = true) (h5 : ∀ i, i < p.1.2.length → ¬ 0 < (dtN (p.1.2.getD i default).2 r.2.2.2.2.2).num.sign) : decide (0 < (dtN p.2.2.2 r.2.2.2.2.2).num.sign) = chk1 p r := eV h1 om h3 h4 (upS_F h5) rfl
theorem iI (h : (r.2.2.2.2.2.length : Int) ≠ 0) : false = chk2 p r := eW om
theorem iJ (h : covQ p r.2.2.2.1.2 (p.2.2.2.map nq) = false) : false = chk2 p r := by
 unfold covQ at h
 rw [Bool.and_eq_false_iff] at h
 rcases h with h | h
 ·exact eX h
 ·unfold chk2; rw [h]; simp
theorem iK (h : ¬ (dtN p.2.2.2 r.2.2.1.2 - nq r.2.1).num.sign = 0) : false = chk2 p r := eY rfl h
theorem iL (h1 : vn r.2.1 = true) (h2 : ¬ (r.2.2.2.2.2.length : Int) ≠ 0) (h3 : feaS p r.2.2.1.2 = true) (h4 : covQ p r.2.2.2.1.2 (p.2.2.2.map nq) = true) (h5 : (dtN p.2.2.2 r.2.2.1.2 - nq r.2.1).num.sign = 0) : decide ((dtN p.2.1.2 r.2.2.2.1.2 - nq r.2.1).num.sign = 0) = chk2 p r := by
 by_cases h : (dtN p.2.1.2 r.2.2.2.1.2 - nq r.2.1).num.sign = 0
 ·rw [decide_eq_true h, ← fA h1 om h3 (mL h4).1 rfl h5 rfl h rfl]; exact (mL h4).2.symm
 ·rw [decide_eq_false h]; exact eZ rfl h
end
end Go.Ab
namespace Go.Ab
section
variable {p : PB} {r : RS} {x : List NM}
def feaB (p : PB) (x : List NM) : Bool := if vP p = true ∧ VV x = true ∧ x.length = p.2.2.2.length then feaS p x else false
def feaE (p : PB) (x : List NM) : Int := if vP p = true ∧ VV x = true then (if x.length = p.2.2.2.length then 0 else 2) else 1
theorem feaO_eq (p : PB) (x : List NM) : feaO p x = .tup [.v (.bool (feaB p x)), .v (.int .i64 (feaE p x))] := by
 unfold feaO feaB feaE
 by_cases h : vP p = true ∧ VV x = true
 ·rw [if_pos h, if_pos h]
  by_cases h2 : x.length = p.2.2.2.length
  ·rw [if_pos h2, if_pos h2, if_pos ⟨h.1, h.2, h2⟩]; rfl
  ·rw [if_neg h2, if_neg h2, if_neg (fun hh => h2 hh.2.2)]; rfl
 ·rw [if_neg h, if_neg h, if_neg (fun hh => h ⟨hh.1, hh.2.1⟩)]; rfl
theorem feaX_0 (h : vP p = false) : feaB p x = false ∧ feaE p x = 1 := by
 unfold feaB feaE; rw [h]; simp
theorem feaX_1 (h2 : VV x = false) : feaE p x = 1 := by unfold feaE; rw [h2]; simp
theorem feaX_2 (h : vP p = true) (h2 : VV x = true) (h3 : (x.length : Int) ≠ (p.2.2.2.length : Int)) : feaE p x = 2 := by
 unfold feaE; rw [if_pos ⟨h, h2⟩, if_neg om]
theorem feaX_3 (h : vP p = true) (h2 : VV x = true) (h3 : ¬ (x.length : Int) ≠ (p.2.2.2.length : Int)) : feaE p x = 0 ∧ feaB p x = feaS p x := by
 unfold feaE feaB; rw [if_pos ⟨h, h2⟩, if_pos om, if_pos ⟨h, h2, om⟩]; exact ⟨rfl, rfl⟩
theorem lckO_T (h : vP p = true) : lckO p r = .tup [.v (.bool (chkS p r)), .v (.int .i64 0)] := by unfold lckO; rw [if_pos h]; rfl
theorem lckO_F (h : vP p = false) : lckO p r = .tup [.v (.bool false), .v (.int .i64 1)] := by unfold lckO; rw [if_neg (by rw [h]; simp)]; rfl
theorem fewL_ip (h : fewL p = true) (h1 : IM p.1.2) (h2 : IV p.2.1.2) (h3 : IV p.2.2.2) : IP p := by
 unfold fewL at h
 simp only [Bool.and_eq_true, Bool.or_eq_true, decide_eq_true_eq] at h
 have h8 := few8 h.1.1
 exact ⟨h1, h2, h3, by have := h8.ln; omega, fun r hr => by have := h8.lr r hr; omega, om, by rcases h.2 with h | h <;> omega⟩
end
end Go.Ab
namespace Go.Ab
open Go.RowKit
section
variable {P : Program} {T : TT} {E : TypeId → Bool} {N : Nat} {oa : Array Oper} {i b n : Nat} {e : Env} {h : Hp} {acc : List Rec} {l : List Oper} {Q : Env → Hp → Nat → Prop}
variable {op : Op} {t : TypeId} {pos : String} {af : Array Edge} {g : Option (Nat × Bool)} {dst : Tmp} {r : LV} {d : Delta} {R : List Nat}
def WX (P : Program) (T : TT) (E : TypeId → Bool) (N : Nat) (oa : Array Oper) (l : List Oper) (i b : Nat) (e : Env) (h : Hp) (n : Nat) (acc : List Rec) (Q : Env → Hp → Nat → Prop) : Prop :=
 oa.toList.drop i = l → ∀ s m, Fits N e s → FitsM h m → ∃ rs s', Run P T E (.ops oa (List.range' i l.length) b ⟨s, m, n⟩ rs s') ∧ DrawG oa (acc.reverse ++ rs) ∧ ∃ e' h', Fits N e' s'.s ∧ FitsM h' s'.m ∧ Q e' h' s'.n
theorem WX.nil (hd : DrawG oa acc.reverse) (k : Q e h n) : WX P T E N oa [] i b e h n acc Q := fun _ s m hs hm => ⟨[], _, .nil _ _ _, by simpa using hd, e, h, hs, hm, k⟩
theorem WX.stepg {o : Oper} {e' : Env} (hg : guardE oa o e = some true) (ho : OP P T E o (b + i) e h r d R) (hput : ∀ s, Fits N e s → Fits N e' (putS s o.dst r))
  (k : WX P T E N oa l (i + 1) b e' (appH d h) n (⟨i, keys d, R, false⟩ :: acc) Q) : WX P T E N oa (o :: l) i b e h n acc Q := by
 intro hd s m hs hm
 obtain ⟨hi, hl⟩ := eF hd
 obtain ⟨rs, s', h1, h2, h3⟩ := k hl _ _ (hput s hs) (hm.app d)
 refine ⟨⟨i, keys d, R, false⟩ :: rs, s', ?_, by simpa using h2, h3⟩
 rw [List.length_cons, List.range'_succ]
 exact .did oa i _ b ⟨s, m, n⟩ s' rs o r d R (by simpa using hi) (dQ hs hg) (ho s m (fun x l hx => dR hs hx) hm) h1
theorem WX.U (ho : OP P T E ⟨some dst, op, t, pos, af, none⟩ (b + i) e h r [] R) (hd : Nat.blt dst N = true)
  (k : WX P T E N oa l (i + 1) b ((dst, r) :: e) h n (⟨i, [], R, false⟩ :: acc) Q) : WX P T E N oa (⟨some dst, op, t, pos, af, none⟩ :: l) i b e h n acc Q := WX.stepg rfl ho (fun s hs => hs.put hd r) k
theorem WX.Ug (hg : guardE oa ⟨some dst, op, t, pos, af, g⟩ e = some true) (ho : OP P T E ⟨some dst, op, t, pos, af, g⟩ (b + i) e h r [] R) (hd : Nat.blt dst N = true)
  (k : WX P T E N oa l (i + 1) b ((dst, r) :: e) h n (⟨i, [], R, false⟩ :: acc) Q) : WX P T E N oa (⟨some dst, op, t, pos, af, g⟩ :: l) i b e h n acc Q := WX.stepg hg ho (fun s hs => hs.put hd r) k
theorem WX.S0 (ho : OP P T E ⟨none, op, t, pos, af, none⟩ (b + i) e h r d R)
  (k : WX P T E N oa l (i + 1) b e (appH d h) n (⟨i, keys d, R, false⟩ :: acc) Q) : WX P T E N oa (⟨none, op, t, pos, af, none⟩ :: l) i b e h n acc Q := WX.stepg rfl ho (fun s hs => hs) k
theorem WX.K (hg : guardE oa ⟨some dst, op, t, pos, af, g⟩ e = some false) (hd : Nat.blt dst N = true)
  (k : WX P T E N oa l (i + 1) b ((dst, .v undef) :: e) h n (⟨i, [], [], false⟩ :: acc) Q) : WX P T E N oa (⟨some dst, op, t, pos, af, g⟩ :: l) i b e h n acc Q := by
 intro hdr s m hs hm
 obtain ⟨hi, hl⟩ := eF hdr
 obtain ⟨rs, s', h1, h2, h3⟩ := k hl _ m (hs.put hd _) hm
 refine ⟨⟨i, [], [], false⟩ :: rs, s', ?_, by simpa using h2, h3⟩
 rw [List.length_cons, List.range'_succ]
 exact .skipped oa i _ b ⟨s, m, n⟩ s' rs _ (by simpa using hi) (dQ hs hg) h1
theorem WX.B {p : Bool} (h1 : p = true → WX P T E N oa l i b ((dst, .v (.bool true)) :: e) h n acc Q) (h2 : p = false → WX P T E N oa l i b ((dst, .v (.bool false)) :: e) h n acc Q) : WX P T E N oa l i b ((dst, .v (.bool p)) :: e) h n acc Q := by
 cases p with
 | true => exact h1 rfl
 | false => exact h2 rfl
theorem WX.D {p : Prop} [Decidable p] (h1 : p → WX P T E N oa l i b ((dst, .v (.bool true)) :: e) h n acc Q) (h2 : ¬ p → WX P T E N oa l i b ((dst, .v (.bool false)) :: e) h n acc Q) : WX P T E N oa l i b ((dst, .v (.bool (decide p))) :: e) h n acc Q := by
 by_cases h : p
 ·rw [decide_eq_true h]; exact h1 h
 ·rw [decide_eq_false h]; exact h2 h
theorem WX.G {fn : Func} {f : FuncId} {c : Code} {args : Array Operand} {at_ : Array TypeId} {ls : List LV} {Φ : LV → Hp → Nat → Prop} (K : List Nat) (hg : guardE oa ⟨some dst, .call { callee := .value (.func f), args := args, argTypes := at_ }, t, pos, af, g⟩ e = some true) (ha : argsE e args.toList = some ls) (hf : P.funcs[f]? = some fn) (hb : fn.body = some c) (hn : (fn.name == "runtime.NumGoroutine") = false) (hl : ls.length ≤ fn.ntmps) (hd : Nat.blt dst N = true)
  (k : WC P T E fn.ntmps c (argsEnv 0 ls) h n (fun x e' h' n' => (x = .normal ∨ x = .ret) ∧ ∃ ls', resE e' T h' fn.results.toList = some ls' ∧ Φ (resultLV ls') h' n'))
  (kk : ∀ r h' n', Φ r h' n' → (∀ k, k ∈ K → ∃ o, getH h k = some o ∧ getH h' k = some o) ∧ WX P T E N oa l (i + 1) b ((dst, r) :: e) h' n' (⟨i, [], K, true⟩ :: acc) Q) :
  WX P T E N oa (⟨some dst, .call { callee := .value (.func f), args := args, argTypes := at_ }, t, pos, af, g⟩ :: l) i b e h n acc Q := by
 intro hdr s m hs hm
 obtain ⟨hi, hl'⟩ := eF hdr
 obtain ⟨x, s', h1, e', h', h2, h3, hx, ls', hr, hΦ⟩ := k (frame fn ls) m ⟨by simp [frame]; omega, fun t l ht => by
  obtain ⟨_, k⟩ := fI ls 0 t l ht
  simp only [Nat.sub_zero] at k
  unfold frame
  rw [List.getElem?_append_left (List.getElem?_eq_some_iff.1 k).1]; exact k⟩ hm
 have hgc : Run P T E (.gcall f ls m n (resultLV ls') s'.m s'.n) := .gcall f fn c ls m n x s' ls' hf hb hn hl h1 hx (fO h2 h3 hr)
 obtain ⟨hK, kk⟩ := kk _ h' s'.n hΦ
 obtain ⟨rs, s2, k1, k2, k3⟩ := kk hl' _ _ (hs.put hd (resultLV ls')) h3
 refine ⟨⟨i, [], K, true⟩ :: rs, s2, ?_, by simpa using k2, k3⟩
 rw [List.length_cons, List.range'_succ]
 refine .gdid oa i _ b ⟨s, m, n⟩ s2 rs _ _ (.func f) f [] [] (resultLV ls') s'.m s'.n K (by simpa using hi) (dQ hs hg) rfl rfl rfl ?_ (fun k hk => ?_) k1
 ·rw [dZ (fun x l hx => dR hs hx) ha]
  simpa using hgc
 ·obtain ⟨o, q1, q2⟩ := hK k hk
  exact (h3 k o q2).trans (hm k o q1).symm
theorem nU {id z : Nat} {c : Code} {Q : Ex → Env → Hp → Nat → Prop} (hz : oa.size = z) (ht : topo oa = true) (k : WX P T E N oa oa.toList 0 n e h (n + z) [] fun e' m' n' => WC P T E N c e' m' n' Q) : WC P T E N (.seq (.region id oa true) c) e h n Q := lU fun s m hs hm => by
 obtain ⟨rs, s', h1, hd, e', h', h3, h4, h5⟩ := k (by simp) s m hs hm
 refine ⟨.normal, s', .drawG id oa _ s' rs ?_ (by simpa using hd) ht, e', h', h3, h4, h5⟩
 rw [List.range_eq_range']
 subst hz
 simpa using h1
end
section
variable {P : Program} {T : TT} {E : TypeId → Bool} {N : Nat} {oa : Array Oper} {i b n : Nat} {e : Env} {h : Hp} {l : List Oper} {Q : Env → Hp → Nat → Prop}
variable {op : Op} {t : TypeId} {pos : String} {af : Array Edge} {g : Option (Nat × Bool)} {dst : Tmp} {r : LV} {d : Delta} {R : List Nat}
theorem WN.stepg {o : Oper} {e' : Env} (hg : guardE oa o e = some true) (ho : OP P T E o (b + i) e h r d R) (hput : ∀ s, Fits N e s → Fits N e' (putS s o.dst r))
  (k : WN P T E N oa l (i + 1) b e' (appH d h) n Q) : WN P T E N oa (o :: l) i b e h n Q := by
 intro hd s m hs hm
 obtain ⟨hi, hl⟩ := eF hd
 obtain ⟨rs, s', h1, h3⟩ := k hl _ _ (hput s hs) (hm.app d)
 refine ⟨⟨i, keys d, R, false⟩ :: rs, s', ?_, h3⟩
 rw [List.length_cons, List.range'_succ]
 exact .did oa i _ b ⟨s, m, n⟩ s' rs o r d R (by simpa using hi) (dQ hs hg) (ho s m (fun x l hx => dR hs hx) hm) h1
theorem WN.Ug (hg : guardE oa ⟨some dst, op, t, pos, af, g⟩ e = some true) (ho : OP P T E ⟨some dst, op, t, pos, af, g⟩ (b + i) e h r [] R) (hd : Nat.blt dst N = true)
  (k : WN P T E N oa l (i + 1) b ((dst, r) :: e) h n Q) : WN P T E N oa (⟨some dst, op, t, pos, af, g⟩ :: l) i b e h n Q := WN.stepg hg ho (fun s hs => hs.put hd r) k
theorem WN.K (hg : guardE oa ⟨some dst, op, t, pos, af, g⟩ e = some false) (hd : Nat.blt dst N = true)
  (k : WN P T E N oa l (i + 1) b ((dst, .v undef) :: e) h n Q) : WN P T E N oa (⟨some dst, op, t, pos, af, g⟩ :: l) i b e h n Q := by
 intro hdr s m hs hm
 obtain ⟨hi, hl⟩ := eF hdr
 obtain ⟨rs, s', h1, h3⟩ := k hl _ m (hs.put hd _) hm
 refine ⟨⟨i, [], [], false⟩ :: rs, s', ?_, h3⟩
 rw [List.length_cons, List.range'_succ]
 exact .skipped oa i _ b ⟨s, m, n⟩ s' rs _ (by simpa using hi) (dQ hs hg) h1
theorem WN.D {p : Prop} [Decidable p] (h1 : p → WN P T E N oa l i b ((dst, .v (.bool true)) :: e) h n Q) (h2 : ¬ p → WN P T E N oa l i b ((dst, .v (.bool false)) :: e) h n Q) : WN P T E N oa l i b ((dst, .v (.bool (decide p))) :: e) h n Q := by
 by_cases h : p
 ·rw [decide_eq_true h]; exact h1 h
 ·rw [decide_eq_false h]; exact h2 h
theorem WN.Gg {fn : Func} {f : FuncId} {c : Code} {args : Array Operand} {at_ : Array TypeId} {ls : List LV} {Φ : LV → Hp → Nat → Prop} (hg : guardE oa ⟨some dst, .call { callee := .value (.func f), args := args, argTypes := at_ }, t, pos, af, g⟩ e = some true) (ha : argsE e args.toList = some ls) (hf : P.funcs[f]? = some fn) (hb : fn.body = some c) (hn : (fn.name == "runtime.NumGoroutine") = false) (hl : ls.length ≤ fn.ntmps) (hd : Nat.blt dst N = true)
  (k : WC P T E fn.ntmps c (argsEnv 0 ls) h n (fun x e' h' n' => (x = .normal ∨ x = .ret) ∧ ∃ ls', resE e' T h' fn.results.toList = some ls' ∧ Φ (resultLV ls') h' n'))
  (kk : ∀ r h' n', Φ r h' n' → WN P T E N oa l (i + 1) b ((dst, r) :: e) h' n' Q) :
  WN P T E N oa (⟨some dst, .call { callee := .value (.func f), args := args, argTypes := at_ }, t, pos, af, g⟩ :: l) i b e h n Q := by
 intro hdr s m hs hm
 obtain ⟨hi, hl'⟩ := eF hdr
 obtain ⟨x, s', h1, e', h', h2, h3, hx, ls', hr, hΦ⟩ := k (frame fn ls) m ⟨by simp [frame]; omega, fun t l ht => by
  obtain ⟨_, k⟩ := fI ls 0 t l ht
  simp only [Nat.sub_zero] at k
  unfold frame
  rw [List.getElem?_append_left (List.getElem?_eq_some_iff.1 k).1]; exact k⟩ hm
 have hgc : Run P T E (.gcall f ls m n (resultLV ls') s'.m s'.n) := .gcall f fn c ls m n x s' ls' hf hb hn hl h1 hx (fO h2 h3 hr)
 obtain ⟨rs, s2, k1, k2⟩ := kk _ h' s'.n hΦ hl' _ _ (hs.put hd (resultLV ls')) h3
 refine ⟨⟨i, [], [], true⟩ :: rs, s2, ?_, k2⟩
 rw [List.length_cons, List.range'_succ]
 refine .gdid oa i _ b ⟨s, m, n⟩ s2 rs _ _ (.func f) f [] [] (resultLV ls') s'.m s'.n [] (by simpa using hi) (dQ hs hg) rfl rfl rfl ?_ (fun _ h => by cases h) k1
 rw [dZ (fun x l hx => dR hs hx) ha]
 simpa using hgc
end
def stillB (x y : Rec) : Bool := x.g && !y.g && y.ws.isEmpty && y.R.all fun k => x.R.any fun j => Nat.beq k j
def pairG (oa : Array Oper) (x y : Rec) : Bool := edge oa x.i y.i || (apartAt oa x.i y.i && ((!x.g && !y.g && disj x.ws y.ws && disj x.ws y.R && disj y.ws x.R) || stillB x y || stillB y x)) || reach oa 4 x.i y.i
def drawGB (oa : Array Oper) : List Rec → Bool
 | [] => true
 | x :: rs => rs.all (pairG oa x) && drawGB oa rs
theorem still_of {x y : Rec} (h : stillB x y = true) : Still x y := by
 simp only [stillB, Bool.and_eq_true, Bool.not_eq_true', List.isEmpty_iff, List.all_eq_true, List.any_eq_true] at h
 obtain ⟨⟨⟨h1, h2⟩, h3⟩, h4⟩ := h
 exact ⟨h1, h2, h3, fun k hk => by
  obtain ⟨j, j1, j2⟩ := h4 k hk
  rw [Nat.eq_of_beq_eq_true j2]; exact j1⟩
theorem mN {oa : Array Oper} : ∀ {rs : List Rec}, drawGB oa rs = true → DrawG oa rs
 | [], _ => .nil
 | x :: rs, h => by
  simp only [drawGB, Bool.and_eq_true, List.all_eq_true] at h
  refine .cons (fun y hy => ?_) (mN h.2)
  have := h.1 y hy
  simp only [pairG, Bool.or_eq_true, Bool.and_eq_true, Bool.not_eq_true'] at this
  rcases this with (h1 | ⟨h1, (⟨⟨⟨⟨h2, h3⟩, h4⟩, h5⟩, h6⟩ | h2) | h2⟩) | h1
  ·exact .inl (nE h1 4)
  ·exact .inr ⟨h1, .inl ⟨h2, h3, fun k hk => ⟨mM h4 k hk, mM h5 k hk⟩, mM h6⟩⟩
  ·exact .inr ⟨h1, .inr (.inl (still_of h2))⟩
  ·exact .inr ⟨h1, .inr (.inr (still_of h2))⟩
  ·exact .inl h1
theorem oR {oa : Array Oper} (τ : Nat → Nat) (B : Nat) (rs : List Rec) (hb : rs.all (fun x => x.ws.all (Nat.blt · B) && x.R.all (Nat.blt · B)) = true) (hi : ∀ x y, x < B → y < B → τ x = τ y → x = y) (hd : drawGB oa rs = true) : DrawG oa (rs.map (ren τ)) := by
 have h := mN hd
 unfold DrawG at h ⊢
 rw [List.pairwise_map]
 simp only [List.all_eq_true, Bool.and_eq_true] at hb
 refine List.Pairwise.imp_of_mem (fun {x y} hx hy hxy => ?_) h
 obtain ⟨x1, x2⟩ := hb x hx
 obtain ⟨y1, y2⟩ := hb y hy
 have lt : ∀ {k : Nat}, Nat.blt k B = true → k < B := fun h => by simpa [Nat.blt_eq] using h
 rcases hxy with h | ⟨h, ⟨h1, h2, h3, h4⟩ | ⟨h1, h2, h3, h4⟩ | ⟨h1, h2, h3, h4⟩⟩
 ·exact .inl h
 ·refine .inr ⟨h, .inl ⟨h1, h2, fun k hk => ⟨fun hk' => ?_, fun hk' => ?_⟩, fun k hk hk' => ?_⟩⟩
  ·obtain ⟨u, u1, rfl⟩ := List.mem_map.1 hk
   obtain ⟨v, v1, v2⟩ := List.mem_map.1 hk'
   rw [hi v u (lt (y1 v v1)) (lt (x1 u u1)) v2] at v1
   exact (h3 u u1).1 v1
  ·obtain ⟨u, u1, rfl⟩ := List.mem_map.1 hk
   obtain ⟨v, v1, v2⟩ := List.mem_map.1 hk'
   rw [hi v u (lt (y2 v v1)) (lt (x1 u u1)) v2] at v1
   exact (h3 u u1).2 v1
  ·obtain ⟨u, u1, rfl⟩ := List.mem_map.1 hk
   obtain ⟨v, v1, v2⟩ := List.mem_map.1 hk'
   rw [hi v u (lt (x2 v v1)) (lt (y1 u u1)) v2] at v1
   exact h4 u u1 v1
 ·refine .inr ⟨h, .inr (.inl ⟨h1, h2, by show List.map τ y.ws = []; rw [h3]; rfl, fun k hk => ?_⟩)⟩
  obtain ⟨u, u1, rfl⟩ := List.mem_map.1 hk
  exact List.mem_map_of_mem (h4 u u1)
 ·refine .inr ⟨h, .inr (.inr ⟨h1, h2, by show List.map τ x.ws = []; rw [h3]; rfl, fun k hk => ?_⟩)⟩
  obtain ⟨u, u1, rfl⟩ := List.mem_map.1 hk
  exact List.mem_map_of_mem (h4 u u1)
end Go.Ab
namespace Go.Ab
open Go.RowKit
structure TX where
 n : Nat
 eqs : List Bool
 basic : List Int
 out : List Int
 cells : List (List X)
 goal : List X
def r1 (l : List X) : List Rat := l.map (·.1)
def TX.tb (t : TX) : Tb := ⟨t.n, t.eqs, t.basic, t.out, t.cells.map r1, r1 t.goal⟩
abbrev RW := X1 × X × Bool
def rwc (r : RW) : List LV := [.sl r.1.1 (r.1.2.map xc), .v (.int .i64 (ia r.2.1.1.num)), .sl (ik r.2.1.1.num) ((idg r.2.1.1.num).map d32), .v (.int .i64 (ia (xlow r.2.1))), .sl (ik (xlow r.2.1)) ((idg (xlow r.2.1)).map d32), .v (.bool r.2.2)]
def obX (e : TypeId) (l : List X) : Ob := { cells := (l.map xc).flatten, sz := 4, elem := e, st := 0 }
structure Lay where
 q : Nat
 b : Nat
 o : Nat
 c : Nat
 g : Nat
 a : Nat → Nat
def Lay.id (L : Lay) : Nat → Nat
 | 0 => L.q
 | 1 => L.b
 | 2 => L.o
 | 3 => L.c
 | 4 => L.g
 | k + 5 => L.a k
def rfc (p : Nat × Nat) : List LV := [.ref p.1 4 0 p.2]
def rwsT (L : Lay) (R : List (List X)) : List (Nat × Nat) := tab R.length fun i => (L.a i, (R.getD i []).length)
def tbC (L : Lay) (rl : LV) (t : TX) : List LV := [.v (.int .i64 (t.n : Int)), rl, outV L.b 1 (t.basic.map ic), outV L.o 1 (t.out.map ic), outV L.c 1 ((rwsT L t.cells).map rfc), .ref L.g 4 0 t.goal.length]
structure ET where
 t : TypeId
 i : TypeId
 r : TypeId
 x : TypeId
structure TM (E : ET) (h : Hp) (n : Nat) (L : Lay) (rl : LV) (t : TX) : Prop where
 tb : getH h L.q = some { cells := tbC L rl t, sz := 6, elem := E.t, st := 0 }
 bs : t.basic ≠ [] → getH h L.b = some (obI E.i t.basic)
 ou : t.out ≠ [] → getH h L.o = some (obI E.i t.out)
 cl : t.cells ≠ [] → getH h L.c = some { cells := ((rwsT L t.cells).map rfc).flatten, sz := 1, elem := E.r, st := 0 }
 rw : ∀ i, i < t.cells.length → getH h (L.a i) = some (obX E.x (t.cells.getD i []))
 gl : getH h L.g = some (obX E.x t.goal)
 lt : ∀ k, k < 5 + t.cells.length → L.id k < n
 inj : ∀ j k, j < 5 + t.cells.length → k < 5 + t.cells.length → L.id j = L.id k → j = k
theorem fT (L : Lay) (R : List (List X)) : (rwsT L R).length = R.length := dO _ _
theorem jX {L : Lay} {R : List (List X)} {i : Nat} (hi : i < R.length) : (rwsT L R).getD i default = (L.a i, (R.getD i []).length) := tab_get _ hi
theorem gA (l : List X) : (r1 l).length = l.length := List.length_map ..
theorem iQ (l : List X) (j : Nat) : (r1 l).getD j default = (l.getD j default).1 := gmap_getD rfl l j
theorem mH (l f : List Rat) (k : Nat) : (rplR l f k).length = l.length := by simp [rplR]
theorem rplR_get {l f : List Rat} {k c : Nat} (hc : c < l.length) : (rplR l f k).getD c default = (if c = k + 1 then 0 else l.getD c default) + l.getD (k + 1) default * f.getD c default := by
 unfold rplR
 exact tab_get (fun c => (if c = k + 1 then 0 else l.getD c default) + l.getD (k + 1) default * f.getD c default) hc
theorem lZ (l : List Rat) (k : Nat) : (frsR l k).length = l.length := by simp [frsR]
theorem frsR_get {l : List Rat} {k c : Nat} (hc : c < l.length) : (frsR l k).getD c default = if c = k + 1 then 1 / l.getD (k + 1) default else -(l.getD c default / l.getD (k + 1) default) := by
 unfold frsR
 exact tab_get (fun c => if c = k + 1 then 1 / l.getD (k + 1) default else -(l.getD c default / l.getD (k + 1) default)) hc
theorem rplR_zero {l f : List Rat} {k : Nat} (h0 : l.getD (k + 1) default = 0) : rplR l f k = l := by
 refine list_eq (mH ..) fun c hc => ?_
 rw [mH] at hc
 rw [rplR_get hc, h0, Rat.zero_mul, Rat.add_zero]
 split
 ·rename_i e; rw [e, h0]
 ·rfl
open Go.RowKit
variable {E : ET} {h h' H : Hp} {n n' n0 : Nat} {L : Lay} {rl : LV} {t : TX}
theorem TM.ne (k : TM E h n L rl t) {i j : Nat} (hi : i < 5 + t.cells.length) (hj : j < 5 + t.cells.length) (hij : i ≠ j) : L.id i ≠ L.id j := fun e => hij (k.inj i j hi hj e)
theorem TM.mono (k : TM E h n L rl t) (hn : n ≤ n') (hg : ∀ j o, j < 5 + t.cells.length → getH h (L.id j) = some o → getH h' (L.id j) = some o) : TM E h' n' L rl t where
 tb := hg 0 _ om k.tb
 bs := fun hb => hg 1 _ om (k.bs hb)
 ou := fun hb => hg 2 _ om (k.ou hb)
 cl := fun hb => hg 3 _ om (k.cl hb)
 gl := hg 4 _ om k.gl
 rw := fun i hi => hg (i + 5) _ om (k.rw i hi)
 lt := fun j hj => Nat.lt_of_lt_of_le (k.lt j hj) hn
 inj := k.inj
theorem gB {q : Nat} {l : List Int} (h : l ≠ []) : outV q 1 (l.map ic) = .ref q 1 0 l.length := by
 rw [iU (fun e => h (List.map_eq_nil_iff.1 e)), List.length_map]
theorem jJ {q : Nat} {L : Lay} {R : List (List X)} (h : R ≠ []) : outV q 1 ((rwsT L R).map rfc) = .ref q 1 0 R.length := by
 rw [iU (fun e => h (List.eq_nil_of_length_eq_zero (by rw [← fT L R, List.map_eq_nil_iff.1 e]; rfl))), List.length_map, fT]
theorem rwsT_set {L : Lay} {R : List (List X)} {i : Nat} {l : List X} (hi : i < R.length) (hl : l.length = (R.getD i []).length) : rwsT L (R.set i l) = rwsT L R := by
 unfold rwsT tab
 rw [List.length_set]
 refine List.map_congr_left fun j hj => ?_
 rw [List.mem_range] at hj
 by_cases e : i = j
 ·subst e
  rw [List.getD_eq_getElem?_getD (l := R.set i l), List.getElem?_set_self hi]
  simp only [Option.getD_some, hl]
 ·rw [List.getD_eq_getElem?_getD (l := R.set i l), List.getElem?_set_ne e, ← List.getD_eq_getElem?_getD]
theorem jK {R : List (List X)} {i : Nat} {l : List X} (hi : i < R.length) : (R.set i l).getD i [] = l := by
 rw [List.getD_eq_getElem?_getD, List.getElem?_set_self hi]; rfl
theorem jE {R : List (List X)} {i j : Nat} {l : List X} (h : i ≠ j) : (R.set i l).getD j [] = R.getD j [] := by
 rw [List.getD_eq_getElem?_getD, List.getElem?_set_ne h, ← List.getD_eq_getElem?_getD]
theorem TM.updR (k : TM E h n L rl t) {i : Nat} {l : List X} (hi : i < t.cells.length) (hl : l.length = (t.cells.getD i []).length) (hn : n ≤ n') (hw : getH h' (L.a i) = some (obX E.x l)) (hg : ∀ r o, r < n → r ≠ L.a i → getH h r = some o → getH h' r = some o) :
  TM E h' n' L rl { t with cells := t.cells.set i l } := by
 have go : ∀ j o, j < 5 + t.cells.length → j ≠ i + 5 → getH h (L.id j) = some o → getH h' (L.id j) = some o := fun j o hj hne hh => hg _ o (k.lt j hj) (k.ne hj (show i + 5 < _ by omega) hne) hh
 have hR := rwsT_set (L := L) hi hl
 constructor
 ·have e : tbC L rl { t with cells := t.cells.set i l } = tbC L rl t := by unfold tbC; simp only [hR]
  rw [e]; exact go 0 _ om om k.tb
 ·exact fun hb => go 1 _ om om (k.bs hb)
 ·exact fun hb => go 2 _ om om (k.ou hb)
 ·intro hb
  simp only [hR]
  exact go 3 _ om om (k.cl fun e => hb (by show t.cells.set i l = []; rw [e]; rfl))
 ·intro j hj
  have hj : j < t.cells.length := by simpa using hj
  show getH h' (L.a j) = some (obX E.x ((t.cells.set i l).getD j []))
  by_cases e : i = j
  ·subst e; rw [jK hi]; exact hw
  ·rw [jE e]; exact go (j + 5) _ om om (k.rw j hj)
 ·exact go 4 _ om om k.gl
 ·intro j hj
  exact Nat.lt_of_lt_of_le (k.lt j (by simpa using hj)) hn
 ·intro a b ha hb
  exact k.inj a b (by simpa using ha) (by simpa using hb)
theorem TM.updG (k : TM E h n L rl t) {l : List X} (hl : l.length = t.goal.length) (hn : n ≤ n') (hw : getH h' L.g = some (obX E.x l)) (hg : ∀ r o, r < n → r ≠ L.g → getH h r = some o → getH h' r = some o) :
  TM E h' n' L rl { t with goal := l } := by
 have go : ∀ j o, j < 5 + t.cells.length → j ≠ 4 → getH h (L.id j) = some o → getH h' (L.id j) = some o := fun j o hj hne hh => hg _ o (k.lt j hj) (k.ne hj (show 4 < _ by omega) hne) hh
 constructor
 ·have e : tbC L rl { t with goal := l } = tbC L rl t := by unfold tbC; simp only [hl]
  rw [e]; exact go 0 _ om om k.tb
 ·exact fun hb => go 1 _ om om (k.bs hb)
 ·exact fun hb => go 2 _ om om (k.ou hb)
 ·exact fun hb => go 3 _ om om (k.cl hb)
 ·exact fun j hj => go (j + 5) _ (by show j + 5 < 5 + t.cells.length; have : j < t.cells.length := hj; omega) om (k.rw j hj)
 ·exact hw
 ·exact fun j hj => Nat.lt_of_lt_of_le (k.lt j hj) hn
 ·exact k.inj
theorem TM.newR (k : TM E h n L rl t) {i f : Nat} {l : List X} (hi : i < t.cells.length) (hf : n ≤ f) (hf2 : f < n') (hw : getH h' f = some (obX E.x l)) (hc : getH h' L.c = some { cells := (((rwsT L t.cells).set i (f, l.length)).map rfc).flatten, sz := 1, elem := E.r, st := 0 })
  (hg : ∀ r o, r < n → r ≠ L.c → getH h r = some o → getH h' r = some o) : TM E h' n' { L with a := fun j => if j = i then f else L.a j } rl { t with cells := t.cells.set i l } := by
 have go : ∀ j o, j < 5 + t.cells.length → j ≠ 3 → getH h (L.id j) = some o → getH h' (L.id j) = some o := fun j o hj hne hh => hg _ o (k.lt j hj) (k.ne hj (show 3 < _ by omega) hne) hh
 have hlt : ∀ j, j < 5 + t.cells.length → L.id j < f := fun j hj => Nat.lt_of_lt_of_le (k.lt j hj) hf
 have hR : rwsT { L with a := fun j => if j = i then f else L.a j } (t.cells.set i l) = (rwsT L t.cells).set i (f, l.length) := by
  refine mA (by rw [fT, List.length_set, List.length_set, fT]) fun j hj => ?_
  rw [fT, List.length_set] at hj
  rw [jX (by rw [List.length_set]; exact hj), fV (by rw [fT]; exact hj)]
  by_cases e : i = j
  ·subst e; rw [if_pos rfl, jK hi]; simp
  ·rw [if_neg e, jX hj, jE e]; simp only [if_neg (fun h : j = i => e h.symm)]
 have hid : ∀ j, ({ L with a := fun j => if j = i then f else L.a j } : Lay).id j = if j = i + 5 then f else L.id j := fun j => by
  match j with
  | 0 | 1 | 2 | 3 | 4 => simp [Lay.id]
  | j + 5 => simp [Lay.id]
 constructor
 ·have e : tbC { L with a := fun j => if j = i then f else L.a j } rl { t with cells := t.cells.set i l } = tbC L rl t := by
   have hne : t.cells ≠ [] := dA hi
   have hne2 : t.cells.set i l ≠ [] := fun h => hne (List.eq_nil_of_length_eq_zero (by rw [← List.length_set (i := i) (a := l), h]; rfl))
   unfold tbC
   simp only
   rw [jJ hne, jJ hne2, List.length_set]
  rw [e]; exact go 0 _ om om k.tb
 ·exact fun hb => go 1 _ om om (k.bs hb)
 ·exact fun hb => go 2 _ om om (k.ou hb)
 ·intro _
  simp only [hR]
  exact hc
 ·intro j hj
  have hj : j < t.cells.length := by simpa using hj
  show getH h' (if j = i then f else L.a j) = some (obX E.x ((t.cells.set i l).getD j []))
  by_cases e : j = i
  ·subst e; rw [jK hi, if_pos rfl]; exact hw
  ·rw [jE (fun h => e h.symm), if_neg e]; exact go (j + 5) _ om om (k.rw j hj)
 ·exact go 4 _ om om k.gl
 ·intro j hj
  have hj : j < 5 + t.cells.length := by simpa using hj
  rw [hid]
  split
  ·exact hf2
  ·have := hlt j hj; omega
 ·intro a b ha hb
  have ha : a < 5 + t.cells.length := by simpa using ha
  have hb : b < 5 + t.cells.length := by simpa using hb
  rw [hid, hid]
  intro e
  split at e <;> split at e
  ·omega
  ·have := hlt b hb; omega
  ·have := hlt a ha; omega
  ·exact k.inj a b ha hb e
theorem TM.swap (k : TM E h n L rl t) {bs os : List Int} (hb : bs.length = t.basic.length) (ho : os.length = t.out.length) (hn : n ≤ n') (h1 : bs ≠ [] → getH h' L.b = some (obI E.i bs)) (h2 : os ≠ [] → getH h' L.o = some (obI E.i os)) (hg : ∀ r o, r < n → r ≠ L.b → r ≠ L.o → getH h r = some o → getH h' r = some o) :
  TM E h' n' L rl { t with basic := bs, out := os } := by
 have go : ∀ j o, j < 5 + t.cells.length → j ≠ 1 → j ≠ 2 → getH h (L.id j) = some o → getH h' (L.id j) = some o := fun j o hj hne hne2 hh => hg _ o (k.lt j hj) (k.ne hj (show 1 < _ by omega) hne) (k.ne hj (show 2 < _ by omega) hne2) hh
 have ov : ∀ {q : Nat} {l l' : List Int}, l.length = l'.length → outV q 1 (l.map ic) = outV q 1 (l'.map ic) := fun {q l l'} e => by
  cases l with
  | nil => cases l' with
   | nil => rfl
   | cons _ _ => simp at e
  | cons _ _ => cases l' with
   | nil => simp at e
   | cons _ _ => simp [outV]; simpa using e
 constructor
 ·have e : tbC L rl { t with basic := bs, out := os } = tbC L rl t := by unfold tbC; simp only [ov hb, ov ho]
  rw [e]; exact go 0 _ om om om k.tb
 ·exact h1
 ·exact h2
 ·exact fun hb => go 3 _ om om om (k.cl hb)
 ·exact fun j hj => go (j + 5) _ (by show j + 5 < 5 + t.cells.length; have : j < t.cells.length := hj; omega) om om (k.rw j hj)
 ·exact go 4 _ om om om k.gl
 ·exact fun j hj => Nat.lt_of_lt_of_le (k.lt j hj) hn
 ·exact k.inj
end Go.Ab
namespace Go.Ab
open Go.RowKit
structure Tb.Ok (t : Tb) : Prop where
  bl : t.basic.length = t.cells.length
  gw : t.goal.length = t.out.length + 1
  rw : ∀ i, i < t.cells.length → (t.cells.getD i default).length = t.out.length + 1
  ml : t.cells.length ≤ 100000
  ol : t.out.length ≤ 100000
  nl : t.n ≤ 100000
  el : t.eqs.length ≤ 100000
  br : ∀ v, v ∈ t.basic → -1 ≤ v ∧ v ≤ 1000000
  or : ∀ v, v ∈ t.out → -1 ≤ v ∧ v ≤ 1000000
structure Tb.Bds (β : Nat) (t : Tb) : Prop where
  rw : ∀ i, i < t.cells.length → ∀ x, x ∈ t.cells.getD i default → Bd β x
  gl : ∀ x, x ∈ t.goal → Bd β x
structure Mvd (n0 n' m : Nat) (L L' : Lay) (H h' : Hp) : Prop where
  le : n0 ≤ n'
  qe : L'.q = L.q
  ids : ∀ j, j < 5 + m → L'.id j = L.id j ∨ n0 ≤ L'.id j
  keep : ∀ r o, r < n0 → (∀ k, k < 5 + m → L.id k ≠ r) → getH H r = some o → getH h' r = some o
theorem Mvd.refl {n m : Nat} {L : Lay} {h : Hp} : Mvd n n m L L h h := ⟨Nat.le_refl _, rfl, fun _ _ => .inl rfl, fun _ _ _ _ h => h⟩
theorem Mvd.le' {n0 n m n' : Nat} {L L' : Lay} {H h : Hp} (k : Mvd n0 n m L L' H h) (hn : n ≤ n') : Mvd n0 n' m L L' H h := ⟨Nat.le_trans k.le hn, k.qe, k.ids, k.keep⟩
theorem Mvd.trans {n0 n1 n2 m : Nat} {L L1 L2 : Lay} {H h1 h2 : Hp} (k : Mvd n0 n1 m L L1 H h1) (l : Mvd n1 n2 m L1 L2 h1 h2) : Mvd n0 n2 m L L2 H h2 :=
  ⟨Nat.le_trans k.le l.le, l.qe.trans k.qe, fun j hj => by
    rcases l.ids j hj with e | e
    · rcases k.ids j hj with e' | e'
      · exact .inl (e.trans e')
      · exact .inr om
    · exact .inr (Nat.le_trans k.le e),
   fun r o hr hq h => l.keep r o (Nat.lt_of_lt_of_le hr k.le) (fun j hj e => by
    rcases k.ids j hj with e' | e'
    · exact hq j hj om
    · omega) (k.keep r o hr hq h)⟩
variable {t : TX}
theorem pJ (t : TX) (i : Nat) : t.tb.cells.getD i default = r1 (t.cells.getD i []) := by
  show (t.cells.map r1).getD i [] = _
  rw [List.getD_eq_getElem?_getD, List.getElem?_map, List.getD_eq_getElem?_getD]
  cases t.cells[i]? <;> rfl
theorem mJ (t : TX) : t.tb.cells.length = t.cells.length := List.length_map ..
theorem Tb.Ok.xl (k : t.tb.Ok) {i : Nat} (hi : i < t.cells.length) : (t.cells.getD i []).length = t.out.length + 1 := by
  have h := k.rw i (by rw [mJ]; exact hi)
  rw [pJ, gA] at h
  exact h
theorem Tb.Ok.xb (k : t.tb.Ok) : t.basic.length = t.cells.length := k.bl.trans (mJ t)
theorem Tb.Ok.xg (k : t.tb.Ok) : t.goal.length = t.out.length + 1 := by
  have h := k.gw
  show t.goal.length = _
  rw [← gA t.goal]; exact h
theorem Tb.Ok.xm (k : t.tb.Ok) : t.cells.length ≤ 100000 := by have h := k.ml; rw [mJ] at h; exact h
theorem Tb.Bds.xr {β : Nat} (k : t.tb.Bds β) {i : Nat} (hi : i < t.cells.length) : ∀ x, x ∈ t.cells.getD i [] → Bd β x.1 := fun x hx =>
  k.rw i (by rw [mJ]; exact hi) x.1 (by rw [pJ]; exact List.mem_map_of_mem hx)
theorem Tb.Bds.xg {β : Nat} (k : t.tb.Bds β) : ∀ x, x ∈ t.goal → Bd β x.1 := fun x hx => k.gl x.1 (List.mem_map_of_mem hx)
theorem Bds_mem {β : Nat} {l : List X} {j : Nat} (hj : j < l.length) (h : ∀ x, x ∈ l → Bd β x.1) : Bd β (l.getD j default).1 := h _ (bS hj)
theorem frsR_bd {β k : Nat} {l : List X} (hk : k + 1 < l.length) (h : ∀ x, x ∈ l → Bd β x.1) (hp : (l.getD (k + 1) default).1 ≠ 0) (h1 : 1 ≤ β) : ∀ y, y ∈ frsR (r1 l) k → Bd (2 * β) y := fun y hy => by
  obtain ⟨c, hc, rfl⟩ := List.mem_iff_getElem.1 hy
  rw [lZ, gA] at hc
  have e : (frsR (r1 l) k)[c]'(by rw [lZ, gA]; exact hc) = (frsR (r1 l) k).getD c default := by
    rw [List.getD_eq_getElem?_getD, List.getElem?_eq_getElem (by rw [lZ, gA]; exact hc)]; rfl
  rw [e, frsR_get (by rw [gA]; exact hc), iQ, iQ]
  split
  · have := Bd1.div (Bds_mem hk h) hp
    exact this.mono om
  · have := ((Bds_mem hc h).div (Bds_mem hk h) hp).neg
    exact this.mono om
theorem piv_cells {t : TX} {cs : List (List X)} {i k : Nat} {f : List X} (hi : i < t.cells.length) (hl : cs.length = t.cells.length) (hf : r1 f = frsR (r1 (t.cells.getD i [])) k) (hci : cs.getD i [] = f) (hc : ∀ j, j < t.cells.length → j ≠ i → r1 (cs.getD j []) = rplR (r1 (t.cells.getD j [])) (r1 f) k) :
    cs.map r1 = (t.tb.piv i k).cells := by
  have e1 : (t.tb.piv i k).cells = ((t.cells.map r1).map fun l => rplR l (r1 f) k).set i (r1 f) := by
    show ((t.cells.map r1).map fun l => rplR l (frsR (t.tb.cells.getD i default) k) k).set i (frsR (t.tb.cells.getD i default) k) = _
    rw [pJ, ← hf]
  rw [e1]
  have gd : ∀ {α : Type} (g : List X → List α) (R : List (List X)) (j : Nat), j < R.length → (R.map g).getD j default = g (R.getD j []) := fun g R j hj => by
    rw [List.getD_eq_getElem?_getD, List.getElem?_map, List.getD_eq_getElem?_getD, List.getElem?_eq_getElem hj]; rfl
  refine mA (by simp [hl]) fun j hj => ?_
  rw [List.length_map] at hj
  rw [gd r1 cs j hj, fV (by simp; omega)]
  by_cases e : i = j
  · subst e; rw [if_pos rfl, hci]
  · rw [if_neg e, List.map_map, gd _ t.cells j om]
    exact hc j om fun h => e h.symm
end Go.Ab
namespace Go.Ab
theorem Lay.id_new {L : Lay} {i f n0 : Nat} (hf : n0 ≤ f) : ∀ j, ({ L with a := fun j => if j = i then f else L.a j } : Lay).id j = L.id j ∨ n0 ≤ ({ L with a := fun j => if j = i then f else L.a j } : Lay).id j
  | 0 | 1 | 2 | 3 | 4 => .inl rfl
  | j + 5 => by
    show (if j = i then f else L.a j) = L.a j ∨ n0 ≤ (if j = i then f else L.a j)
    by_cases e : j = i
    · rw [if_pos e]; exact .inr hf
    · rw [if_neg e]; exact .inl rfl
theorem piv_tb {t : TX} {cs : List (List X)} {g f : List X} {i k : Nat} (hi : i < t.cells.length) (hl : cs.length = t.cells.length) (hf : r1 f = frsR (r1 (t.cells.getD i [])) k) (hci : cs.getD i [] = f) (hc : ∀ j, j < t.cells.length → j ≠ i → r1 (cs.getD j []) = rplR (r1 (t.cells.getD j [])) (r1 f) k)
    (hg : r1 g = rplR (r1 t.goal) (r1 f) k) : TX.tb ⟨t.n, t.eqs, t.basic.set i (t.out.getD k default), t.out.set k (t.basic.getD i default), cs, g⟩ = t.tb.piv i k := by
  have h1 := piv_cells hi hl hf hci hc
  have h2 : r1 g = (t.tb.piv i k).goal := by
    rw [hg]
    show _ = rplR (r1 t.goal) (frsR (t.tb.cells.getD i default) k) k
    rw [pJ, ← hf]
  rw [show t.tb.piv i k = ⟨t.n, t.eqs, t.basic.set i (t.out.getD k default), t.out.set k (t.basic.getD i default), (t.tb.piv i k).cells, (t.tb.piv i k).goal⟩ from rfl, ← h1, ← h2]
  rfl
end Go.Ab
namespace Go.Ab
open Go.RowKit
theorem set_mem {α : Type} {l : List α} {i : Nat} {a v : α} (h : v ∈ l.set i a) : v ∈ l ∨ v = a := List.mem_or_eq_of_mem_set h
theorem Tb.Ok.piv {t : Tb} {i k : Nat} (h : t.Ok) (hi : i < t.cells.length) (hk : k < t.out.length) : (t.piv i k).Ok where
 bl := by show (t.basic.set i _).length = ((t.cells.map _).set i _).length; rw [List.length_set, List.length_set, List.length_map]; exact h.bl
 gw := by show (rplR t.goal _ k).length = (t.out.set k _).length + 1; rw [mH, List.length_set]; exact h.gw
 rw := fun j hj => by
  have hj : j < t.cells.length := by simpa [Tb.piv] using hj
  show (((t.cells.map fun l => rplR l (frsR (t.cells.getD i default) k) k).set i (frsR (t.cells.getD i default) k)).getD j default).length = (t.out.set k _).length + 1
  rw [List.length_set, fV (by rw [List.length_map]; exact hj)]
  by_cases e : i = j
  ·rw [if_pos e, lZ]; exact h.rw i hi
  ·rw [if_neg e, List.getD_eq_getElem?_getD, List.getElem?_map, List.getElem?_eq_getElem hj]
   show (rplR _ _ k).length = _
   rw [mH]
   have := h.rw j hj
   rw [List.getD_eq_getElem?_getD, List.getElem?_eq_getElem hj] at this
   exact this
 ml := by show ((t.cells.map _).set i _).length ≤ _; rw [List.length_set, List.length_map]; exact h.ml
 ol := by show (t.out.set k _).length ≤ _; rw [List.length_set]; exact h.ol
 nl := h.nl
 el := h.el
 br := fun v hv => by
  rcases set_mem hv with hv | rfl
  ·exact h.br v hv
  ·exact h.or _ (bS hk)
 or := fun v hv => by
  rcases set_mem hv with hv | rfl
  ·exact h.or v hv
  ·exact h.br _ (bS (by rw [h.bl]; exact hi))
section
variable {P : Program} {T : TT} {E : TypeId → Bool} {N : Nat} {e : Env} {h : Hp} {oa : Array Oper} {i b : Nat} {Q : Env → Hp → Prop}
variable {x y : Operand} {bt xt : TypeId} {te : TI} {el el2 : TypeId} {k : Nat} {ty : TypeId} {pos : String} {af : Array Edge}
theorem WO.apX {α : Type} {f : α → List LV} {l : List Oper} {d q : Nat} {us : List α} {u : α} (hT : dsc T bt = some (.sl el)) (hT2 : dsc T xt = some (.sl el2)) (hE : T el = some te) (hx : evE e x = some (outV q te.size (us.map f))) (hy : evE e y = some (.sl k [f u])) (hf : ∀ a, (f a).length = te.size) (h0 : 0 < te.size)
  (hb : (2 * (us.length + 1) + 256) * te.bytes ≤ 2 ^ 48) (hb2 : us.length + 1 < 2 ^ 62) (hq : us ≠ [] → getH h q = some { cells := (us.map f).flatten, sz := te.size, elem := el, st := 0 }) (hd : Nat.blt d N = true)
  (kk : ∀ hX, getH hX (b + i) = some { cells := ((us ++ [u]).map f).flatten, sz := te.size, elem := el, st := 0 } → (∀ r o, r ≠ b + i → (us ≠ [] → r ≠ q) → getH h r = some o → getH hX r = some o) →
   WO P T E N oa l (i + 1) b ((d, .ref (b + i) te.size 0 (us ++ [u]).length) :: e) hX Q) :
  WO P T E N oa (⟨some d, .call { callee := .builtin .append, args := #[x, y], argTypes := #[bt, xt] }, ty, pos, af, none⟩ :: l) i b e h Q := by
 cases us with
 | nil =>
  refine bJ (oApN hT hT2 hE hx hy h0 (by intro row hrow; simp at hrow; subst hrow; exact hf u) (by simp) (by simpa using hb) (by simp)) hd ?_
  exact kk _ (by simp only [List.nil_append, List.map_cons, List.map_nil, appH]; exact g0) (fun r o h1 _ hr => g1 (fun e => h1 e.symm) hr)
 | cons u0 us =>
  rw [iU (by simp), List.length_map] at hx
  refine bJ (oApM hT hT2 hE hx hy hf h0 (hq (by simp)) hb hb2) hd ?_
  exact kk _ (by simp only [appH]; exact g0) (fun r o h1 h2 hr => by simp only [appH]; exact g1 (fun e => h1 e.symm) (g1 (fun e => h2 (by simp) e.symm) hr))
theorem WD.apX {α : Type} {f : α → List LV} {l : List Oper} {acc : List Rec} {d q : Nat} {us : List α} {u : α} (hT : dsc T bt = some (.sl el)) (hT2 : dsc T xt = some (.sl el2)) (hE : T el = some te) (hx : evE e x = some (outV q te.size (us.map f))) (hy : evE e y = some (.sl k [f u])) (hf : ∀ a, (f a).length = te.size) (h0 : 0 < te.size)
  (hb : (2 * (us.length + 1) + 256) * te.bytes ≤ 2 ^ 48) (hb2 : us.length + 1 < 2 ^ 62) (hq : us ≠ [] → getH h q = some { cells := (us.map f).flatten, sz := te.size, elem := el, st := 0 }) (hd : Nat.blt d N = true)
  (kk : ∀ hX, getH hX (b + i) = some { cells := ((us ++ [u]).map f).flatten, sz := te.size, elem := el, st := 0 } → (∀ r o, r ≠ b + i → (us ≠ [] → r ≠ q) → getH h r = some o → getH hX r = some o) →
   WD P T E N oa l (i + 1) b ((d, .ref (b + i) te.size 0 (us ++ [u]).length) :: e) hX (⟨i, [q, b + i], [q], false⟩ :: acc) Q) :
  WD P T E N oa (⟨some d, .call { callee := .builtin .append, args := #[x, y], argTypes := #[bt, xt] }, ty, pos, af, none⟩ :: l) i b e h acc Q := by
 cases us with
 | nil =>
  refine WD.S' [q, b + i] [q] (oApN hT hT2 hE hx hy h0 (by intro row hrow; simp at hrow; subst hrow; exact hf u) (by simp) (by simpa using hb) (by simp)) hd (by simp [keys]) (by simp) ?_
  exact kk _ (by simp only [List.nil_append, List.map_cons, List.map_nil, appH]; exact g0) (fun r o h1 _ hr => g1 (fun e => h1 e.symm) hr)
 | cons u0 us =>
  rw [iU (by simp), List.length_map] at hx
  refine WD.S' [q, b + i] [q] (oApM hT hT2 hE hx hy hf h0 (hq (by simp)) hb hb2) hd (by simp [keys]) (by simp) ?_
  exact kk _ (by simp only [appH]; exact g0) (fun r o h1 h2 hr => by simp only [appH]; exact g1 (fun e => h1 e.symm) (g1 (fun e => h2 (by simp) e.symm) hr))
theorem oApS1 {dst : Option Tmp} {g : Option (Nat × Bool)} {id : Nat} {α : Type} {f : α → List LV} {us : List α} {u : α} (hT : dsc T bt = some (.sl el)) (hT2 : dsc T xt = some (.sl el2)) (hE : T el = some te) (hx : evE e x = some (.sl 2 [f u])) (hy : evE e y = some (.sl k (us.map f))) (hf : ∀ a, (f a).length = te.size) (h0 : 0 < te.size) (hne : us ≠ [])
  (hb : (2 * (us.length + 1) + 256) * te.bytes ≤ 2 ^ 48) (hb2 : us.length + 1 < 2 ^ 62) :
  OP P T E ⟨dst, .call { callee := .builtin .append, args := #[x, y], argTypes := #[bt, xt] }, ty, pos, af, g⟩ id e h (.ref id te.size 0 (u :: us).length) [(id, { cells := ((u :: us).map f).flatten, sz := te.size, elem := el, st := 0 })] [] := by
 have hl : 0 < us.length := List.length_pos_iff.2 hne
 have := oApS (P := P) (E := E) (h := h) (dst := dst) (ty := ty) (pos := pos) (af := af) (g := g) (id := id) hT hT2 hE hx hy h0 (by intro row hrow; simp at hrow; subst hrow; exact hf u) (fE hf) (by simpa using hl) (by rw [List.length_map, List.length_singleton, Nat.add_comm 1]; exact hb) (by rw [List.length_map, List.length_singleton, Nat.add_comm 1]; exact hb2)
 rw [List.length_map, List.length_singleton, Nat.add_comm 1] at this
 simpa using this
end
theorem Lay.inj_of {L : Lay} {m : Nat} (h1 : L.q ≠ L.b ∧ L.q ≠ L.o ∧ L.q ≠ L.c ∧ L.q ≠ L.g) (h2 : L.b ≠ L.o ∧ L.b ≠ L.c ∧ L.b ≠ L.g) (h3 : L.o ≠ L.c ∧ L.o ≠ L.g ∧ L.c ≠ L.g)
  (ha : ∀ j, j < m → L.a j ≠ L.q ∧ L.a j ≠ L.b ∧ L.a j ≠ L.o ∧ L.a j ≠ L.c ∧ L.a j ≠ L.g) (hi : ∀ j k, j < m → k < m → L.a j = L.a k → j = k) : ∀ j k, j < 5 + m → k < 5 + m → L.id j = L.id k → j = k := by
 have key : ∀ j, j < 5 → L.id j = L.q ∧ j = 0 ∨ L.id j = L.b ∧ j = 1 ∨ L.id j = L.o ∧ j = 2 ∨ L.id j = L.c ∧ j = 3 ∨ L.id j = L.g ∧ j = 4 := fun j hj => by
  match j, hj with
  | 0, _ => exact .inl ⟨rfl, rfl⟩
  | 1, _ => exact .inr (.inl ⟨rfl, rfl⟩)
  | 2, _ => exact .inr (.inr (.inl ⟨rfl, rfl⟩))
  | 3, _ => exact .inr (.inr (.inr (.inl ⟨rfl, rfl⟩)))
  | 4, _ => exact .inr (.inr (.inr (.inr ⟨rfl, rfl⟩)))
 have big : ∀ j, 5 ≤ j → L.id j = L.a (j - 5) := fun j hj => by
  obtain ⟨k, rfl⟩ : ∃ k, j = k + 5 := ⟨j - 5, om⟩
  rfl
 intro j k hj hk e
 by_cases j5 : j < 5 <;> by_cases k5 : k < 5
 ·have := key j j5; have := key k k5; omega
 ·have := key j j5; have := ha (k - 5) om; rw [big k om] at e; omega
 ·have := key k k5; have := ha (j - 5) om; rw [big j om] at e; omega
 ·rw [big j om, big k om] at e; have := hi _ _ om om e; omega
def opX (n : Nat) (rws : List RW) (goal : List X) (add : X) : TX :=
 { n := n, eqs := rws.map (·.2.2), basic := tab rws.length fun i => ((n + i : Nat) : Int), out := tab n fun k => (k : Int), cells := rws.map fun r => r.2.1 :: r.1.2, goal := add :: goal }
theorem opX_tb (n : Nat) (rws : List RW) (goal : List X) (add : X) : (opX n rws goal add).tb = opn n (rws.map fun r => (r1 r.1.2, r.2.1.1, r.2.2)) (r1 goal) add.1 := by
 unfold opX TX.tb opn tab
 simp [List.map_map, Function.comp_def, r1]
theorem gmapN {α β : Type} [Inhabited α] (f : α → List β) {l : List α} {j : Nat} (hj : j < l.length) : (l.map f).getD j [] = f (l.getD j default) := by
 rw [List.getD_eq_getElem?_getD, List.getElem?_map, List.getD_eq_getElem?_getD, List.getElem?_eq_getElem hj]; rfl
theorem mF {α : Type} {f : α → List LV} {us : List α} {u : α} {q sz : Nat} : outV q sz ((us ++ [u]).map f) = .ref q sz 0 (us ++ [u]).length := by
 rw [iU (by simp), List.length_map]
theorem Lay.all_of {L : Lay} {m : Nat} {p : Nat → Prop} (h : p L.q ∧ p L.b ∧ p L.o ∧ p L.c ∧ p L.g) (ha : ∀ j, j < m → p (L.a j)) : ∀ j, j < 5 + m → p (L.id j)
 | 0, _ => h.1
 | 1, _ => h.2.1
 | 2, _ => h.2.2.1
 | 3, _ => h.2.2.2.1
 | 4, _ => h.2.2.2.2
 | j + 5, hj => ha j om
end Go.Ab
namespace Go.Ab
open Go.RowKit
theorem Tb.fr1_hit {t : Tb} {k j i : Nat} (h : t.sd (t.basic.getD i default) = true) (h2 : (t.cells.getD i default).getD (k + 1) default ≠ 0) : t.fr1 k (j + 1) i = t.piv i k := if_pos ⟨h, h2⟩
theorem Tb.fr1_miss {t : Tb} {k j i : Nat} (h : ¬ (t.sd (t.basic.getD i default) = true ∧ (t.cells.getD i default).getD (k + 1) default ≠ 0)) : t.fr1 k (j + 1) i = t.fr1 k j (i + 1) := if_neg h
theorem Tb.frs_skip {t : Tb} {k : Nat} (h : (t.n : Int) ≤ (t.frs k).out.getD k default) : t.frs (k + 1) = t.frs k := if_pos h
theorem Tb.frs_do {t : Tb} {k : Nat} (h : ¬ (t.n : Int) ≤ (t.frs k).out.getD k default) : t.frs (k + 1) = (t.frs k).fr1 k (t.frs k).basic.length 0 := if_neg h
theorem gmapDD {α β : Type} [Inhabited α] [Inhabited β] {f : α → β} (hf : f default = default) (l : List α) (j : Nat) : (l.map f).getD j default = f (l.getD j default) := by
 rw [List.getD_eq_getElem?_getD, List.getElem?_map, List.getD_eq_getElem?_getD]
 cases l[j]? with
 | none => exact hf.symm
 | some a => rfl
theorem sd_eq {t : TX} {rws : List RW} (he : t.eqs = rws.map (·.2.2)) (v : Int) : (decide ((t.n : Int) ≤ v) && !(decide ((t.n : Int) ≤ v) && decide (v < (t.n : Int) + (rws.length : Int)) && (rws.getD (v - t.n).toNat default).2.2)) = t.tb.sd v := by
 unfold Tb.sd Tb.eqn
 show _ = (decide ((t.n : Int) ≤ v) && !(decide ((t.n : Int) ≤ v) && decide (v < (t.n : Int) + (t.eqs.length : Int)) && t.eqs.getD (v - t.n).toNat default))
 have e := gmapDD (α := RW) (β := Bool) (f := fun r => r.2.2) rfl rws (v - t.n).toNat
 rw [he, List.length_map]
 exact congrArg (fun z => decide ((t.n : Int) ≤ v) && !(decide ((t.n : Int) ≤ v) && decide (v < (t.n : Int) + (rws.length : Int)) && z)) e.symm
theorem cellX (t : TX) (i c : Nat) : (t.tb.cells.getD i default).getD c default = ((t.cells.getD i []).getD c default).1 := by rw [pJ, iQ]
theorem goalX (t : TX) (c : Nat) : t.tb.goal.getD c default = (t.goal.getD c default).1 := iQ _ _
theorem Mvd.le0 {n0 n1 n' m : Nat} {L L' : Lay} {H h : Hp} (k : Mvd n1 n' m L L' H h) (hn : n0 ≤ n1) : Mvd n0 n' m L L' H h :=
 ⟨Nat.le_trans hn k.le, k.qe, fun j hj => (k.ids j hj).imp id fun e => Nat.le_trans hn e, fun r o hr => k.keep r o (Nat.lt_of_lt_of_le hr hn)⟩
theorem Mvd.nrm {n0 n n' m : Nat} {L L' : Lay} {H h : Hp} (k : Mvd n0 n m L L' H h) (hn : n ≤ n') : Mvd n0 n' m L L' H (nrm h) :=
 ⟨Nat.le_trans k.le hn, k.qe, k.ids, fun r o hr hq h => nrm_get.trans (k.keep r o hr hq h)⟩
def Tb.pntS (t : Tb) (i : Nat) : List Rat := (List.range i).foldl (fun o i => if 0 ≤ t.basic.getD i default ∧ t.basic.getD i default < t.n then o.set (t.basic.getD i default).toNat ((t.cells.getD i default).getD 0 default) else o) (List.replicate t.n 0)
def Tb.mltS (t : Tb) (l : List Rat) (i : Nat) : List Rat := (List.range i).foldl (fun o k => if (t.n : Int) ≤ t.out.getD k default ∧ t.out.getD k default < (t.n : Int) + t.eqs.length then o.set (t.out.getD k default - t.n).toNat (l.getD (k + 1) default) else o) (List.replicate t.eqs.length 0)
theorem Tb.pntS_yes {t : Tb} {i : Nat} (h : 0 ≤ t.basic.getD i default ∧ t.basic.getD i default < t.n) : t.pntS (i + 1) = (t.pntS i).set (t.basic.getD i default).toNat ((t.cells.getD i default).getD 0 default) := by
 unfold Tb.pntS; rw [List.range_succ, List.foldl_append, List.foldl_cons, List.foldl_nil, if_pos h]
theorem Tb.pntS_no {t : Tb} {i : Nat} (h : ¬ (0 ≤ t.basic.getD i default ∧ t.basic.getD i default < t.n)) : t.pntS (i + 1) = t.pntS i := by
 unfold Tb.pntS; rw [List.range_succ, List.foldl_append, List.foldl_cons, List.foldl_nil, if_neg h]
theorem Tb.mltS_yes {t : Tb} {l : List Rat} {k : Nat} (h : (t.n : Int) ≤ t.out.getD k default ∧ t.out.getD k default < (t.n : Int) + t.eqs.length) : t.mltS l (k + 1) = (t.mltS l k).set (t.out.getD k default - t.n).toNat (l.getD (k + 1) default) := by
 unfold Tb.mltS; rw [List.range_succ, List.foldl_append, List.foldl_cons, List.foldl_nil, if_pos h]
theorem Tb.mltS_no {t : Tb} {l : List Rat} {k : Nat} (h : ¬ ((t.n : Int) ≤ t.out.getD k default ∧ t.out.getD k default < (t.n : Int) + t.eqs.length)) : t.mltS l (k + 1) = t.mltS l k := by
 unfold Tb.mltS; rw [List.range_succ, List.foldl_append, List.foldl_cons, List.foldl_nil, if_neg h]
theorem r1_rep (n : Nat) : r1 (List.replicate n x0) = List.replicate n 0 := by unfold r1; rw [List.map_replicate]; rfl
theorem r1_set (l : List X) (i : Nat) (x : X) : r1 (l.set i x) = (r1 l).set i x.1 := List.map_set
open Go.RowKit
inductive SnapZ (h : Hp) (S : List Nat) : List LV → List LV → Prop
 | nil : SnapZ h S [] []
 | cons {l l' : LV} {ls ls' : List LV} : l'.one = l.one → (∀ m, FitsM h m → Snap m (· ∈ S) l l') → SnapZ h S ls ls' → SnapZ h S (l :: ls) (l' :: ls')
variable {P : Program} {T : TT} {E : TypeId → Bool} {h : Hp}
theorem SnapZ.data {S : List Nat} {l : LV} {ls ls' : List LV} (hl : Data l) (k : SnapZ h S ls ls') : SnapZ h S (l :: ls) (l :: ls') := .cons rfl (fun m _ => .data _ hl) k
theorem SnapZ.datas {S : List Nat} : ∀ {ls ms ms' : List LV}, (∀ l, l ∈ ls → Data l) → SnapZ h S ms ms' → SnapZ h S (ls ++ ms) (ls ++ ms')
 | [], _, _, _, k => k
 | l :: ls, _, _, hl, k => .data (hl l (by simp)) (SnapZ.datas (fun x hx => hl x (by simp [hx])) k)
theorem SnapZ.own {S : List Nat} {q sz len : Nat} {ob : Ob} {ls ls' : List LV} (ys : List (List LV)) (hlen : len = ys.length) (hq : getH h q = some ob) (h2 : ob.st ≠ 2) (hz : ob.sz = sz) (h0 : 0 < sz) (hS : q ∈ S) (hc : ob.cells = ys.flatten) (hl : ∀ row, row ∈ ys → row.length = sz) (hd : ∀ row, row ∈ ys → ∀ c, c ∈ row → Data c) (k : SnapZ h S ls ls') :
  SnapZ h S (.ref q sz 0 len :: ls) (.sl 1 ys :: ls') := .cons rfl (fun m hm => by
 subst hlen
 exact mW (S := (· ∈ S)) hq h2 hz h0 hS hc hl hd m hm) k
theorem SnapZ.len {S : List Nat} {cs ds : List LV} (k : SnapZ h S cs ds) : cs.length = ds.length := by
 induction k with
 | nil => rfl
 | cons _ _ _ ih => simp [ih]
theorem SnapZ.one {S : List Nat} {cs ds : List LV} (k : SnapZ h S cs ds) : ∀ (i : Nat) (c d : LV), cs[i]? = some c → ds[i]? = some d → d.one = c.one := by
 induction k with
 | nil => intro i c d hc; simp at hc
 | cons h1 _ _ ih =>
  intro i c d hc hd
  cases i with
  | zero => simp at hc hd; subst hc; subst hd; exact h1
  | succ i => simp at hc hd; exact ih i c d hc hd
theorem SnapZ.snap {S : List Nat} {cs ds : List LV} {m : Mem} (hm : FitsM h m) (k : SnapZ h S cs ds) : ∀ (i : Nat) (c d : LV), cs[i]? = some c → ds[i]? = some d → Snap m (· ∈ S) c d := by
 induction k with
 | nil => intro i c d hc; simp at hc
 | cons _ h2 _ ih =>
  intro i c d hc hd
  cases i with
  | zero => simp at hc hd; subst hc; subst hd; exact h2 m hm
  | succ i => simp at hc hd; exact ih i c d hc hd
theorem postAgg {rs : List ResultVar} {e : Env} {n : Nat} {x : Ex} {S : List Nat} {cs ds : List LV} (hx : x = .normal ∨ x = .ret) (hr : resE e T h rs = some [.agg cs]) (hs : SnapZ h S cs ds) (hl : Lent h S) : Post T rs (.agg ds) x e h n := by
 obtain ⟨d, h1, h2⟩ := hl.delta
 exact ⟨hx, _, hr, d, fun m hm => by rw [h1]; exact .agg _ _ hs.len hs.one (hs.snap hm), h2⟩
section
variable {N : Nat} {oa : Array Oper} {i b n : Nat} {e : Env} {acc : List Rec} {l : List Oper} {Q : Env → Hp → Nat → Prop}
theorem WX.weakM (a : Hp) (hs : subsM a h) (k : WX P T E N oa l i b e a n acc Q) : WX P T E N oa l i b e h n acc Q := fun hd s m h1 h2 => k hd s m h1 (fun t l hg => h2 t l (hs.get t l hg))
end
theorem lT {r : Rat} (h : 0 ≤ r) : 0 ≤ r.num.sign := by
 have h1 : 0 ≤ r.num := Rat.num_nonneg.2 h
 rcases Int.lt_or_eq_of_le h1 with h2 | h2
 ·rw [Int.sign_eq_one_of_pos h2]; decide
 ·rw [← h2]; decide
theorem opX_ok {n : Nat} {rws : List RW} {goal : List X} {add : X} (hn : n ≤ 100000) (hm : rws.length ≤ 100000) (hw : ∀ r, r ∈ rws → r.1.2.length = n) (hg : goal.length = n) : (opX n rws goal add).tb.Ok := by
 have hc : (opX n rws goal add).cells.length = rws.length := List.length_map ..
 have hol : (opX n rws goal add).tb.out.length = n := dO _ _
 constructor
 ·show (tab rws.length _).length = _; rw [dO, mJ, hc]
 ·rw [hol]; show (r1 (add :: goal)).length = _; rw [gA, List.length_cons, hg]
 ·intro i hi
  rw [mJ, hc] at hi
  rw [pJ, gA, hol]
  show ((rws.map _).getD i []).length = _
  rw [gmapN _ hi, List.length_cons, hw _ (bS hi)]
 ·rw [mJ, hc]; exact hm
 ·rw [hol]; exact hn
 ·exact hn
 ·show (rws.map _).length ≤ _; rw [List.length_map]; exact hm
 ·intro v hv
  obtain ⟨i, hi, rfl⟩ := mX.1 hv
  omega
 ·intro v hv
  obtain ⟨i, hi, rfl⟩ := mX.1 hv
  omega
end Go.Ab
namespace Go.Ab
open Go.RowKit
variable {P : Program} {T : TT} {E : TypeId → Bool} {N : Nat} {e : Env} {h : Hp}
theorem Fz.app {K : Env → Hp → Prop} {A B : List LV} {q sz r z el el2 : Nat} {L : Hp} {ys : List (List LV)} (a : Env) (hs : subs a e) (hrq : r ≠ q) (hq : getH h q = some { cells := ys.flatten, sz := sz, elem := el2, st := 0 }) (hr : getH h r = some { cells := A ++ (.ref q sz 0 ys.length :: B), sz := z, elem := el, st := 0 })
  (hL : ∀ t o, getH L t = some o → t ≠ q ∧ getH h t = some o) (h0 : 0 < sz) (hl : ∀ row, row ∈ ys → row.length = sz) (hd : ∀ row, row ∈ ys → ∀ c, c ∈ row → Data c) (k : K a ((r, { cells := A ++ (.sl 1 ys :: B), sz := z, elem := el, st := 0 }) :: L)) : Fz N e h K := by
 refine Fz.one ys a _ hq (by show ¬ (0 : Nat) = 2; decide) rfl h0 rfl hl hd (fun t l2 ht => ⟨l2, hs.get t l2 ht, .inl rfl⟩) (fun t o2 ht => ?_) k
 by_cases hrt : r = t
 ·subst hrt
  rw [g0] at ht
  cases ht
  refine ⟨hrq, _, hr, rfl, by simp, fun i c c2 h1 h2 => ?_⟩
  by_cases hi : i < A.length
  ·rw [List.getElem?_append_left hi] at h1 h2
   rw [h1] at h2; exact .inl (Option.some.inj h2).symm
  ·rw [List.getElem?_append_right om] at h1 h2
   by_cases hi2 : i - A.length = 0
   ·rw [hi2] at h1 h2
    simp at h1 h2
    exact .inr ⟨h1.symm, h2.symm⟩
   ·obtain ⟨j, hj⟩ : ∃ j, i - A.length = j + 1 := ⟨i - A.length - 1, om⟩
    rw [hj] at h1 h2
    simp at h1 h2
    rw [h1] at h2; exact .inl (Option.some.inj h2).symm
 ·have ht' : getH L t = some o2 := by rw [show getH ((r, _) :: L) t = getH L t from g1 hrt rfl] at ht; exact ht
  obtain ⟨h1, h2⟩ := hL t o2 ht'
  exact ⟨h1, o2, h2, rfl, rfl, fun i c c2 a1 a2 => by rw [a1] at a2; exact .inl (Option.some.inj a2).symm⟩
section
variable {oa : Array Oper} {i b : Nat} {Q : Env → Hp → Prop} {x y : Operand} {bt xt : TypeId} {te : TI} {el el2 : TypeId} {k : Nat} {ty : TypeId} {pos : String} {af : Array Edge}
theorem WO.apL {l : List Oper} {d q : Nat} {us : List (List LV)} {row : List LV} (hT : dsc T bt = some (.sl el)) (hT2 : dsc T xt = some (.sl el2)) (hE : T el = some te) (hx : evE e x = some (outV q te.size us)) (hy : evE e y = some (.sl k [row])) (hf : ∀ a, a ∈ us → a.length = te.size) (hrw : row.length = te.size) (h0 : 0 < te.size)
  (hb : (2 * (us.length + 1) + 256) * te.bytes ≤ 2 ^ 48) (hb2 : us.length + 1 < 2 ^ 62) (hq : us ≠ [] → getH h q = some { cells := us.flatten, sz := te.size, elem := el, st := 0 }) (hd : Nat.blt d N = true)
  (kk : ∀ hX, getH hX (b + i) = some { cells := us.flatten ++ row, sz := te.size, elem := el, st := 0 } → (∀ r o, r ≠ b + i → (us ≠ [] → r ≠ q) → getH h r = some o → getH hX r = some o) →
   WO P T E N oa l (i + 1) b ((d, .ref (b + i) te.size 0 (us.length + 1)) :: e) hX Q) :
  WO P T E N oa (⟨some d, .call { callee := .builtin .append, args := #[x, y], argTypes := #[bt, xt] }, ty, pos, af, none⟩ :: l) i b e h Q := by
 have hr1 : ∀ r, r ∈ [row] → r.length = te.size := by intro r hr; rw [List.mem_singleton] at hr; subst hr; exact hrw
 cases us with
 | nil =>
  refine bJ (oApN hT hT2 hE hx hy h0 hr1 (by simp) (by simpa using hb) (by simp)) hd ?_
  exact kk _ (by simp only [List.flatten_nil, List.nil_append, List.flatten_cons, List.append_nil, appH]; exact g0) (fun r o h1 _ hr => g1 (fun e => h1 e.symm) hr)
 | cons u0 us =>
  rw [iU (by simp)] at hx
  refine bJ (oApR hT hT2 hE hx hy h0 hr1 (by simp) (hq (by simp)) rfl rfl rfl rfl (lF hf) (by simpa using hb) (by simpa using hb2)) hd ?_
  refine kk _ ?_ ?_
  ·simp only [List.flatten_cons (l := row), List.flatten_nil, List.append_nil, appH]
   exact g0
  ·intro r o h1 h2 hr
   simp only [appH]
   exact g1 (fun e => h1 e.symm) (g1 (fun e => h2 (by simp) e.symm) hr)
end
def rowA (p : PB) (i : Nat) : RW := ((1, ((p.1.2.getD i default).2.map nx).map xneg), nx (p.2.1.2.getD i default), false)
def rowB (n k : Nat) : RW := ((1, (List.replicate n x0).set k (xint 1)), x0, false)
def rowsX (p : PB) : List RW := tab p.1.2.length (rowA p) ++ tab p.2.2.2.length (rowB p.2.2.2.length)
theorem drwc (r : RW) : ∀ c, c ∈ rwc r → Data c := by
 intro c hc
 simp only [rwc, List.mem_cons, List.not_mem_nil, or_false] at hc
 rcases hc with rfl | rfl | rfl | rfl | rfl | rfl
 ·exact .sl _ _ (aY nG)
 all_goals first | exact .v _ | exact nG r.2.1 _ (by simp [xc])
end Go.Ab
namespace Go.Ab
open Go.RowKit
def outs (l : List X) : Option (List NM) := l.mapM fun x => outN x.1
def tel (e : Int) (l : List X) : Int := if e = 0 then (if (outs l).isSome = true then 0 else 3) else e
def outsL (l : List X) : List NM := (outs l).getD []
def outsV (l : List X) : LV := .sl (kd (outsL l).length) ((outsL l).map mc)
theorem tel3 {a b c : List X} : tel (tel (tel 0 a) b) c = if (outs a).isSome = true ∧ (outs b).isSome = true ∧ (outs c).isSome = true then 0 else 3 := by
 unfold tel
 cases (outs a).isSome <;> cases (outs b).isSome <;> cases (outs c).isSome <;> decide
theorem outs1 {x : X} : (outsL [x]).length = 1 ↔ (outs [x]).isSome = true := by
 unfold outsL outs
 rw [List.mapM_cons]
 cases outN x.1 with
 | none => exact ⟨fun h => (by cases h), fun h => (by cases h)⟩
 | some a => exact ⟨fun _ => rfl, fun _ => rfl⟩
theorem douts (l : List X) : Data (outsV l) := .sl _ _ (aY eS)
end Go.Ab
namespace Go.Ab
open Go.RowKit
section
variable {P : Program} {T : TT} {E : TypeId → Bool} {e : Env} {h : Hp}
variable {dst : Option Tmp} {ty : TypeId} {pos : String} {af : Array Edge} {g : Option (Nat × Bool)} {id : Nat} {bt el : TypeId} {te ti : TI}
theorem oBdA {parts : Array (Nat × Operand)} {ps : List (Nat × LV)} {k : Nat} {cs : List LV} (hE : T bt = some ti) (hT : ti.desc = .arr k el) (hE2 : T el = some te) (hp : parts.toList.mapM (fun p => (evE e p.2).map fun l => (p.1, l)) = some ps)
  (hf : fillLV (fun i => some (i * te.size, te.size)) (ti.zero.map lz) ps = some cs) : OP P T E ⟨dst, .build bt parts, ty, pos, af, g⟩ id e h (.agg cs) [] [] := .mk fun s m hs _ => ⟨by
   have : parts.toList.map (fun p => (p.1, evS s p.2)) = ps := by
    clear hf
    generalize parts.toList = qs at hp
    induction qs generalizing ps with
    | nil => simp at hp; subst hp; rfl
    | cons q qs ih =>
     simp only [List.mapM_cons] at hp
     cases hq : evE e q.2 with
     | none => rw [hq] at hp; simp at hp
     | some l =>
      cases hr : qs.mapM (fun p => (evE e p.2).map fun l => (p.1, l)) with
      | none => rw [hq, hr] at hp; simp at hp
      | some rs => rw [hq, hr] at hp; simp at hp; subst hp; simp [hs _ _ hq, ih hr]
   simp [aop, hE, hT, hE2, this, hf], rfl⟩
end
theorem putCells_all {cs ds : List LV} (h : ds.length = cs.length) : putCells cs 0 ds = some ds := by
 unfold putCells
 rw [if_pos om, List.take_zero, List.nil_append, Nat.zero_add, List.drop_eq_nil_of_le om, List.append_nil]
def lpT (p : PB) : Tb := opn p.2.2.2.length (((List.range p.1.2.length).map fun i => ((p.1.2.getD i default).2.map fun a => -(nx a).1, (nx (p.2.1.2.getD i default)).1, false)) ++ (List.range p.2.2.2.length).map fun k => ((List.replicate p.2.2.2.length (0 : Rat)).set k 1, (0 : Rat), false)) (p.2.2.2.map fun a => (nx a).1 * -1) (0 * -1)
def glX (p : PB) : RW := ((1, (p.2.2.2.map nx).map fun x => xmul x (xint (-1))), xmul x0 (xint (-1)), false)
theorem oY (p : PB) : opn p.2.2.2.length ((rowsX p).map fun r => (r1 r.1.2, r.2.1.1, r.2.2)) (r1 (glX p).1.2) (glX p).2.1.1 = lpT p := by
 unfold lpT
 have h1 : ((rowsX p).map fun r => (r1 r.1.2, r.2.1.1, r.2.2)) = ((List.range p.1.2.length).map fun i => ((p.1.2.getD i default).2.map fun a => -(nx a).1, (nx (p.2.1.2.getD i default)).1, false)) ++ (List.range p.2.2.2.length).map fun k => ((List.replicate p.2.2.2.length (0 : Rat)).set k 1, (0 : Rat), false) := by
  unfold rowsX tab
  rw [List.map_append, List.map_map, List.map_map]
  refine congr (congrArg _ (List.map_congr_left fun i _ => ?_)) (List.map_congr_left fun k _ => ?_)
  ·show (r1 (((p.1.2.getD i default).2.map nx).map xneg), _, _) = _
   unfold r1
   rw [List.map_map, List.map_map]
   rfl
  ·show (r1 ((List.replicate p.2.2.2.length x0).set k (xint 1)), _, _) = _
   rw [r1_set, r1_rep]
   rfl
 have h2 : r1 (glX p).1.2 = p.2.2.2.map fun a => (nx a).1 * -1 := by
  unfold glX r1
  rw [List.map_map, List.map_map]
  rfl
 rw [h1, h2]
 rfl
theorem rowsX_len (p : PB) : (rowsX p).length = p.1.2.length + p.2.2.2.length := by unfold rowsX; rw [List.length_append, dO, dO]
theorem rowsX_w {p : PB} (hw : ∀ r, r ∈ p.1.2 → r.2.length = p.2.2.2.length) : ∀ r, r ∈ rowsX p → r.1.2.length = p.2.2.2.length := by
 intro r hr
 rcases List.mem_append.1 hr with h | h
 ·obtain ⟨i, hi, rfl⟩ := mX.1 h
  show (((p.1.2.getD i default).2.map nx).map xneg).length = _
  rw [List.length_map, List.length_map]; exact hw _ (bS hi)
 ·obtain ⟨i, hi, rfl⟩ := mX.1 h
  show ((List.replicate _ x0).set i (xint 1)).length = _
  rw [List.length_set, List.length_replicate]
theorem rowsX_no (p : PB) : ∀ r, r ∈ rowsX p → r.2.2 = false := by
 intro r hr
 rcases List.mem_append.1 hr with h | h
 ·obtain ⟨i, hi, rfl⟩ := mX.1 h; rfl
 ·obtain ⟨i, hi, rfl⟩ := mX.1 h; rfl
def mxZ : List LV := [.v (.int .i64 0), .v (.int .i64 0), .v (.int .i64 0), .sl 0 [], .sl 0 [], .sl 0 []]
def mxR (T : Tb) (m : Nat) : LV :=
 match T.pnt.mapM outN, ((T.mlt T.goal).take m).mapM outN, outN (-(T.goal.getD 0 default)) with
 | some x, some y, some v => .tup [.agg (.v (.int .i64 2) :: (mc v ++ [.sl (kd x.length) (x.map mc), .sl (kd y.length) (y.map mc), .sl 0 []])), .v (.int .i64 0)]
 | _, _, _ => .tup [.agg mxZ, .v (.int .i64 3)]
theorem outs_r1 (l : List X) : outs l = (r1 l).mapM outN := (mapM_map' outN (fun x : X => x.1) l).symm
theorem mxR_of {T : Tb} {m : Nat} {v : X} {l1 l2 : List X} (hv : v.1 = T.goal.getD 0 default) (h1 : r1 l1 = T.pnt) (h2 : r1 l2 = T.mlt T.goal) :
  mxR T m = if (outs l1).isSome = true ∧ (outs (l2.take m)).isSome = true ∧ (outs [xneg v]).isSome = true then .tup [.agg (.v (.int .i64 2) :: (mc ((outsL [xneg v]).getD 0 default) ++ [outsV l1, outsV (l2.take m), .sl 0 []])), .v (.int .i64 0)] else .tup [.agg mxZ, .v (.int .i64 3)] := by
 have e1 : outs l1 = T.pnt.mapM outN := by rw [outs_r1, h1]
 have e2 : outs (l2.take m) = ((T.mlt T.goal).take m).mapM outN := by
  rw [outs_r1, ← h2]; unfold r1; rw [List.map_take]
 have e3 : outs [xneg v] = [-(T.goal.getD 0 default)].mapM outN := by
  rw [outs_r1, ← hv]; rfl
 unfold outsV outsL mxR
 rw [e1, e2, e3]
 cases T.pnt.mapM outN with
 | none => rfl
 | some x =>
  cases ((T.mlt T.goal).take m).mapM outN with
  | none => rfl
  | some y =>
   rw [List.mapM_cons]
   cases outN (-(T.goal.getD 0 default)) with
   | none => rfl
   | some w => rfl
theorem data_mxR (T : Tb) (m : Nat) : Data (mxR T m) := by
 unfold mxR
 split
 ·refine .tup _ (fun c hc => ?_)
  simp only [List.mem_cons, List.not_mem_nil, or_false] at hc
  rcases hc with rfl | rfl
  ·refine .agg _ (fun c hc => ?_)
   simp only [List.mem_cons, List.mem_append, List.not_mem_nil, or_false] at hc
   rcases hc with rfl | hc | rfl | rfl | rfl
   ·exact .v _
   ·exact eS _ c hc
   ·exact .sl _ _ (aY eS)
   ·exact .sl _ _ (aY eS)
   ·exact .sl _ _ (by simp)
  ·exact .v _
 ·refine .tup _ (fun c hc => ?_)
  simp only [List.mem_cons, List.not_mem_nil, or_false] at hc
  rcases hc with rfl | rfl
  ·refine .agg _ (fun c hc => ?_)
   simp only [mxZ, List.mem_cons, List.not_mem_nil, or_false] at hc
   rcases hc with rfl | rfl | rfl | rfl | rfl | rfl
   all_goals first | exact .v _ | exact .sl _ _ (by simp)
  ·exact .v _
theorem fold_len {α β : Type} {f : List α → β → List α} (h : ∀ o b, (f o b).length = o.length) : ∀ (bs : List β) (o : List α), (bs.foldl f o).length = o.length
 | [], o => rfl
 | b :: bs, o => by rw [List.foldl_cons, fold_len h bs, h]
theorem pnt_len (t : Tb) : t.pnt.length = t.n := by
 unfold Tb.pnt
 rw [fold_len (fun o i => by split <;> simp), List.length_replicate]
theorem mlt_len (t : Tb) (l : List Rat) : (t.mlt l).length = t.eqs.length := by
 unfold Tb.mlt
 rw [fold_len (fun o i => by split <;> simp), List.length_replicate]
theorem fr1_n (t : Tb) (k : Nat) : ∀ j i, (t.fr1 k j i).n = t.n ∧ (t.fr1 k j i).eqs = t.eqs
 | 0, i => ⟨rfl, rfl⟩
 | j + 1, i => by
  unfold Tb.fr1
  split
  ·exact ⟨rfl, rfl⟩
  ·exact fr1_n t k j (i + 1)
theorem frs_n (t : Tb) : ∀ k, (t.frs k).n = t.n ∧ (t.frs k).eqs = t.eqs
 | 0 => ⟨rfl, rfl⟩
 | k + 1 => by
  unfold Tb.frs
  split
  ·exact frs_n t k
  ·have h1 := fr1_n (t.frs k) k (t.frs k).basic.length 0
   have h2 := frs_n t k
   exact ⟨h1.1.trans h2.1, h1.2.trans h2.2⟩
end Go.Ab
namespace Go.Ab
def bd2B (q : Rat) : Bool := decide (q.num.natAbs < 18446744073709551616) && decide (q.den < 18446744073709551616)
theorem bd2B_ok {q : Rat} (h : bd2B q = true) : Bd 2 q := by
 unfold bd2B at h
 rw [Bool.and_eq_true, decide_eq_true_eq, decide_eq_true_eq] at h
 exact ⟨gD (by simpa using h.1), gD (by simpa using h.2)⟩
def Tb.bdsB (t : Tb) : Bool := t.cells.all (fun l => l.all bd2B) && t.goal.all bd2B
theorem Tb.bdsB_ok {t : Tb} (h : t.bdsB = true) : t.Bds 2 := by
 unfold Tb.bdsB at h
 rw [Bool.and_eq_true, List.all_eq_true, List.all_eq_true] at h
 exact ⟨fun i hi x hx => bd2B_ok (List.all_eq_true.1 (h.1 _ (bS hi)) x hx), fun x hx => bd2B_ok (h.2 x hx)⟩
def exP : PB := ((2, [(1, [wI 1, wI 1]), (1, [wI 0, wI 1])]), (1, [wI 4, wI 3]), (1, [wI 1, wI 2]))
theorem exP_T : ((lpT exP).frs 2).pnt = [1, 3] := by decide +kernel
theorem exP_b : ∀ k, k ≤ 2 → ((lpT exP).frs k).bdsB = true := by decide +kernel
theorem exP_F : ∀ i, i < 2 + 2 → ((lpT exP).frs 2).sd (((lpT exP).frs 2).basic.getD i default) = true → 0 ≤ (((lpT exP).frs 2).cells.getD i default).getD 0 default := by decide +kernel
theorem exP_Z : ∀ k, k < 2 → ((lpT exP).frs 2).out.getD k default < ((2 : Nat) : Int) → ((lpT exP).frs 2).goal.getD (k + 1) default = 0 := by decide +kernel
theorem exP_D : ∀ c, c < 2 → ((lpT exP).frs 2).sd (((lpT exP).frs 2).out.getD c default) = true → 0 ≤ ((lpT exP).frs 2).goal.getD (c + 1) default := by decide +kernel
theorem exP_M : (((lpT exP).frs 2).mlt ((lpT exP).frs 2).goal).take 2 = [1, 1] ∧ ((lpT exP).frs 2).goal.getD 0 default = -7 := by decide +kernel
def exC : List LV := .v (.int .i64 2) :: (mc (wI 7) ++ [.sl 1 ([wI 1, wI 3].map mc), .sl 1 ([wI 1, wI 1].map mc), .sl 0 []])
theorem exP_R : mxR ((lpT exP).frs exP.2.2.2.length) exP.1.2.length = .tup [.agg exC, .v (.int .i64 0)] := by
 show mxR ((lpT exP).frs 2) 2 = _
 have e1 : ([1, 3] : List Rat).mapM outN = some [wI 1, wI 3] := by decide +kernel
 have e2 : ([1, 1] : List Rat).mapM outN = some [wI 1, wI 1] := by decide +kernel
 have e3 : outN (-(-7 : Rat)) = some (wI 7) := by decide +kernel
 unfold mxR
 rw [exP_T, exP_M.1, exP_M.2, e1, e2, e3]
 rfl
theorem exP_V : vP exP = true := by decide +kernel
theorem i64v (ns : List Int) (h : ∀ n, n ∈ ns → I64 n) : IV (ns.map wI) := by
 intro y hy
 obtain ⟨n, hn, rfl⟩ := List.mem_map.1 hy
 exact ⟨h n hn, by show I64 1; unfold I64; omega⟩
theorem exP_I : IP exP := ⟨by
  intro r hr
  simp only [exP, List.mem_cons, List.not_mem_nil, or_false] at hr
  rcases hr with rfl | rfl
  ·exact i64v [1, 1] (by intro n hn; simp at hn; unfold I64; omega)
  ·exact i64v [0, 1] (by intro n hn; simp at hn; unfold I64; omega), i64v [4, 3] (by intro n hn; simp at hn; unfold I64; omega), i64v [1, 2] (by intro n hn; simp at hn; unfold I64; omega), by decide, by decide, by decide, by decide⟩
end Go.Ab
set_option maxRecDepth 100000
namespace Go.Proofs.YtohfklpfeilcpaaGreat
open Go.Ab Go.RowKit
def ti1 : TI := ⟨1, 8, [.nilFunc], .func⟩
def ti2 : TI := ⟨1, 8, [.int .i64 0], (.int .i64)⟩
def ti3 : TI := ⟨1, 8, [.int .i64 0], (.int .i64)⟩
def ti4 : TI := ⟨1, 1, [.bool false], .bool⟩
def ti5 : TI := ⟨1, 1, [.int .u8 0], (.int .u8)⟩
def ti6 : TI := ⟨1, 1, [.int .u8 0], (.int .u8)⟩
def ti7 : TI := ⟨4, 24, [.int .i64 0, .int .i64 0, .bool false, .int .u8 0], (.st [(0, 2), (1, 3), (2, 4), (3, 6)])⟩
def ti8 : TI := ⟨4, 24, [.int .i64 0, .int .i64 0, .bool false, .int .u8 0], (.st [(0, 2), (1, 3), (2, 4), (3, 6)])⟩
def ti9 : TI := ⟨1, 16, [.string ⟨#[]⟩], .str⟩
def ti10 : TI := ⟨1, 16, [.string ⟨#[]⟩], .str⟩
def ti11 : TI := ⟨1, 16, [.string ⟨#[]⟩], .str⟩
def ti12 : TI := ⟨1, 8, [.int .u64 0], (.int .u64)⟩
def ti13 : TI := ⟨2, 24, [.string ⟨#[]⟩, .int .u64 0], (.st [(0, 9), (1, 12)])⟩
def ti14 : TI := ⟨2, 24, [.string ⟨#[]⟩, .int .u64 0], (.st [(0, 9), (1, 12)])⟩
def ti15 : TI := ⟨1, 8, [.pointer none], .ptr⟩
def ti16 : TI := ⟨1, 8, [.pointer none], .ptr⟩
def ti17 : TI := ⟨1, 8, [.pointer none], .ptr⟩
def ti21 : TI := ⟨1, 4, [.int .i32 0], (.int .i32)⟩
def ti22 : TI := ⟨1, 24, [.slice none 0 0], (.sl 23)⟩
def ti23 : TI := ⟨1, 24, [.slice none 0 0], (.sl 40)⟩
def ti24 : TI := ⟨3, 72, [.slice none 0 0, .slice none 0 0, .slice none 0 0], (.st [(0, 22), (1, 23), (2, 23)])⟩
def ti25 : TI := ⟨3, 72, [.slice none 0 0, .slice none 0 0, .slice none 0 0], (.st [(0, 22), (1, 23), (2, 23)])⟩
def ti26 : TI := ⟨1, 8, [.nilFunc], .func⟩
def ti27 : TI := ⟨1, 8, [.nilFunc], .func⟩
def ti28 : TI := ⟨1, 8, [.nilFunc], .func⟩
def ti29 : TI := ⟨3, 72, [.slice none 0 0, .slice none 0 0, .slice none 0 0], (.st [(0, 22), (1, 23), (2, 23)])⟩
def ti30 : TI := ⟨1, 8, [.nilFunc], .func⟩
def ti31 : TI := ⟨1, 24, [.slice none 0 0], (.sl 3)⟩
def ti32 : TI := ⟨3, 40, [.int .i64 0, .bool false, .slice none 0 0], (.st [(0, 3), (1, 4), (2, 31)])⟩
def ti33 : TI := ⟨3, 40, [.int .i64 0, .bool false, .slice none 0 0], (.st [(0, 3), (1, 4), (2, 31)])⟩
def ti34 : TI := ⟨6, 80, [.int .i64 0, .bool false, .slice none 0 0, .int .i64 0, .bool false, .slice none 0 0], (.st [(0, 33), (3, 33)])⟩
def ti35 : TI := ⟨6, 80, [.int .i64 0, .bool false, .slice none 0 0, .int .i64 0, .bool false, .slice none 0 0], (.st [(0, 33), (3, 33)])⟩
def ti36 : TI := ⟨1, 8, [.nilFunc], .func⟩
def ti38 : TI := ⟨1, 8, [.nilFunc], .func⟩
def ti39 : TI := ⟨2, 16, [.int .i64 0, .int .i64 0], (.st [(0, 3), (1, 3)])⟩
def ti40 : TI := ⟨2, 16, [.int .i64 0, .int .i64 0], (.st [(0, 3), (1, 3)])⟩
def ti41 : TI := ⟨6, 96, [.int .i64 0, .int .i64 0, .int .i64 0, .slice none 0 0, .slice none 0 0, .slice none 0 0], (.st [(0, 3), (1, 40), (3, 23), (4, 23), (5, 23)])⟩
def ti42 : TI := ⟨6, 96, [.int .i64 0, .int .i64 0, .int .i64 0, .slice none 0 0, .slice none 0 0, .slice none 0 0], (.st [(0, 3), (1, 40), (3, 23), (4, 23), (5, 23)])⟩
def ti43 : TI := ⟨1, 8, [.int .i64 0], (.int .i64)⟩
def ti45 : TI := ⟨1, 8, [.nilFunc], .func⟩
def ti46 : TI := ⟨1, 8, [.nilFunc], .func⟩
def ti48 : TI := ⟨1, 8, [.nilFunc], .func⟩
def ti49 : TI := ⟨1, 8, [.nilFunc], .func⟩
def ti50 : TI := ⟨6, 96, [.int .i64 0, .int .i64 0, .int .i64 0, .slice none 0 0, .slice none 0 0, .slice none 0 0], (.st [(0, 3), (1, 40), (3, 23), (4, 23), (5, 23)])⟩
def ti51 : TI := ⟨1, 8, [.nilFunc], .func⟩
def ti52 : TI := ⟨1, 8, [.nilFunc], .func⟩
def ti53 : TI := ⟨1, 8, [.nilFunc], .func⟩
def ti54 : TI := ⟨1, 8, [.nilFunc], .func⟩
def ti55 : TI := ⟨1, 8, [.nilFunc], .func⟩
def ti56 : TI := ⟨1, 8, [.nilFunc], .func⟩
def ti57 : TI := ⟨1, 24, [.slice none 0 0], (.sl 42)⟩
def ti58 : TI := ⟨1, 8, [.nilFunc], .func⟩
def ti59 : TI := ⟨1, 24, [.slice none 0 0], (.sl 35)⟩
def ti60 : TI := ⟨1, 8, [.nilFunc], .func⟩
def ti61 : TI := ⟨1, 8, [.nilFunc], .func⟩
def ti62 : TI := ⟨1, 8, [.nilFunc], .func⟩
def ti63 : TI := ⟨1, 8, [.nilFunc], .func⟩
def ti64 : TI := ⟨1, 8, [.nilFunc], .func⟩
def ti65 : TI := ⟨1, 8, [.nilFunc], .func⟩
def ti66 : TI := ⟨1, 8, [.nilFunc], .func⟩
def ti67 : TI := ⟨1, 8, [.nilFunc], .func⟩
def ti68 : TI := ⟨1, 8, [.nilFunc], .func⟩
def ti69 : TI := ⟨1, 8, [.nilFunc], .func⟩
def ti70 : TI := ⟨1, 8, [.nilFunc], .func⟩
def ti71 : TI := ⟨1, 8, [.nilFunc], .func⟩
def ti72 : TI := ⟨1, 8, [.nilFunc], .func⟩
def ti73 : TI := ⟨1, 8, [.nilFunc], .func⟩
def ti74 : TI := ⟨1, 8, [.nilFunc], .func⟩
def ti75 : TI := ⟨1, 24, [.slice none 0 0], (.sl 80)⟩
def ti76 : TI := ⟨7, 104, [.slice none 0 0, .int .i64 0, .bool false, .slice none 0 0, .int .i64 0, .bool false, .slice none 0 0], (.st [(0, 59), (1, 35)])⟩
def ti77 : TI := ⟨7, 104, [.slice none 0 0, .int .i64 0, .bool false, .slice none 0 0, .int .i64 0, .bool false, .slice none 0 0], (.st [(0, 59), (1, 35)])⟩
def ti78 : TI := ⟨1, 8, [.nilFunc], .func⟩
def ti79 : TI := ⟨8, 112, [.slice none 0 0, .int .i64 0, .bool false, .slice none 0 0, .int .i64 0, .bool false, .slice none 0 0, .bool false], (.st [(0, 77), (7, 4)])⟩
def ti80 : TI := ⟨8, 112, [.slice none 0 0, .int .i64 0, .bool false, .slice none 0 0, .int .i64 0, .bool false, .slice none 0 0, .bool false], (.st [(0, 77), (7, 4)])⟩
def ti82 : TI := ⟨1, 8, [.nilFunc], .func⟩
def ti83 : TI := ⟨1, 24, [.slice none 0 0], (.sl 88)⟩
def ti84 : TI := ⟨1, 24, [.slice none 0 0], (.sl 162)⟩
def ti85 : TI := ⟨2, 32, [.int .i64 0, .slice none 0 0], (.st [(0, 3), (1, 84)])⟩
def ti86 : TI := ⟨2, 32, [.int .i64 0, .slice none 0 0], (.st [(0, 3), (1, 84)])⟩
def ti87 : TI := ⟨4, 64, [.int .i64 0, .slice none 0 0, .int .i64 0, .slice none 0 0], (.st [(0, 86), (2, 86)])⟩
def ti88 : TI := ⟨4, 64, [.int .i64 0, .slice none 0 0, .int .i64 0, .slice none 0 0], (.st [(0, 86), (2, 86)])⟩
def ti89 : TI := ⟨6, 96, [.slice none 0 0, .int .i64 0, .slice none 0 0, .int .i64 0, .slice none 0 0, .bool false], (.st [(0, 83), (1, 88), (5, 4)])⟩
def ti90 : TI := ⟨6, 96, [.slice none 0 0, .int .i64 0, .slice none 0 0, .int .i64 0, .slice none 0 0, .bool false], (.st [(0, 83), (1, 88), (5, 4)])⟩
def ti91 : TI := ⟨1, 8, [.nilFunc], .func⟩
def ti92 : TI := ⟨1, 8, [.nilFunc], .func⟩
def ti93 : TI := ⟨1, 8, [.nilFunc], .func⟩
def ti94 : TI := ⟨8, 144, [.int .i64 0, .int .i64 0, .slice none 0 0, .int .i64 0, .slice none 0 0, .slice none 0 0, .slice none 0 0, .slice none 0 0], (.st [(0, 3), (1, 88), (5, 83), (6, 83), (7, 83)])⟩
def ti95 : TI := ⟨8, 144, [.int .i64 0, .int .i64 0, .slice none 0 0, .int .i64 0, .slice none 0 0, .slice none 0 0, .slice none 0 0, .slice none 0 0], (.st [(0, 3), (1, 88), (5, 83), (6, 83), (7, 83)])⟩
def ti96 : TI := ⟨1, 8, [.nilFunc], .func⟩
def ti97 : TI := ⟨1, 24, [.slice none 0 0], (.sl 90)⟩
def ti98 : TI := ⟨1, 8, [.nilFunc], .func⟩
def ti99 : TI := ⟨1, 8, [.int .i64 0], (.st [(0, 43)])⟩
def ti100 : TI := ⟨1, 8, [.int .i64 0], (.st [(0, 43)])⟩
def ti101 : TI := ⟨1, 8, [.nilFunc], .func⟩
def ti102 : TI := ⟨1, 8, [.nilFunc], .func⟩
def ti103 : TI := ⟨1, 8, [.nilFunc], .func⟩
def ti104 : TI := ⟨3, 24, [.nilFunc, .nilFunc, .nilFunc], (.arr 3 102)⟩
def ti105 : TI := ⟨1, 8, [.nilFunc], .func⟩
def ti106 : TI := ⟨1, 8, [.nilFunc], .func⟩
def ti107 : TI := ⟨1, 8, [.nilFunc], .func⟩
def ti108 : TI := ⟨1, 8, [.nilFunc], .func⟩
def ti109 : TI := ⟨1, 8, [.nilFunc], .func⟩
def ti110 : TI := ⟨1, 8, [.nilFunc], .func⟩
def ti111 : TI := ⟨1, 8, [.nilFunc], .func⟩
def ti112 : TI := ⟨1, 8, [.nilFunc], .func⟩
def ti113 : TI := ⟨1, 8, [.nilFunc], .func⟩
def ti114 : TI := ⟨1, 8, [.nilFunc], .func⟩
def ti115 : TI := ⟨1, 8, [.nilFunc], .func⟩
def ti116 : TI := ⟨1, 8, [.nilFunc], .func⟩
def ti117 : TI := ⟨1, 8, [.nilFunc], .func⟩
def ti118 : TI := ⟨1, 8, [.nilFunc], .func⟩
def ti119 : TI := ⟨1, 8, [.nilFunc], .func⟩
def ti120 : TI := ⟨1, 8, [.pointer none], .ptr⟩
def ti121 : TI := ⟨8, 112, [.int .i64 0, .int .i64 0, .bool false, .slice none 0 0, .int .i64 0, .bool false, .slice none 0 0, .slice none 0 0], (.st [(0, 3), (1, 35), (7, 59)])⟩
def ti122 : TI := ⟨8, 112, [.int .i64 0, .int .i64 0, .bool false, .slice none 0 0, .int .i64 0, .bool false, .slice none 0 0, .slice none 0 0], (.st [(0, 3), (1, 35), (7, 59)])⟩
def ti123 : TI := ⟨1, 8, [.nilFunc], .func⟩
def ti124 : TI := ⟨1, 24, [.slice none 0 0], (.sl 122)⟩
def ti125 : TI := ⟨11, 168, [.int .i64 0, .slice none 0 0, .slice none 0 0, .int .i64 0, .int .i64 0, .bool false, .slice none 0 0, .int .i64 0, .bool false, .slice none 0 0, .slice none 0 0], (.st [(0, 3), (1, 31), (2, 124), (3, 122)])⟩
def ti126 : TI := ⟨11, 168, [.int .i64 0, .slice none 0 0, .slice none 0 0, .int .i64 0, .int .i64 0, .bool false, .slice none 0 0, .int .i64 0, .bool false, .slice none 0 0, .slice none 0 0], (.st [(0, 3), (1, 31), (2, 124), (3, 122)])⟩
def ti128 : TI := ⟨1, 8, [.nilFunc], .func⟩
def ti129 : TI := ⟨1, 8, [.nilFunc], .func⟩
def ti130 : TI := ⟨1, 8, [.nilFunc], .func⟩
def ti131 : TI := ⟨1, 8, [.nilFunc], .func⟩
def ti132 : TI := ⟨1, 8, [.pointer none], .ptr⟩
def ti133 : TI := ⟨1, 8, [.nilFunc], .func⟩
def ti135 : TI := ⟨1, 8, [.nilFunc], .func⟩
def ti136 : TI := ⟨1, 24, [.slice none 0 0], (.sl 83)⟩
def ti137 : TI := ⟨6, 128, [.int .i64 0, .slice none 0 0, .slice none 0 0, .slice none 0 0, .slice none 0 0, .slice none 0 0], (.st [(0, 3), (1, 97), (2, 31), (3, 31), (4, 136), (5, 83)])⟩
def ti138 : TI := ⟨6, 128, [.int .i64 0, .slice none 0 0, .slice none 0 0, .slice none 0 0, .slice none 0 0, .slice none 0 0], (.st [(0, 3), (1, 97), (2, 31), (3, 31), (4, 136), (5, 83)])⟩
def ti139 : TI := ⟨1, 8, [.nilFunc], .func⟩
def ti140 : TI := ⟨1, 8, [.nilFunc], .func⟩
def ti141 : TI := ⟨1, 8, [.nilFunc], .func⟩
def ti142 : TI := ⟨1, 8, [.pointer none], .ptr⟩
def ti144 : TI := ⟨1, 8, [.nilFunc], .func⟩
def ti145 : TI := ⟨1, 8, [.nilFunc], .func⟩
def ti146 : TI := ⟨1, 8, [.nilFunc], .func⟩
def ti147 : TI := ⟨1, 8, [.nilFunc], .func⟩
def ti149 : TI := ⟨1, 8, [.nilFunc], .func⟩
def ti150 : TI := ⟨1, 8, [.nilFunc], .func⟩
def ti151 : TI := ⟨1, 8, [.nilFunc], .func⟩
def ti152 : TI := ⟨1, 8, [.nilFunc], .func⟩
def ti153 : TI := ⟨1, 8, [.nilFunc], .func⟩
def ti154 : TI := ⟨1, 8, [.nilFunc], .func⟩
def ti155 : TI := ⟨1, 8, [.nilFunc], .func⟩
def ti156 : TI := ⟨1, 8, [.nilFunc], .func⟩
def ti157 : TI := ⟨1, 8, [.nilFunc], .func⟩
def ti158 : TI := ⟨1, 8, [.nilFunc], .func⟩
def ti159 : TI := ⟨1, 8, [.nilFunc], .func⟩
def ti160 : TI := ⟨1, 8, [.nilFunc], .func⟩
def ti161 : TI := ⟨1, 8, [.int .u64 0], (.int .u64)⟩
def ti162 : TI := ⟨1, 4, [.int .u32 0], (.int .u32)⟩
def ti163 : TI := ⟨1, 8, [.int .u64 0], (.int .u64)⟩
def ti164 : TI := ⟨1, 8, [.nilFunc], .func⟩
def ti165 : TI := ⟨1, 8, [.nilFunc], .func⟩
def ti166 : TI := ⟨1, 8, [.nilFunc], .func⟩
def ti167 : TI := ⟨1, 8, [.nilFunc], .func⟩
def ti168 : TI := ⟨1, 8, [.nilFunc], .func⟩
def ti170 : TI := ⟨1, 8, [.nilFunc], .func⟩
def ti171 : TI := ⟨1, 8, [.nilFunc], .func⟩
def ti173 : TI := ⟨1, 8, [.nilFunc], .func⟩
def ti175 : TI := ⟨1, 8, [.nilFunc], .func⟩
def ti176 : TI := ⟨1, 8, [.nilFunc], .func⟩
def ti177 : TI := ⟨1, 8, [.nilFunc], .func⟩
def ti178 : TI := ⟨1, 8, [.nilFunc], .func⟩
def ti179 : TI := ⟨1, 8, [.nilFunc], .func⟩
def ti180 : TI := ⟨1, 8, [.nilFunc], .func⟩
def ti181 : TI := ⟨1, 8, [.nilFunc], .func⟩
def ti182 : TI := ⟨1, 8, [.nilFunc], .func⟩
def ti184 : TI := ⟨1, 8, [.nilFunc], .func⟩
def ti186 : TI := ⟨1, 8, [.nilFunc], .func⟩
def ti187 : TI := ⟨1, 8, [.nilFunc], .func⟩
def ti188 : TI := ⟨1, 8, [.nilFunc], .func⟩
def ti189 : TI := ⟨1, 8, [.nilFunc], .func⟩
def ti190 : TI := ⟨1, 8, [.nilFunc], .func⟩
def ti192 : TI := ⟨1, 8, [.nilFunc], .func⟩
def ti194 : TI := ⟨1, 8, [.nilFunc], .func⟩
def ti196 : TI := ⟨1, 8, [.nilFunc], .func⟩
def ti197 : TI := ⟨1, 8, [.nilFunc], .func⟩
def ti199 : TI := ⟨1, 8, [.nilFunc], .func⟩
def ti200 : TI := ⟨1, 8, [.nilFunc], .func⟩
def ti201 : TI := ⟨1, 8, [.nilFunc], .func⟩
def ti203 : TI := ⟨1, 8, [.nilFunc], .func⟩
def ti204 : TI := ⟨1, 8, [.nilFunc], .func⟩
def ti207 : TI := ⟨1, 8, [.pointer none], .ptr⟩
def ti208 : TI := ⟨1, 8, [.nilFunc], .func⟩
def ti214 : TI := ⟨1, 1, [.int .u8 0], (.int .u8)⟩
def ti215 : TI := ⟨1, 1, [.int .u8 0], (.int .u8)⟩
def ti216 : TI := ⟨1, 8, [.nilFunc], .func⟩
def ti217 : TI := ⟨1, 8, [.pointer none], .ptr⟩
def ti218 : TI := ⟨1, 4, [.int .i32 0], (.int .i32)⟩
def ti219 : TI := ⟨1, 4, [.int .i32 0], (.int .i32)⟩
def ti222 : TI := ⟨1, 16, [.string ⟨#[]⟩], (.st [(0, 9)])⟩
def ti223 : TI := ⟨1, 16, [.string ⟨#[]⟩], (.st [(0, 9)])⟩
theorem tok1 : TypeOk Tryz.prog 1 ti1 := aD (z := (.nilFunc)) (by kernel_rfl) rfl Tryz.underlying1 ⟨_, _, _, rfl⟩ rfl (by decide)
theorem tok2 : TypeOk Tryz.prog 2 ti2 := aD (z := (.int .i64 0)) (by kernel_rfl) rfl Tryz.underlying2 rfl rfl (by decide)
theorem tok3 : TypeOk Tryz.prog 3 ti3 := aD (z := (.int .i64 0)) (by kernel_rfl) rfl Tryz.underlying3 rfl rfl (by decide)
theorem tok4 : TypeOk Tryz.prog 4 ti4 := aD (z := (.bool false)) (by kernel_rfl) rfl Tryz.underlying4 rfl rfl (by decide)
theorem tok5 : TypeOk Tryz.prog 5 ti5 := aD (z := (.int .u8 0)) (by kernel_rfl) rfl Tryz.underlying5 rfl rfl (by decide)
theorem tok6 : TypeOk Tryz.prog 6 ti6 := aD (z := (.int .u8 0)) (by kernel_rfl) rfl Tryz.underlying6 rfl rfl (by decide)
theorem tok7 : TypeOk Tryz.prog 7 ti7 := aD (z := (.agg #[.int .i64 0, .int .i64 0, .bool false, .int .u8 0])) (by kernel_rfl) rfl Tryz.underlying7 ⟨_, rfl, rfl⟩ rfl (by decide)
theorem tok8 : TypeOk Tryz.prog 8 ti8 := aD (z := (.agg #[.int .i64 0, .int .i64 0, .bool false, .int .u8 0])) (by kernel_rfl) rfl Tryz.underlying8 ⟨_, rfl, rfl⟩ rfl (by decide)
theorem tok9 : TypeOk Tryz.prog 9 ti9 := aD (z := (.string ⟨#[]⟩)) (by kernel_rfl) rfl Tryz.underlying9 rfl rfl (by decide)
theorem tok10 : TypeOk Tryz.prog 10 ti10 := aD (z := (.string ⟨#[]⟩)) (by kernel_rfl) rfl Tryz.underlying10 rfl rfl (by decide)
theorem tok11 : TypeOk Tryz.prog 11 ti11 := aD (z := (.string ⟨#[]⟩)) (by kernel_rfl) rfl Tryz.underlying11 rfl rfl (by decide)
theorem tok12 : TypeOk Tryz.prog 12 ti12 := aD (z := (.int .u64 0)) (by kernel_rfl) rfl Tryz.underlying12 rfl rfl (by decide)
theorem tok13 : TypeOk Tryz.prog 13 ti13 := aD (z := (.agg #[.string ⟨#[]⟩, .int .u64 0])) (by kernel_rfl) rfl Tryz.underlying13 ⟨_, rfl, rfl⟩ rfl (by decide)
theorem tok14 : TypeOk Tryz.prog 14 ti14 := aD (z := (.agg #[.string ⟨#[]⟩, .int .u64 0])) (by kernel_rfl) rfl Tryz.underlying14 ⟨_, rfl, rfl⟩ rfl (by decide)
theorem tok15 : TypeOk Tryz.prog 15 ti15 := aD (z := (.pointer none)) (by kernel_rfl) rfl Tryz.underlying15 ⟨_, rfl⟩ rfl (by decide)
theorem tok16 : TypeOk Tryz.prog 16 ti16 := aD (z := (.pointer none)) (by kernel_rfl) rfl Tryz.underlying16 ⟨_, rfl⟩ rfl (by decide)
theorem tok17 : TypeOk Tryz.prog 17 ti17 := aD (z := (.pointer none)) (by kernel_rfl) rfl Tryz.underlying17 ⟨_, rfl⟩ rfl (by decide)
theorem tok21 : TypeOk Tryz.prog 21 ti21 := aD (z := (.int .i32 0)) (by kernel_rfl) rfl Tryz.underlying21 rfl rfl (by decide)
theorem tok22 : TypeOk Tryz.prog 22 ti22 := aD (z := (.slice none 0 0)) (by kernel_rfl) rfl Tryz.underlying22 rfl rfl (by decide)
theorem tok23 : TypeOk Tryz.prog 23 ti23 := aD (z := (.slice none 0 0)) (by kernel_rfl) rfl Tryz.underlying23 rfl rfl (by decide)
theorem tok24 : TypeOk Tryz.prog 24 ti24 := aD (z := (.agg #[.slice none 0 0, .slice none 0 0, .slice none 0 0])) (by kernel_rfl) rfl Tryz.underlying24 ⟨_, rfl, rfl⟩ rfl (by decide)
theorem tok25 : TypeOk Tryz.prog 25 ti25 := aD (z := (.agg #[.slice none 0 0, .slice none 0 0, .slice none 0 0])) (by kernel_rfl) rfl Tryz.underlying25 ⟨_, rfl, rfl⟩ rfl (by decide)
theorem tok26 : TypeOk Tryz.prog 26 ti26 := aD (z := (.nilFunc)) (by kernel_rfl) rfl Tryz.underlying26 ⟨_, _, _, rfl⟩ rfl (by decide)
theorem tok27 : TypeOk Tryz.prog 27 ti27 := aD (z := (.nilFunc)) (by kernel_rfl) rfl Tryz.underlying27 ⟨_, _, _, rfl⟩ rfl (by decide)
theorem tok28 : TypeOk Tryz.prog 28 ti28 := aD (z := (.nilFunc)) (by kernel_rfl) rfl Tryz.underlying28 ⟨_, _, _, rfl⟩ rfl (by decide)
theorem tok29 : TypeOk Tryz.prog 29 ti29 := aD (z := (.agg #[.slice none 0 0, .slice none 0 0, .slice none 0 0])) (by kernel_rfl) rfl Tryz.underlying29 ⟨_, rfl, rfl⟩ rfl (by decide)
theorem tok30 : TypeOk Tryz.prog 30 ti30 := aD (z := (.nilFunc)) (by kernel_rfl) rfl Tryz.underlying30 ⟨_, _, _, rfl⟩ rfl (by decide)
theorem tok31 : TypeOk Tryz.prog 31 ti31 := aD (z := (.slice none 0 0)) (by kernel_rfl) rfl Tryz.underlying31 rfl rfl (by decide)
theorem tok32 : TypeOk Tryz.prog 32 ti32 := aD (z := (.agg #[.int .i64 0, .bool false, .slice none 0 0])) (by kernel_rfl) rfl Tryz.underlying32 ⟨_, rfl, rfl⟩ rfl (by decide)
theorem tok33 : TypeOk Tryz.prog 33 ti33 := aD (z := (.agg #[.int .i64 0, .bool false, .slice none 0 0])) (by kernel_rfl) rfl Tryz.underlying33 ⟨_, rfl, rfl⟩ rfl (by decide)
theorem tok34 : TypeOk Tryz.prog 34 ti34 := aD (z := (.agg #[.int .i64 0, .bool false, .slice none 0 0, .int .i64 0, .bool false, .slice none 0 0])) (by kernel_rfl) rfl Tryz.underlying34 ⟨_, rfl, rfl⟩ rfl (by decide)
theorem tok35 : TypeOk Tryz.prog 35 ti35 := aD (z := (.agg #[.int .i64 0, .bool false, .slice none 0 0, .int .i64 0, .bool false, .slice none 0 0])) (by kernel_rfl) rfl Tryz.underlying35 ⟨_, rfl, rfl⟩ rfl (by decide)
theorem tok36 : TypeOk Tryz.prog 36 ti36 := aD (z := (.nilFunc)) (by kernel_rfl) rfl Tryz.underlying36 ⟨_, _, _, rfl⟩ rfl (by decide)
theorem tok38 : TypeOk Tryz.prog 38 ti38 := aD (z := (.nilFunc)) (by kernel_rfl) rfl Tryz.underlying38 ⟨_, _, _, rfl⟩ rfl (by decide)
theorem tok39 : TypeOk Tryz.prog 39 ti39 := aD (z := (.agg #[.int .i64 0, .int .i64 0])) (by kernel_rfl) rfl Tryz.underlying39 ⟨_, rfl, rfl⟩ rfl (by decide)
theorem tok40 : TypeOk Tryz.prog 40 ti40 := aD (z := (.agg #[.int .i64 0, .int .i64 0])) (by kernel_rfl) rfl Tryz.underlying40 ⟨_, rfl, rfl⟩ rfl (by decide)
theorem tok41 : TypeOk Tryz.prog 41 ti41 := aD (z := (.agg #[.int .i64 0, .int .i64 0, .int .i64 0, .slice none 0 0, .slice none 0 0, .slice none 0 0])) (by kernel_rfl) rfl Tryz.underlying41 ⟨_, rfl, rfl⟩ rfl (by decide)
theorem tok42 : TypeOk Tryz.prog 42 ti42 := aD (z := (.agg #[.int .i64 0, .int .i64 0, .int .i64 0, .slice none 0 0, .slice none 0 0, .slice none 0 0])) (by kernel_rfl) rfl Tryz.underlying42 ⟨_, rfl, rfl⟩ rfl (by decide)
theorem tok43 : TypeOk Tryz.prog 43 ti43 := aD (z := (.int .i64 0)) (by kernel_rfl) rfl Tryz.underlying43 rfl rfl (by decide)
theorem tok45 : TypeOk Tryz.prog 45 ti45 := aD (z := (.nilFunc)) (by kernel_rfl) rfl Tryz.underlying45 ⟨_, _, _, rfl⟩ rfl (by decide)
theorem tok46 : TypeOk Tryz.prog 46 ti46 := aD (z := (.nilFunc)) (by kernel_rfl) rfl Tryz.underlying46 ⟨_, _, _, rfl⟩ rfl (by decide)
theorem tok48 : TypeOk Tryz.prog 48 ti48 := aD (z := (.nilFunc)) (by kernel_rfl) rfl Tryz.underlying48 ⟨_, _, _, rfl⟩ rfl (by decide)
theorem tok49 : TypeOk Tryz.prog 49 ti49 := aD (z := (.nilFunc)) (by kernel_rfl) rfl Tryz.underlying49 ⟨_, _, _, rfl⟩ rfl (by decide)
theorem tok50 : TypeOk Tryz.prog 50 ti50 := aD (z := (.agg #[.int .i64 0, .int .i64 0, .int .i64 0, .slice none 0 0, .slice none 0 0, .slice none 0 0])) (by kernel_rfl) rfl Tryz.underlying50 ⟨_, rfl, rfl⟩ rfl (by decide)
theorem tok51 : TypeOk Tryz.prog 51 ti51 := aD (z := (.nilFunc)) (by kernel_rfl) rfl Tryz.underlying51 ⟨_, _, _, rfl⟩ rfl (by decide)
theorem tok52 : TypeOk Tryz.prog 52 ti52 := aD (z := (.nilFunc)) (by kernel_rfl) rfl Tryz.underlying52 ⟨_, _, _, rfl⟩ rfl (by decide)
theorem tok53 : TypeOk Tryz.prog 53 ti53 := aD (z := (.nilFunc)) (by kernel_rfl) rfl Tryz.underlying53 ⟨_, _, _, rfl⟩ rfl (by decide)
theorem tok54 : TypeOk Tryz.prog 54 ti54 := aD (z := (.nilFunc)) (by kernel_rfl) rfl Tryz.underlying54 ⟨_, _, _, rfl⟩ rfl (by decide)
theorem tok55 : TypeOk Tryz.prog 55 ti55 := aD (z := (.nilFunc)) (by kernel_rfl) rfl Tryz.underlying55 ⟨_, _, _, rfl⟩ rfl (by decide)
theorem tok56 : TypeOk Tryz.prog 56 ti56 := aD (z := (.nilFunc)) (by kernel_rfl) rfl Tryz.underlying56 ⟨_, _, _, rfl⟩ rfl (by decide)
theorem tok57 : TypeOk Tryz.prog 57 ti57 := aD (z := (.slice none 0 0)) (by kernel_rfl) rfl Tryz.underlying57 rfl rfl (by decide)
theorem tok58 : TypeOk Tryz.prog 58 ti58 := aD (z := (.nilFunc)) (by kernel_rfl) rfl Tryz.underlying58 ⟨_, _, _, rfl⟩ rfl (by decide)
theorem tok59 : TypeOk Tryz.prog 59 ti59 := aD (z := (.slice none 0 0)) (by kernel_rfl) rfl Tryz.underlying59 rfl rfl (by decide)
theorem tok60 : TypeOk Tryz.prog 60 ti60 := aD (z := (.nilFunc)) (by kernel_rfl) rfl Tryz.underlying60 ⟨_, _, _, rfl⟩ rfl (by decide)
theorem tok61 : TypeOk Tryz.prog 61 ti61 := aD (z := (.nilFunc)) (by kernel_rfl) rfl Tryz.underlying61 ⟨_, _, _, rfl⟩ rfl (by decide)
theorem tok62 : TypeOk Tryz.prog 62 ti62 := aD (z := (.nilFunc)) (by kernel_rfl) rfl Tryz.underlying62 ⟨_, _, _, rfl⟩ rfl (by decide)
theorem tok63 : TypeOk Tryz.prog 63 ti63 := aD (z := (.nilFunc)) (by kernel_rfl) rfl Tryz.underlying63 ⟨_, _, _, rfl⟩ rfl (by decide)
theorem tok64 : TypeOk Tryz.prog 64 ti64 := aD (z := (.nilFunc)) (by kernel_rfl) rfl Tryz.underlying64 ⟨_, _, _, rfl⟩ rfl (by decide)
theorem tok65 : TypeOk Tryz.prog 65 ti65 := aD (z := (.nilFunc)) (by kernel_rfl) rfl Tryz.underlying65 ⟨_, _, _, rfl⟩ rfl (by decide)
theorem tok66 : TypeOk Tryz.prog 66 ti66 := aD (z := (.nilFunc)) (by kernel_rfl) rfl Tryz.underlying66 ⟨_, _, _, rfl⟩ rfl (by decide)
theorem tok67 : TypeOk Tryz.prog 67 ti67 := aD (z := (.nilFunc)) (by kernel_rfl) rfl Tryz.underlying67 ⟨_, _, _, rfl⟩ rfl (by decide)
theorem tok68 : TypeOk Tryz.prog 68 ti68 := aD (z := (.nilFunc)) (by kernel_rfl) rfl Tryz.underlying68 ⟨_, _, _, rfl⟩ rfl (by decide)
theorem tok69 : TypeOk Tryz.prog 69 ti69 := aD (z := (.nilFunc)) (by kernel_rfl) rfl Tryz.underlying69 ⟨_, _, _, rfl⟩ rfl (by decide)
theorem tok70 : TypeOk Tryz.prog 70 ti70 := aD (z := (.nilFunc)) (by kernel_rfl) rfl Tryz.underlying70 ⟨_, _, _, rfl⟩ rfl (by decide)
theorem tok71 : TypeOk Tryz.prog 71 ti71 := aD (z := (.nilFunc)) (by kernel_rfl) rfl Tryz.underlying71 ⟨_, _, _, rfl⟩ rfl (by decide)
theorem tok72 : TypeOk Tryz.prog 72 ti72 := aD (z := (.nilFunc)) (by kernel_rfl) rfl Tryz.underlying72 ⟨_, _, _, rfl⟩ rfl (by decide)
theorem tok73 : TypeOk Tryz.prog 73 ti73 := aD (z := (.nilFunc)) (by kernel_rfl) rfl Tryz.underlying73 ⟨_, _, _, rfl⟩ rfl (by decide)
theorem tok74 : TypeOk Tryz.prog 74 ti74 := aD (z := (.nilFunc)) (by kernel_rfl) rfl Tryz.underlying74 ⟨_, _, _, rfl⟩ rfl (by decide)
theorem tok75 : TypeOk Tryz.prog 75 ti75 := aD (z := (.slice none 0 0)) (by kernel_rfl) rfl Tryz.underlying75 rfl rfl (by decide)
theorem tok76 : TypeOk Tryz.prog 76 ti76 := aD (z := (.agg #[.slice none 0 0, .int .i64 0, .bool false, .slice none 0 0, .int .i64 0, .bool false, .slice none 0 0])) (by kernel_rfl) rfl Tryz.underlying76 ⟨_, rfl, rfl⟩ rfl (by decide)
theorem tok77 : TypeOk Tryz.prog 77 ti77 := aD (z := (.agg #[.slice none 0 0, .int .i64 0, .bool false, .slice none 0 0, .int .i64 0, .bool false, .slice none 0 0])) (by kernel_rfl) rfl Tryz.underlying77 ⟨_, rfl, rfl⟩ rfl (by decide)
theorem tok78 : TypeOk Tryz.prog 78 ti78 := aD (z := (.nilFunc)) (by kernel_rfl) rfl Tryz.underlying78 ⟨_, _, _, rfl⟩ rfl (by decide)
theorem tok79 : TypeOk Tryz.prog 79 ti79 := aD (z := (.agg #[.slice none 0 0, .int .i64 0, .bool false, .slice none 0 0, .int .i64 0, .bool false, .slice none 0 0, .bool false])) (by kernel_rfl) rfl Tryz.underlying79 ⟨_, rfl, rfl⟩ rfl (by decide)
theorem tok80 : TypeOk Tryz.prog 80 ti80 := aD (z := (.agg #[.slice none 0 0, .int .i64 0, .bool false, .slice none 0 0, .int .i64 0, .bool false, .slice none 0 0, .bool false])) (by kernel_rfl) rfl Tryz.underlying80 ⟨_, rfl, rfl⟩ rfl (by decide)
theorem tok82 : TypeOk Tryz.prog 82 ti82 := aD (z := (.nilFunc)) (by kernel_rfl) rfl Tryz.underlying82 ⟨_, _, _, rfl⟩ rfl (by decide)
theorem tok83 : TypeOk Tryz.prog 83 ti83 := aD (z := (.slice none 0 0)) (by kernel_rfl) rfl Tryz.underlying83 rfl rfl (by decide)
theorem tok84 : TypeOk Tryz.prog 84 ti84 := aD (z := (.slice none 0 0)) (by kernel_rfl) rfl Tryz.underlying84 rfl rfl (by decide)
theorem tok85 : TypeOk Tryz.prog 85 ti85 := aD (z := (.agg #[.int .i64 0, .slice none 0 0])) (by kernel_rfl) rfl Tryz.underlying85 ⟨_, rfl, rfl⟩ rfl (by decide)
theorem tok86 : TypeOk Tryz.prog 86 ti86 := aD (z := (.agg #[.int .i64 0, .slice none 0 0])) (by kernel_rfl) rfl Tryz.underlying86 ⟨_, rfl, rfl⟩ rfl (by decide)
theorem tok87 : TypeOk Tryz.prog 87 ti87 := aD (z := (.agg #[.int .i64 0, .slice none 0 0, .int .i64 0, .slice none 0 0])) (by kernel_rfl) rfl Tryz.underlying87 ⟨_, rfl, rfl⟩ rfl (by decide)
theorem tok88 : TypeOk Tryz.prog 88 ti88 := aD (z := (.agg #[.int .i64 0, .slice none 0 0, .int .i64 0, .slice none 0 0])) (by kernel_rfl) rfl Tryz.underlying88 ⟨_, rfl, rfl⟩ rfl (by decide)
theorem tok89 : TypeOk Tryz.prog 89 ti89 := aD (z := (.agg #[.slice none 0 0, .int .i64 0, .slice none 0 0, .int .i64 0, .slice none 0 0, .bool false])) (by kernel_rfl) rfl Tryz.underlying89 ⟨_, rfl, rfl⟩ rfl (by decide)
theorem tok90 : TypeOk Tryz.prog 90 ti90 := aD (z := (.agg #[.slice none 0 0, .int .i64 0, .slice none 0 0, .int .i64 0, .slice none 0 0, .bool false])) (by kernel_rfl) rfl Tryz.underlying90 ⟨_, rfl, rfl⟩ rfl (by decide)
theorem tok91 : TypeOk Tryz.prog 91 ti91 := aD (z := (.nilFunc)) (by kernel_rfl) rfl Tryz.underlying91 ⟨_, _, _, rfl⟩ rfl (by decide)
theorem tok92 : TypeOk Tryz.prog 92 ti92 := aD (z := (.nilFunc)) (by kernel_rfl) rfl Tryz.underlying92 ⟨_, _, _, rfl⟩ rfl (by decide)
theorem tok93 : TypeOk Tryz.prog 93 ti93 := aD (z := (.nilFunc)) (by kernel_rfl) rfl Tryz.underlying93 ⟨_, _, _, rfl⟩ rfl (by decide)
theorem tok94 : TypeOk Tryz.prog 94 ti94 := aD (z := (.agg #[.int .i64 0, .int .i64 0, .slice none 0 0, .int .i64 0, .slice none 0 0, .slice none 0 0, .slice none 0 0, .slice none 0 0])) (by kernel_rfl) rfl Tryz.underlying94 ⟨_, rfl, rfl⟩ rfl (by decide)
theorem tok95 : TypeOk Tryz.prog 95 ti95 := aD (z := (.agg #[.int .i64 0, .int .i64 0, .slice none 0 0, .int .i64 0, .slice none 0 0, .slice none 0 0, .slice none 0 0, .slice none 0 0])) (by kernel_rfl) rfl Tryz.underlying95 ⟨_, rfl, rfl⟩ rfl (by decide)
theorem tok96 : TypeOk Tryz.prog 96 ti96 := aD (z := (.nilFunc)) (by kernel_rfl) rfl Tryz.underlying96 ⟨_, _, _, rfl⟩ rfl (by decide)
theorem tok97 : TypeOk Tryz.prog 97 ti97 := aD (z := (.slice none 0 0)) (by kernel_rfl) rfl Tryz.underlying97 rfl rfl (by decide)
theorem tok98 : TypeOk Tryz.prog 98 ti98 := aD (z := (.nilFunc)) (by kernel_rfl) rfl Tryz.underlying98 ⟨_, _, _, rfl⟩ rfl (by decide)
theorem tok99 : TypeOk Tryz.prog 99 ti99 := aD (z := (.agg #[.int .i64 0])) (by kernel_rfl) rfl Tryz.underlying99 ⟨_, rfl, rfl⟩ rfl (by decide)
theorem tok100 : TypeOk Tryz.prog 100 ti100 := aD (z := (.agg #[.int .i64 0])) (by kernel_rfl) rfl Tryz.underlying100 ⟨_, rfl, rfl⟩ rfl (by decide)
theorem tok101 : TypeOk Tryz.prog 101 ti101 := aD (z := (.nilFunc)) (by kernel_rfl) rfl Tryz.underlying101 ⟨_, _, _, rfl⟩ rfl (by decide)
theorem tok102 : TypeOk Tryz.prog 102 ti102 := aD (z := (.nilFunc)) (by kernel_rfl) rfl Tryz.underlying102 ⟨_, _, _, rfl⟩ rfl (by decide)
theorem tok103 : TypeOk Tryz.prog 103 ti103 := aD (z := (.nilFunc)) (by kernel_rfl) rfl Tryz.underlying103 ⟨_, _, _, rfl⟩ rfl (by decide)
theorem tok104 : TypeOk Tryz.prog 104 ti104 := aD (z := (.agg #[.nilFunc, .nilFunc, .nilFunc])) (by kernel_rfl) rfl Tryz.underlying104 rfl rfl (by decide)
theorem tok105 : TypeOk Tryz.prog 105 ti105 := aD (z := (.nilFunc)) (by kernel_rfl) rfl Tryz.underlying105 ⟨_, _, _, rfl⟩ rfl (by decide)
theorem tok106 : TypeOk Tryz.prog 106 ti106 := aD (z := (.nilFunc)) (by kernel_rfl) rfl Tryz.underlying106 ⟨_, _, _, rfl⟩ rfl (by decide)
theorem tok107 : TypeOk Tryz.prog 107 ti107 := aD (z := (.nilFunc)) (by kernel_rfl) rfl Tryz.underlying107 ⟨_, _, _, rfl⟩ rfl (by decide)
theorem tok108 : TypeOk Tryz.prog 108 ti108 := aD (z := (.nilFunc)) (by kernel_rfl) rfl Tryz.underlying108 ⟨_, _, _, rfl⟩ rfl (by decide)
theorem tok109 : TypeOk Tryz.prog 109 ti109 := aD (z := (.nilFunc)) (by kernel_rfl) rfl Tryz.underlying109 ⟨_, _, _, rfl⟩ rfl (by decide)
theorem tok110 : TypeOk Tryz.prog 110 ti110 := aD (z := (.nilFunc)) (by kernel_rfl) rfl Tryz.underlying110 ⟨_, _, _, rfl⟩ rfl (by decide)
theorem tok111 : TypeOk Tryz.prog 111 ti111 := aD (z := (.nilFunc)) (by kernel_rfl) rfl Tryz.underlying111 ⟨_, _, _, rfl⟩ rfl (by decide)
theorem tok112 : TypeOk Tryz.prog 112 ti112 := aD (z := (.nilFunc)) (by kernel_rfl) rfl Tryz.underlying112 ⟨_, _, _, rfl⟩ rfl (by decide)
theorem tok113 : TypeOk Tryz.prog 113 ti113 := aD (z := (.nilFunc)) (by kernel_rfl) rfl Tryz.underlying113 ⟨_, _, _, rfl⟩ rfl (by decide)
theorem tok114 : TypeOk Tryz.prog 114 ti114 := aD (z := (.nilFunc)) (by kernel_rfl) rfl Tryz.underlying114 ⟨_, _, _, rfl⟩ rfl (by decide)
theorem tok115 : TypeOk Tryz.prog 115 ti115 := aD (z := (.nilFunc)) (by kernel_rfl) rfl Tryz.underlying115 ⟨_, _, _, rfl⟩ rfl (by decide)
theorem tok116 : TypeOk Tryz.prog 116 ti116 := aD (z := (.nilFunc)) (by kernel_rfl) rfl Tryz.underlying116 ⟨_, _, _, rfl⟩ rfl (by decide)
theorem tok117 : TypeOk Tryz.prog 117 ti117 := aD (z := (.nilFunc)) (by kernel_rfl) rfl Tryz.underlying117 ⟨_, _, _, rfl⟩ rfl (by decide)
theorem tok118 : TypeOk Tryz.prog 118 ti118 := aD (z := (.nilFunc)) (by kernel_rfl) rfl Tryz.underlying118 ⟨_, _, _, rfl⟩ rfl (by decide)
theorem tok119 : TypeOk Tryz.prog 119 ti119 := aD (z := (.nilFunc)) (by kernel_rfl) rfl Tryz.underlying119 ⟨_, _, _, rfl⟩ rfl (by decide)
theorem tok120 : TypeOk Tryz.prog 120 ti120 := aD (z := (.pointer none)) (by kernel_rfl) rfl Tryz.underlying120 ⟨_, rfl⟩ rfl (by decide)
theorem tok121 : TypeOk Tryz.prog 121 ti121 := aD (z := (.agg #[.int .i64 0, .int .i64 0, .bool false, .slice none 0 0, .int .i64 0, .bool false, .slice none 0 0, .slice none 0 0])) (by kernel_rfl) rfl Tryz.underlying121 ⟨_, rfl, rfl⟩ rfl (by decide)
theorem tok122 : TypeOk Tryz.prog 122 ti122 := aD (z := (.agg #[.int .i64 0, .int .i64 0, .bool false, .slice none 0 0, .int .i64 0, .bool false, .slice none 0 0, .slice none 0 0])) (by kernel_rfl) rfl Tryz.underlying122 ⟨_, rfl, rfl⟩ rfl (by decide)
theorem tok123 : TypeOk Tryz.prog 123 ti123 := aD (z := (.nilFunc)) (by kernel_rfl) rfl Tryz.underlying123 ⟨_, _, _, rfl⟩ rfl (by decide)
theorem tok124 : TypeOk Tryz.prog 124 ti124 := aD (z := (.slice none 0 0)) (by kernel_rfl) rfl Tryz.underlying124 rfl rfl (by decide)
theorem tok125 : TypeOk Tryz.prog 125 ti125 := aD (z := (.agg #[.int .i64 0, .slice none 0 0, .slice none 0 0, .int .i64 0, .int .i64 0, .bool false, .slice none 0 0, .int .i64 0, .bool false, .slice none 0 0, .slice none 0 0])) (by kernel_rfl) rfl Tryz.underlying125 ⟨_, rfl, rfl⟩ rfl (by decide)
theorem tok126 : TypeOk Tryz.prog 126 ti126 := aD (z := (.agg #[.int .i64 0, .slice none 0 0, .slice none 0 0, .int .i64 0, .int .i64 0, .bool false, .slice none 0 0, .int .i64 0, .bool false, .slice none 0 0, .slice none 0 0])) (by kernel_rfl) rfl Tryz.underlying126 ⟨_, rfl, rfl⟩ rfl (by decide)
theorem tok128 : TypeOk Tryz.prog 128 ti128 := aD (z := (.nilFunc)) (by kernel_rfl) rfl Tryz.underlying128 ⟨_, _, _, rfl⟩ rfl (by decide)
theorem tok129 : TypeOk Tryz.prog 129 ti129 := aD (z := (.nilFunc)) (by kernel_rfl) rfl Tryz.underlying129 ⟨_, _, _, rfl⟩ rfl (by decide)
theorem tok130 : TypeOk Tryz.prog 130 ti130 := aD (z := (.nilFunc)) (by kernel_rfl) rfl Tryz.underlying130 ⟨_, _, _, rfl⟩ rfl (by decide)
theorem tok131 : TypeOk Tryz.prog 131 ti131 := aD (z := (.nilFunc)) (by kernel_rfl) rfl Tryz.underlying131 ⟨_, _, _, rfl⟩ rfl (by decide)
theorem tok132 : TypeOk Tryz.prog 132 ti132 := aD (z := (.pointer none)) (by kernel_rfl) rfl Tryz.underlying132 ⟨_, rfl⟩ rfl (by decide)
theorem tok133 : TypeOk Tryz.prog 133 ti133 := aD (z := (.nilFunc)) (by kernel_rfl) rfl Tryz.underlying133 ⟨_, _, _, rfl⟩ rfl (by decide)
theorem tok135 : TypeOk Tryz.prog 135 ti135 := aD (z := (.nilFunc)) (by kernel_rfl) rfl Tryz.underlying135 ⟨_, _, _, rfl⟩ rfl (by decide)
theorem tok136 : TypeOk Tryz.prog 136 ti136 := aD (z := (.slice none 0 0)) (by kernel_rfl) rfl Tryz.underlying136 rfl rfl (by decide)
theorem tok137 : TypeOk Tryz.prog 137 ti137 := aD (z := (.agg #[.int .i64 0, .slice none 0 0, .slice none 0 0, .slice none 0 0, .slice none 0 0, .slice none 0 0])) (by kernel_rfl) rfl Tryz.underlying137 ⟨_, rfl, rfl⟩ rfl (by decide)
theorem tok138 : TypeOk Tryz.prog 138 ti138 := aD (z := (.agg #[.int .i64 0, .slice none 0 0, .slice none 0 0, .slice none 0 0, .slice none 0 0, .slice none 0 0])) (by kernel_rfl) rfl Tryz.underlying138 ⟨_, rfl, rfl⟩ rfl (by decide)
theorem tok139 : TypeOk Tryz.prog 139 ti139 := aD (z := (.nilFunc)) (by kernel_rfl) rfl Tryz.underlying139 ⟨_, _, _, rfl⟩ rfl (by decide)
theorem tok140 : TypeOk Tryz.prog 140 ti140 := aD (z := (.nilFunc)) (by kernel_rfl) rfl Tryz.underlying140 ⟨_, _, _, rfl⟩ rfl (by decide)
theorem tok141 : TypeOk Tryz.prog 141 ti141 := aD (z := (.nilFunc)) (by kernel_rfl) rfl Tryz.underlying141 ⟨_, _, _, rfl⟩ rfl (by decide)
theorem tok142 : TypeOk Tryz.prog 142 ti142 := aD (z := (.pointer none)) (by kernel_rfl) rfl Tryz.underlying142 ⟨_, rfl⟩ rfl (by decide)
theorem tok144 : TypeOk Tryz.prog 144 ti144 := aD (z := (.nilFunc)) (by kernel_rfl) rfl Tryz.underlying144 ⟨_, _, _, rfl⟩ rfl (by decide)
theorem tok145 : TypeOk Tryz.prog 145 ti145 := aD (z := (.nilFunc)) (by kernel_rfl) rfl Tryz.underlying145 ⟨_, _, _, rfl⟩ rfl (by decide)
theorem tok146 : TypeOk Tryz.prog 146 ti146 := aD (z := (.nilFunc)) (by kernel_rfl) rfl Tryz.underlying146 ⟨_, _, _, rfl⟩ rfl (by decide)
theorem tok147 : TypeOk Tryz.prog 147 ti147 := aD (z := (.nilFunc)) (by kernel_rfl) rfl Tryz.underlying147 ⟨_, _, _, rfl⟩ rfl (by decide)
theorem tok149 : TypeOk Tryz.prog 149 ti149 := aD (z := (.nilFunc)) (by kernel_rfl) rfl Tryz.underlying149 ⟨_, _, _, rfl⟩ rfl (by decide)
theorem tok150 : TypeOk Tryz.prog 150 ti150 := aD (z := (.nilFunc)) (by kernel_rfl) rfl Tryz.underlying150 ⟨_, _, _, rfl⟩ rfl (by decide)
theorem tok151 : TypeOk Tryz.prog 151 ti151 := aD (z := (.nilFunc)) (by kernel_rfl) rfl Tryz.underlying151 ⟨_, _, _, rfl⟩ rfl (by decide)
theorem tok152 : TypeOk Tryz.prog 152 ti152 := aD (z := (.nilFunc)) (by kernel_rfl) rfl Tryz.underlying152 ⟨_, _, _, rfl⟩ rfl (by decide)
theorem tok153 : TypeOk Tryz.prog 153 ti153 := aD (z := (.nilFunc)) (by kernel_rfl) rfl Tryz.underlying153 ⟨_, _, _, rfl⟩ rfl (by decide)
theorem tok154 : TypeOk Tryz.prog 154 ti154 := aD (z := (.nilFunc)) (by kernel_rfl) rfl Tryz.underlying154 ⟨_, _, _, rfl⟩ rfl (by decide)
theorem tok155 : TypeOk Tryz.prog 155 ti155 := aD (z := (.nilFunc)) (by kernel_rfl) rfl Tryz.underlying155 ⟨_, _, _, rfl⟩ rfl (by decide)
theorem tok156 : TypeOk Tryz.prog 156 ti156 := aD (z := (.nilFunc)) (by kernel_rfl) rfl Tryz.underlying156 ⟨_, _, _, rfl⟩ rfl (by decide)
theorem tok157 : TypeOk Tryz.prog 157 ti157 := aD (z := (.nilFunc)) (by kernel_rfl) rfl Tryz.underlying157 ⟨_, _, _, rfl⟩ rfl (by decide)
theorem tok158 : TypeOk Tryz.prog 158 ti158 := aD (z := (.nilFunc)) (by kernel_rfl) rfl Tryz.underlying158 ⟨_, _, _, rfl⟩ rfl (by decide)
theorem tok159 : TypeOk Tryz.prog 159 ti159 := aD (z := (.nilFunc)) (by kernel_rfl) rfl Tryz.underlying159 ⟨_, _, _, rfl⟩ rfl (by decide)
theorem tok160 : TypeOk Tryz.prog 160 ti160 := aD (z := (.nilFunc)) (by kernel_rfl) rfl Tryz.underlying160 ⟨_, _, _, rfl⟩ rfl (by decide)
theorem tok161 : TypeOk Tryz.prog 161 ti161 := aD (z := (.int .u64 0)) (by kernel_rfl) rfl Tryz.underlying161 rfl rfl (by decide)
theorem tok162 : TypeOk Tryz.prog 162 ti162 := aD (z := (.int .u32 0)) (by kernel_rfl) rfl Tryz.underlying162 rfl rfl (by decide)
theorem tok163 : TypeOk Tryz.prog 163 ti163 := aD (z := (.int .u64 0)) (by kernel_rfl) rfl Tryz.underlying163 rfl rfl (by decide)
theorem tok164 : TypeOk Tryz.prog 164 ti164 := aD (z := (.nilFunc)) (by kernel_rfl) rfl Tryz.underlying164 ⟨_, _, _, rfl⟩ rfl (by decide)
theorem tok165 : TypeOk Tryz.prog 165 ti165 := aD (z := (.nilFunc)) (by kernel_rfl) rfl Tryz.underlying165 ⟨_, _, _, rfl⟩ rfl (by decide)
theorem tok166 : TypeOk Tryz.prog 166 ti166 := aD (z := (.nilFunc)) (by kernel_rfl) rfl Tryz.underlying166 ⟨_, _, _, rfl⟩ rfl (by decide)
theorem tok167 : TypeOk Tryz.prog 167 ti167 := aD (z := (.nilFunc)) (by kernel_rfl) rfl Tryz.underlying167 ⟨_, _, _, rfl⟩ rfl (by decide)
theorem tok168 : TypeOk Tryz.prog 168 ti168 := aD (z := (.nilFunc)) (by kernel_rfl) rfl Tryz.underlying168 ⟨_, _, _, rfl⟩ rfl (by decide)
theorem tok170 : TypeOk Tryz.prog 170 ti170 := aD (z := (.nilFunc)) (by kernel_rfl) rfl Tryz.underlying170 ⟨_, _, _, rfl⟩ rfl (by decide)
theorem tok171 : TypeOk Tryz.prog 171 ti171 := aD (z := (.nilFunc)) (by kernel_rfl) rfl Tryz.underlying171 ⟨_, _, _, rfl⟩ rfl (by decide)
theorem tok173 : TypeOk Tryz.prog 173 ti173 := aD (z := (.nilFunc)) (by kernel_rfl) rfl Tryz.underlying173 ⟨_, _, _, rfl⟩ rfl (by decide)
theorem tok175 : TypeOk Tryz.prog 175 ti175 := aD (z := (.nilFunc)) (by kernel_rfl) rfl Tryz.underlying175 ⟨_, _, _, rfl⟩ rfl (by decide)
theorem tok176 : TypeOk Tryz.prog 176 ti176 := aD (z := (.nilFunc)) (by kernel_rfl) rfl Tryz.underlying176 ⟨_, _, _, rfl⟩ rfl (by decide)
theorem tok177 : TypeOk Tryz.prog 177 ti177 := aD (z := (.nilFunc)) (by kernel_rfl) rfl Tryz.underlying177 ⟨_, _, _, rfl⟩ rfl (by decide)
theorem tok178 : TypeOk Tryz.prog 178 ti178 := aD (z := (.nilFunc)) (by kernel_rfl) rfl Tryz.underlying178 ⟨_, _, _, rfl⟩ rfl (by decide)
theorem tok179 : TypeOk Tryz.prog 179 ti179 := aD (z := (.nilFunc)) (by kernel_rfl) rfl Tryz.underlying179 ⟨_, _, _, rfl⟩ rfl (by decide)
theorem tok180 : TypeOk Tryz.prog 180 ti180 := aD (z := (.nilFunc)) (by kernel_rfl) rfl Tryz.underlying180 ⟨_, _, _, rfl⟩ rfl (by decide)
theorem tok181 : TypeOk Tryz.prog 181 ti181 := aD (z := (.nilFunc)) (by kernel_rfl) rfl Tryz.underlying181 ⟨_, _, _, rfl⟩ rfl (by decide)
theorem tok182 : TypeOk Tryz.prog 182 ti182 := aD (z := (.nilFunc)) (by kernel_rfl) rfl Tryz.underlying182 ⟨_, _, _, rfl⟩ rfl (by decide)
theorem tok184 : TypeOk Tryz.prog 184 ti184 := aD (z := (.nilFunc)) (by kernel_rfl) rfl Tryz.underlying184 ⟨_, _, _, rfl⟩ rfl (by decide)
theorem tok186 : TypeOk Tryz.prog 186 ti186 := aD (z := (.nilFunc)) (by kernel_rfl) rfl Tryz.underlying186 ⟨_, _, _, rfl⟩ rfl (by decide)
theorem tok187 : TypeOk Tryz.prog 187 ti187 := aD (z := (.nilFunc)) (by kernel_rfl) rfl Tryz.underlying187 ⟨_, _, _, rfl⟩ rfl (by decide)
theorem tok188 : TypeOk Tryz.prog 188 ti188 := aD (z := (.nilFunc)) (by kernel_rfl) rfl Tryz.underlying188 ⟨_, _, _, rfl⟩ rfl (by decide)
theorem tok189 : TypeOk Tryz.prog 189 ti189 := aD (z := (.nilFunc)) (by kernel_rfl) rfl Tryz.underlying189 ⟨_, _, _, rfl⟩ rfl (by decide)
theorem tok190 : TypeOk Tryz.prog 190 ti190 := aD (z := (.nilFunc)) (by kernel_rfl) rfl Tryz.underlying190 ⟨_, _, _, rfl⟩ rfl (by decide)
theorem tok192 : TypeOk Tryz.prog 192 ti192 := aD (z := (.nilFunc)) (by kernel_rfl) rfl Tryz.underlying192 ⟨_, _, _, rfl⟩ rfl (by decide)
theorem tok194 : TypeOk Tryz.prog 194 ti194 := aD (z := (.nilFunc)) (by kernel_rfl) rfl Tryz.underlying194 ⟨_, _, _, rfl⟩ rfl (by decide)
theorem tok196 : TypeOk Tryz.prog 196 ti196 := aD (z := (.nilFunc)) (by kernel_rfl) rfl Tryz.underlying196 ⟨_, _, _, rfl⟩ rfl (by decide)
theorem tok197 : TypeOk Tryz.prog 197 ti197 := aD (z := (.nilFunc)) (by kernel_rfl) rfl Tryz.underlying197 ⟨_, _, _, rfl⟩ rfl (by decide)
theorem tok199 : TypeOk Tryz.prog 199 ti199 := aD (z := (.nilFunc)) (by kernel_rfl) rfl Tryz.underlying199 ⟨_, _, _, rfl⟩ rfl (by decide)
theorem tok200 : TypeOk Tryz.prog 200 ti200 := aD (z := (.nilFunc)) (by kernel_rfl) rfl Tryz.underlying200 ⟨_, _, _, rfl⟩ rfl (by decide)
theorem tok201 : TypeOk Tryz.prog 201 ti201 := aD (z := (.nilFunc)) (by kernel_rfl) rfl Tryz.underlying201 ⟨_, _, _, rfl⟩ rfl (by decide)
theorem tok203 : TypeOk Tryz.prog 203 ti203 := aD (z := (.nilFunc)) (by kernel_rfl) rfl Tryz.underlying203 ⟨_, _, _, rfl⟩ rfl (by decide)
theorem tok204 : TypeOk Tryz.prog 204 ti204 := aD (z := (.nilFunc)) (by kernel_rfl) rfl Tryz.underlying204 ⟨_, _, _, rfl⟩ rfl (by decide)
theorem tok207 : TypeOk Tryz.prog 207 ti207 := aD (z := (.pointer none)) (by kernel_rfl) rfl Tryz.underlying207 ⟨_, rfl⟩ rfl (by decide)
theorem tok208 : TypeOk Tryz.prog 208 ti208 := aD (z := (.nilFunc)) (by kernel_rfl) rfl Tryz.underlying208 ⟨_, _, _, rfl⟩ rfl (by decide)
theorem tok214 : TypeOk Tryz.prog 214 ti214 := aD (z := (.int .u8 0)) (by kernel_rfl) rfl Tryz.underlying214 rfl rfl (by decide)
theorem tok215 : TypeOk Tryz.prog 215 ti215 := aD (z := (.int .u8 0)) (by kernel_rfl) rfl Tryz.underlying215 rfl rfl (by decide)
theorem tok216 : TypeOk Tryz.prog 216 ti216 := aD (z := (.nilFunc)) (by kernel_rfl) rfl Tryz.underlying216 ⟨_, _, _, rfl⟩ rfl (by decide)
theorem tok217 : TypeOk Tryz.prog 217 ti217 := aD (z := (.pointer none)) (by kernel_rfl) rfl Tryz.underlying217 ⟨_, rfl⟩ rfl (by decide)
theorem tok218 : TypeOk Tryz.prog 218 ti218 := aD (z := (.int .i32 0)) (by kernel_rfl) rfl Tryz.underlying218 rfl rfl (by decide)
theorem tok219 : TypeOk Tryz.prog 219 ti219 := aD (z := (.int .i32 0)) (by kernel_rfl) rfl Tryz.underlying219 rfl rfl (by decide)
theorem tok222 : TypeOk Tryz.prog 222 ti222 := aD (z := (.agg #[.string ⟨#[]⟩])) (by kernel_rfl) rfl Tryz.underlying222 ⟨_, rfl, rfl⟩ rfl (by decide)
theorem tok223 : TypeOk Tryz.prog 223 ti223 := aD (z := (.agg #[.string ⟨#[]⟩])) (by kernel_rfl) rfl Tryz.underlying223 ⟨_, rfl, rfl⟩ rfl (by decide)
def tbl : List (Nat × TI) := [(1, ti1), (2, ti2), (3, ti3), (4, ti4), (5, ti5), (6, ti6), (7, ti7), (8, ti8), (9, ti9), (10, ti10), (11, ti11), (12, ti12), (13, ti13), (14, ti14), (15, ti15), (16, ti16), (17, ti17), (21, ti21), (22, ti22), (23, ti23), (24, ti24), (25, ti25), (26, ti26), (27, ti27), (28, ti28), (29, ti29), (30, ti30), (31, ti31), (32, ti32), (33, ti33), (34, ti34), (35, ti35), (36, ti36), (38, ti38), (39, ti39), (40, ti40), (41, ti41), (42, ti42), (43, ti43), (45, ti45), (46, ti46), (48, ti48), (49, ti49), (50, ti50), (51, ti51), (52, ti52), (53, ti53), (54, ti54), (55, ti55), (56, ti56), (57, ti57), (58, ti58), (59, ti59), (60, ti60), (61, ti61), (62, ti62), (63, ti63), (64, ti64), (65, ti65), (66, ti66), (67, ti67), (68, ti68), (69, ti69), (70, ti70), (71, ti71), (72, ti72), (73, ti73), (74, ti74), (75, ti75), (76, ti76), (77, ti77), (78, ti78), (79, ti79), (80, ti80), (82, ti82), (83, ti83), (84, ti84), (85, ti85), (86, ti86), (87, ti87), (88, ti88), (89, ti89), (90, ti90), (91, ti91), (92, ti92), (93, ti93), (94, ti94), (95, ti95), (96, ti96), (97, ti97), (98, ti98), (99, ti99), (100, ti100), (101, ti101), (102, ti102), (103, ti103), (104, ti104), (105, ti105), (106, ti106), (107, ti107), (108, ti108), (109, ti109), (110, ti110), (111, ti111), (112, ti112), (113, ti113), (114, ti114), (115, ti115), (116, ti116), (117, ti117), (118, ti118), (119, ti119), (120, ti120), (121, ti121), (122, ti122), (123, ti123), (124, ti124), (125, ti125), (126, ti126), (128, ti128), (129, ti129), (130, ti130), (131, ti131), (132, ti132), (133, ti133), (135, ti135), (136, ti136), (137, ti137), (138, ti138), (139, ti139), (140, ti140), (141, ti141), (142, ti142), (144, ti144), (145, ti145), (146, ti146), (147, ti147), (149, ti149), (150, ti150), (151, ti151), (152, ti152), (153, ti153), (154, ti154), (155, ti155), (156, ti156), (157, ti157), (158, ti158), (159, ti159), (160, ti160), (161, ti161), (162, ti162), (163, ti163), (164, ti164), (165, ti165), (166, ti166), (167, ti167), (168, ti168), (170, ti170), (171, ti171), (173, ti173), (175, ti175), (176, ti176), (177, ti177), (178, ti178), (179, ti179), (180, ti180), (181, ti181), (182, ti182), (184, ti184), (186, ti186), (187, ti187), (188, ti188), (189, ti189), (190, ti190), (192, ti192), (194, ti194), (196, ti196), (197, ti197), (199, ti199), (200, ti200), (201, ti201), (203, ti203), (204, ti204), (207, ti207), (208, ti208), (214, ti214), (215, ti215), (216, ti216), (217, ti217), (218, ti218), (219, ti219), (222, ti222), (223, ti223)]
def T : TT := getT tbl
theorem typesOk : TypesOk Tryz.prog T := typesOk_of (by simp only [tbl, List.forall_mem_cons]; exact ⟨tok1, tok2, tok3, tok4, tok5, tok6, tok7, tok8, tok9, tok10, tok11, tok12, tok13, tok14, tok15, tok16, tok17, tok21, tok22, tok23, tok24, tok25, tok26, tok27, tok28, tok29, tok30, tok31, tok32, tok33, tok34, tok35, tok36, tok38, tok39, tok40, tok41, tok42, tok43, tok45, tok46, tok48, tok49, tok50, tok51, tok52, tok53, tok54, tok55, tok56, tok57, tok58, tok59, tok60, tok61, tok62, tok63, tok64, tok65, tok66, tok67, tok68, tok69, tok70, tok71, tok72, tok73, tok74, tok75, tok76, tok77, tok78, tok79, tok80, tok82, tok83, tok84, tok85, tok86, tok87, tok88, tok89, tok90, tok91, tok92, tok93, tok94, tok95, tok96, tok97, tok98, tok99, tok100, tok101, tok102, tok103, tok104, tok105, tok106, tok107, tok108, tok109, tok110, tok111, tok112, tok113, tok114, tok115, tok116, tok117, tok118, tok119, tok120, tok121, tok122, tok123, tok124, tok125, tok126, tok128, tok129, tok130, tok131, tok132, tok133, tok135, tok136, tok137, tok138, tok139, tok140, tok141, tok142, tok144, tok145, tok146, tok147, tok149, tok150, tok151, tok152, tok153, tok154, tok155, tok156, tok157, tok158, tok159, tok160, tok161, tok162, tok163, tok164, tok165, tok166, tok167, tok168, tok170, tok171, tok173, tok175, tok176, tok177, tok178, tok179, tok180, tok181, tok182, tok184, tok186, tok187, tok188, tok189, tok190, tok192, tok194, tok196, tok197, tok199, tok200, tok201, tok203, tok204, tok207, tok208, tok214, tok215, tok216, tok217, tok218, tok219, tok222, tok223, by simp⟩)
end Go.Proofs.YtohfklpfeilcpaaGreat
namespace Go.Proofs.YtohfklpfeilcpaaGreat
open Go.Ab Go.RowKit
abbrev E0 : TypeId → Bool := fun t => Nat.beq t 40
theorem mK (k : Nat) (ds : List Nat) (hk : k ≤ 2) (hl : ds.length < 4611686018427387904) : Run Tryz.prog T E0 (.call 160 [.sl k (ds.map d32)] (.sl (if k = 0 then 0 else 1) ((trim ds).map d32))) := by
 refine bL Tryz.func160 J J (dH J) <| Rg 1 J <| Ua J J <| Wn <| aL <| bF (α := Nat × (List Nat)) (fun ⟨k1, es⟩ => [(0, .sl k1 (es.map d32))]) (fun ⟨k1, es⟩ => []) (fun ⟨k1, es⟩ n => (k1 = k ∨ k = 2 ∧ k1 = 1) ∧ trim es = trim ds ∧ es.length < 4611686018427387904) (fun ⟨k1, es⟩ => es.length) (k, ds) ⟨J, trivial⟩ trivial ⟨.inl J, rfl, hl⟩ ?_
 rintro ⟨k1, es⟩ n hF
 change WC _ _ _ _ _ (_ :: _) ([]) n _
 obtain ⟨hk1, hds, hel⟩ := hF
 refine aB <| Rg 12 J <| Um J J <| aA (aW J J) J <| aA (eB J J) J <| bB (fun h5 => ?_) (fun h5 => ?_)
 rotate_left
 ·refine Um J J <| K1 J J <| K1 J J <| K1 J J <| K1 J J <| K1 J J <| K1 J J <| K1 J J <| aA (bK J J) J <| Wn <| aX J <| bA <| aS <| aR J <| Rg 2 J <| Um J J <| Ua J J <| Nk [2] J <| aN <| postW (n := 0) (.inr J) J ?_ (by simp)
  have ht : trim es = es := jO om
  rw [← hds, ht]
  rcases hk1 with rfl | ⟨rfl, rfl⟩
  ·have : k1 = 0 ∨ k1 = 1 ∨ k1 = 2 := by omega
   rcases this with rfl | rfl | rfl
   ·exact .same _
   ·exact .same _
   ·exact .two _
  ·exact .same _
 refine Um J J <| aE J (dK J) J <| aE J (dK J) J <| aE J (aW J J) J <| aE J (cE J J om) J <| aE J (cG (j := es.length - 1) J J J J om om J) J <| aE J (dY J J J) J <| aE J (dV J J) J <| bB (fun h13 => ?_) (fun h13 => ?_)
 ·refine aA (bM J J) J <| Wn <| aT J <| aH <| dL <| aI (z := 6) J <| Um J J <| Um J J <| aA (aW J J) J <| aA (cE J J om) J <| aA (oSlH (j := es.length - 1) J J J jC J om (by simp)) J <| Ua J J <| Wn <| dG <| aG <| ⟨⟨if k1 = 2 then 1 else k1, es.take (es.length - 1)⟩, ⟨congrArg some ?_, trivial⟩, trivial, ⟨?_, ?_, ?_⟩, ?_⟩
  ·have h9 : es.length - 1 < es.length := by omega
   simp [h9]
  ·split <;> omega
  ·rw [pK om om]; exact hds
  ·simp; omega
  ·simp; omega
 refine aA (bM J J) J <| Wn <| aX J <| bA <| aS <| aR J <| Rg 2 J <| Um J J <| Ua J J <| Nk [2] J <| aN <| postW (n := 0) (.inr J) J ?_ (by simp)
 have ht : trim es = es := jO om
 rw [← hds, ht]
 rcases hk1 with rfl | ⟨rfl, rfl⟩
 ·have : k1 = 0 ∨ k1 = 1 ∨ k1 = 2 := by omega
  rcases this with rfl | rfl | rfl
  ·exact .same _
  ·exact .same _
  ·exact .two _
 ·exact .same _
theorem kT (v : Int) : Run Tryz.prog T E0 (.call 95 [lvI v] (.v (.int .i64 v.sign))) := by
 refine bL Tryz.func95 J J (dH J) <| Rg 2 J <| bJ (eO J J) J <| Ua J J <| Wn <| aL <| Rg 4 J <| aA (aU J J J J J) J <| aA (aM J J J J J) J <| aA (eB J J) J <| bB (fun h6 => ?_) (fun h6 => ?_)
 ·refine Ua J J <| Wn <| bY J <| Rg 1 J <| Ua J J <| Wn <| aN <| aP <| post (n := 0) (.inr J) J (congrArg (fun z => LV.v (.int .i64 z)) ?_) (by simp)
  exact (Int.sign_eq_one_of_pos ((ia_pos v).1 h6)).symm
 refine Ua J J <| Wn <| bV J <| Rg 4 J <| aA (aU J J J J J) J <| aA (aM J J J J J) J <| aA (bZ J J) J <| bB (fun h10 => ?_) (fun h10 => ?_)
 ·refine Ua J J <| Wn <| bY J <| Rg 1 J <| Ua J J <| Wn <| aN <| aP <| post (n := 0) (.inr J) J (congrArg (fun z => LV.v (.int .i64 z)) ?_) (by simp)
  exact (Int.sign_eq_neg_one_of_neg ((ia_neg v).1 h10)).symm
 refine Ua J J <| Wn <| bV J <| cA <| aF <| Rg 1 J <| Ua J J <| Wn <| aN <| post (n := 0) (.inr J) J (congrArg (fun z => LV.v (.int .i64 z)) ?_) (by simp)
 have h1 := ia_pos v
 have h2 := ia_neg v
 have : v = 0 := by omega
 subst this; rfl
theorem qV (v : Int) : Run Tryz.prog T E0 (.call 91 [lvI v] (lvI (-v))) := by
 have hb := pS v
 refine bL Tryz.func91 J J (dH J) <| Rg 2 J <| bJ (eO J J) J <| bJ (fD J) J <| Wn <| Rg 7 J <| aA (aU J J J J J) J <| aA (aM J J J J J) J <| aA (gI J om) J <| aA (aU J J J J J) J <| aA (aM J J J J J) J <| aA (gS (cs := [_, _]) J J J J J) J <| bH (cP (cs' := [_, _]) J J J J J J J J) <| Wn <| aN <| post (n := 0) (.inr J) J ?_ (by simp)
 simp only [lvI, ia_negate, ik_negate, idg_negate]; rfl
theorem abs_run (v : Int) : Run Tryz.prog T E0 (.call 133 [lvI v] (lvI v.natAbs)) := by
 refine bL Tryz.func133 J J (dH J) <| Rg 2 J <| bJ (eO J J) J <| bJ (fD J) J <| Wn <| aB <| Rg 3 J <| aA (aU J J J J J) J <| aA (aM J J J J J) J <| aA (bZ J J) J <| bB (fun h5 => ?_) (fun h5 => ?_)
 rotate_left
 ·refine Wn <| aX J <| aH <| Rg 2 J <| aA (aM (l := .agg [_, _]) J J J J J) J <| bH (cP (cs' := [_, _]) J J J J J J J J) <| Wn <| aN <| post (n := 0) (.inr J) J ?_ (by simp)
  have h1 := ia_neg v
  have : (v.natAbs : Int) = v := by omega
  rw [this]; rfl
 refine Wn <| aT J <| aB <| Rg 3 J <| aA (aM (l := .agg [_, _]) J J J J J) J <| aA (aK J (qV _) (by simp)) J <| bH (cP (cs' := [_, _]) J J J J J J J J) <| Wn <| bI <| post (n := 0) (.inr J) J ?_ (by simp)
 have h1 := (ia_neg v).1 h5
 have : (v.natAbs : Int) = -v := by omega
 rw [this]; rfl
theorem one_run  : Run Tryz.prog T E0 (.call 151 [] (lvI 1)) := by
 refine bL Tryz.func151 J J (dH J) <| Rg 1 J <| bJ (fD J) J <| Wn <| Rg 2 J <| aA (gS (cs := [_, _]) J J J J J) J <| bH (cP (cs' := [_, _]) J J J J J J J J) <| Wn <| aN ?_
 exact post (n := 0) (.inr J) J J (by simp)
theorem pE (v : Int) (hv : -9223372036854775808 ≤ v ∧ v ≤ 9223372036854775807) : Run Tryz.prog T E0 (.call 81 [.v (.int .i64 v)] (lvI v)) := by
 refine bL Tryz.func81 J J (dH J) <| Rg 1 J <| bJ (fD J) J <| Wn <| aB <| Rg 6 J <| Um J J <| aA (eB J J) J <| bB (fun h6 => ?_) (fun h6 => ?_)
 rotate_left
 ·refine Um J J <| K1 J J <| K1 J J <| aA (bK J J) J <| Wn <| aX J <| aH <| Rg 1 J <| Ua J J <| Wn <| Rg 3 J <| Um J J <| aA (cI (v % 18446744073709551616) (cN J J J) (IntKind.wrap_u64 _)) J <| Ua J J <| Wn <| aB <| Rg 2 J <| Um J J <| aA (bZ J J) J <| bB (fun h16 => ?_) (fun h16 => ?_)
  rotate_left
  ·refine Wn <| aX J <| aH <| Rg 9 J <| Um J J <| Um J J <| aA (cI (((v.natAbs % 4294967296 : Nat) : Int)) (cN J J J) (by rw [IntKind.wrap_u32]; omega)) J <| Um J J <| aA (cI (((v.natAbs / 4294967296 : Nat) : Int)) (fS (s := 32) J J om) om) J <| aA (cI (((v.natAbs / 4294967296 : Nat) : Int)) (cN J J J) (by rw [IntKind.wrap_u32]; omega)) J <| aA (dJ (cs := [_, _]) (rows := [[_], [_]]) J J (by decide) J J J) J <| aA (gS (cs := [_, _]) J J J J J) J <| bH (cP (cs' := [_, _]) J J J J J J J J) <| Nk [2] J <| aN ?_
   omega
  refine Wn <| aT J <| Rg 4 J <| Um J J <| aA (cI (((v.natAbs : Nat) : Int)) (oNeg J) (by rw [IntKind.wrap_u64]; omega)) J <| Ua J J <| Ua J J <| Nk [2,3,4] J <| Rg 9 J <| Um J J <| Um J J <| aA (cI (((v.natAbs % 4294967296 : Nat) : Int)) (cN J J J) (by rw [IntKind.wrap_u32]; omega)) J <| Um J J <| aA (cI (((v.natAbs / 4294967296 : Nat) : Int)) (fS (s := 32) J J om) om) J <| aA (cI (((v.natAbs / 4294967296 : Nat) : Int)) (cN J J J) (by rw [IntKind.wrap_u32]; omega)) J <| aA (dJ (cs := [_, _]) (rows := [[_], [_]]) J J (by decide) J J J) J <| aA (gS (cs := [_, _]) J J J J J) J <| bH (cP (cs' := [_, _]) J J J J J J J J) <| Wn <| aN <| postW (n := 0) (l := .agg [_, _]) (.inr J) J ?_ (by simp)
  have hns : ¬ small v := by unfold small; omega
  rw [qT hns, Int.sign_eq_neg_one_of_neg h16, ← two_big (m := v.natAbs) om om]
  exact .int _ _
 refine Um J J <| aE J (dK J) J <| aE J (bZ J J) J <| bB (fun h9 => ?_) (fun h9 => ?_)
 ·refine aA (bM J J) J <| Wn <| aT J <| aB <| Rg 3 J <| Um J J <| aA (gS (cs := [_, _]) J J J J J) J <| bH (cP (cs' := [_, _]) J J J J J J J J) <| Wn <| bI <| post (n := 0) (.inr J) J ?_ (by simp)
  rw [kQ ⟨h6, h9⟩]; rfl
 refine aA (bM J J) J <| Wn <| aX J <| aH <| Rg 1 J <| Ua J J <| Wn <| Rg 3 J <| Um J J <| aA (cI (v % 18446744073709551616) (cN J J J) (IntKind.wrap_u64 _)) J <| Ua J J <| Wn <| aB <| Rg 2 J <| Um J J <| aA (bZ J J) J <| bB (fun h16 => ?_) (fun h16 => ?_)
 rotate_left
 ·refine Wn <| aX J <| aH <| Rg 9 J <| Um J J <| Um J J <| aA (cI (((v.natAbs % 4294967296 : Nat) : Int)) (cN J J J) (by rw [IntKind.wrap_u32]; omega)) J <| Um J J <| aA (cI (((v.natAbs / 4294967296 : Nat) : Int)) (fS (s := 32) J J om) om) J <| aA (cI (((v.natAbs / 4294967296 : Nat) : Int)) (cN J J J) (by rw [IntKind.wrap_u32]; omega)) J <| aA (dJ (cs := [_, _]) (rows := [[_], [_]]) J J (by decide) J J J) J <| aA (gS (cs := [_, _]) J J J J J) J <| bH (cP (cs' := [_, _]) J J J J J J J J) <| Nk [2] J <| aN <| postW (n := 0) (l := .agg [_, _]) (.inr J) J ?_ (by simp)
  have hns : ¬ small v := by unfold small; omega
  rw [qT hns, Int.sign_eq_one_of_pos om, ← two_big (m := v.natAbs) om om]
  exact .int _ _
 refine Wn <| aT J <| Rg 4 J <| Um J J <| aA (cI (((v.natAbs : Nat) : Int)) (oNeg J) (by rw [IntKind.wrap_u64]; omega)) J <| Ua J J <| Ua J J <| Nk [2,3,4] J <| Rg 9 J <| Um J J <| Um J J <| aA (cI (((v.natAbs % 4294967296 : Nat) : Int)) (cN J J J) (by rw [IntKind.wrap_u32]; omega)) J <| Um J J <| aA (cI (((v.natAbs / 4294967296 : Nat) : Int)) (fS (s := 32) J J om) om) J <| aA (cI (((v.natAbs / 4294967296 : Nat) : Int)) (cN J J J) (by rw [IntKind.wrap_u32]; omega)) J <| aA (dJ (cs := [_, _]) (rows := [[_], [_]]) J J (by decide) J J J) J <| aA (gS (cs := [_, _]) J J J J J) J <| bH (cP (cs' := [_, _]) J J J J J J J J) <| Wn <| aN <| postW (n := 0) (l := .agg [_, _]) (.inr J) J ?_ (by simp)
 have hns : ¬ small v := by unfold small; omega
 rw [qT hns, Int.sign_eq_neg_one_of_neg h16, ← two_big (m := v.natAbs) om om]
 exact .int _ _
theorem qQ (v b : Int) (hb : 0 ≤ b ∧ b < 4611686018427387904) : Run Tryz.prog T E0 (.call 98 [lvI v, .v (.int .i64 b)] (.tup [.v (.int .i64 (if -b ≤ v ∧ v ≤ b then v else 0)), .v (.bool (decide (-b ≤ v ∧ v ≤ b)))])) := by
 refine bL Tryz.func98 J J (dH J) <| Rg 3 J <| bJ (eO J J) J <| Ua J J <| Ua J J <| Wn <| aB <| Rg 16 J <| aA (aU J J J J J) J <| aA (aM J J J J J) J <| aA (oNilN J J) J <| dT (fun h8 => ?_) (fun h8 => ?_)
 ·refine Um J J <| K1 J J <| K1 J J <| K1 J J <| K1 J J <| aA (bM J J) J <| Um J J <| K1 J J <| K1 J J <| K1 J J <| K1 J J <| K1 J J <| aA (bM J J) J <| Nk [2,21] J <| aT J <| aB <| Rg 2 J <| Ua J J <| Ua J J <| Wn <| bI <| post (n := 0) (.inr J) J ?_ (by simp)
  have hs := ik_eq'.1 h8
  have hn : ¬ (-b ≤ v ∧ v ≤ b) := by unfold small at hs; omega
  rw [if_neg hn, decide_eq_false hn]; rfl
 refine Um J J <| aE J (aU J J J J J) J <| aE J (aM J J J J J) J <| aE J (dK J) J <| aE J (eB J J) J <| bB (fun h13 => ?_) (fun h13 => ?_)
 ·refine aA (bK J J) J <| Um J J <| K1 J J <| K1 J J <| K1 J J <| K1 J J <| K1 J J <| aA (bM J J) J <| Nk [2,21] J <| aT J <| aB <| Rg 2 J <| Ua J J <| Ua J J <| Wn <| bI <| post (n := 0) (.inr J) J ?_ (by simp)
  have hs := eA (ik_ne'.1 h8)
  have hn : ¬ (-b ≤ v ∧ v ≤ b) := by omega
  rw [if_neg hn, decide_eq_false hn]; rfl
 refine aA (bK J J) J <| Um J J <| aE J (aU J J J J J) J <| aE J (aM J J J J J) J <| aE J (dK J) J <| aE J (gI J om) J <| aE J (bZ J J) J <| bB (fun h20 => ?_) (fun h20 => ?_)
 ·refine aA (bK J J) J <| Nk [2,21] J <| aT J <| aB <| Rg 2 J <| Ua J J <| Ua J J <| Wn <| bI <| post (n := 0) (.inr J) J ?_ (by simp)
  have hs := eA (ik_ne'.1 h8)
  have hn : ¬ (-b ≤ v ∧ v ≤ b) := by omega
  rw [if_neg hn, decide_eq_false hn]; rfl
 refine aA (bK J J) J <| Nk [2,21] J <| aX J <| aH <| Rg 4 J <| aA (aU J J J J J) J <| aA (aM J J J J J) J <| Ua J J <| Ua J J <| Wn <| aN <| post (n := 0) (.inr J) J ?_ (by simp)
 have hs := eA (ik_ne'.1 h8)
 have hn : -b ≤ v ∧ v ≤ b := by omega
 rw [if_pos hn, decide_eq_true hn]
 exact congrArg (fun z => LV.tup [.v (.int .i64 z), .v (.bool true)]) hs
theorem gC (v : Int) : Run Tryz.prog T E0 (.call 149 [lvI v] (.tup [.v (.int .i64 v.sign), .sl 1 ((dgs B32 v.natAbs).map d32)])) := by
 have hb := pS v
 refine bL Tryz.func149 J J (dH J) <| Rg 3 J <| bJ (eO J J) J <| Ua J J <| Ua J J <| Wn <| aB <| Rg 3 J <| aA (aU J J J J J) J <| aA (aM J J J J J) J <| aA (oNilN J J) J <| dT (fun h8 => ?_) (fun h8 => ?_)
 ·refine Wn <| aT J <| aB <| bR (z := 6) J kR <| aC (aU J J J J J) J <| aC (aM J J J J J) J <| aC (aU J J J J J) J <| aC (aM J J J J J) J <| aC (gX J) J <| aC (gX J) J <| bG (aQ kR) J <| bI <| post (n := 0) (.inr J) J ?_ (by simp)
  have hs := ik_eq'.1 h8
  rw [oT hs, ik_big hs, idg_big hs]; rfl
 have hs := ik_ne'.1 h8
 have hia := eA hs
 refine Wn <| aX J <| aH <| Rg 2 J <| Ua J J <| Ua J J <| Wn <| aL <| Rg 4 J <| aA (aU J J J J J) J <| aA (aM J J J J J) J <| aA (eB J J) J <| bB (fun h16 => ?_) (fun h16 => ?_)
 ·refine Ua J J <| Wn <| bY J <| dN (z := 5) J kR <| aC (aU J J J J J) J <| aC (aM J J J J J) J <| aC (cI (((v.natAbs : Nat) : Int)) (cN J J J) (by rw [IntKind.wrap_u64]; omega)) J <| aC (gX J) J <| aC (gX J) J <| bG (aQ kR) J <| aF <| Ck [4,5] J <| Rg 10 J <| Um J J <| Um J J <| aA (cI (((v.natAbs % 4294967296 : Nat) : Int)) (cN J J J) (by rw [IntKind.wrap_u32]; omega)) J <| Um J J <| aA (cI (((v.natAbs / 4294967296 : Nat) : Int)) (fS (s := 32) J J om) om) J <| aA (cI (((v.natAbs / 4294967296 : Nat) : Int)) (cN J J J) (by rw [IntKind.wrap_u32]; omega)) J <| aA (dJ (cs := [_, _]) (rows := [[_], [_]]) J J (by decide) J J J) J <| aA (aK J (mK 2 [v.natAbs % 4294967296, v.natAbs / 4294967296] om (by simp)) (by simp)) J <| Ua J J <| Ua J J <| cJ ?_
  refine aN <| post (n := 0) (.inr J) J ?_ (by simp)
  rw [← two_dg (m := v.natAbs) om, Int.sign_eq_one_of_pos om]; rfl
 refine Ua J J <| Wn <| bV J <| Rg 4 J <| aA (aU J J J J J) J <| aA (aM J J J J J) J <| aA (bZ J J) J <| bB (fun h23 => ?_) (fun h23 => ?_)
 rotate_left
 ·refine Ua J J <| Nk [1,4,5,20] J <| bV J <| cA <| aF <| Rg 10 J <| Um J J <| Um J J <| aA (cI (((v.natAbs % 4294967296 : Nat) : Int)) (cN J J J) (by rw [IntKind.wrap_u32]; omega)) J <| Um J J <| aA (cI (((v.natAbs / 4294967296 : Nat) : Int)) (fS (s := 32) J J om) om) J <| aA (cI (((v.natAbs / 4294967296 : Nat) : Int)) (cN J J J) (by rw [IntKind.wrap_u32]; omega)) J <| aA (dJ (cs := [_, _]) (rows := [[_], [_]]) J J (by decide) J J J) J <| aA (aK J (mK 2 [v.natAbs % 4294967296, v.natAbs / 4294967296] om (by simp)) (by simp)) J <| Ua J J <| Ua J J <| Wn <| aN <| post (n := 0) (.inr J) J ?_ (by simp)
  have h0 : v = 0 := by omega
  rw [← two_dg (m := v.natAbs) om]
  subst h0; rfl
 refine Ua J J <| Nk [1,4,5,20] J <| bY J <| dN (z := 6) J kR <| aC (aU J J J J J) J <| aC (aM J J J J J) J <| aC (gI J om) J <| aC (cI (((v.natAbs : Nat) : Int)) (cN J J J) (by rw [IntKind.wrap_u64]; omega)) J <| aC (gX J) J <| aC (gX J) J <| bG (aQ kR) J <| aF <| Rg 10 J <| Um J J <| Um J J <| aA (cI (((v.natAbs % 4294967296 : Nat) : Int)) (cN J J J) (by rw [IntKind.wrap_u32]; omega)) J <| Um J J <| aA (cI (((v.natAbs / 4294967296 : Nat) : Int)) (fS (s := 32) J J om) om) J <| aA (cI (((v.natAbs / 4294967296 : Nat) : Int)) (cN J J J) (by rw [IntKind.wrap_u32]; omega)) J <| aA (dJ (cs := [_, _]) (rows := [[_], [_]]) J J (by decide) J J J) J <| aA (aK J (mK 2 [v.natAbs % 4294967296, v.natAbs / 4294967296] om (by simp)) (by simp)) J <| Ua J J <| Ua J J ?_
 refine Nk [2,3] J <| aN <| post (n := 0) (.inr J) J ?_ (by simp)
 rw [← two_dg (m := v.natAbs) om, Int.sign_eq_neg_one_of_neg om]; rfl
theorem kL (x y c : Nat) (hx : x < 4294967296) (hy : y < 4294967296) (hc : c ≤ 1) : Run Tryz.prog T E0 (.call 161 [.v (.int .u32 (x : Int)), .v (.int .u32 (y : Int)), .v (.int .u32 (c : Int))] (.tup [.v (.int .u32 (((x + y + c) % 4294967296 : Nat) : Int)), .v (.int .u32 (((x + y + c) / 4294967296 : Nat) : Int))])) := by
 refine bL Tryz.func161 J J (dH J) <| Rg 2 J <| Ua J J <| Ua J J <| Wn <| Rg 9 J <| Um J J <| aA (cI ((x : Int)) (cN J J J) (by rw [IntKind.wrap_u64]; omega)) J <| Um J J <| aA (cI ((y : Int)) (cN J J J) (by rw [IntKind.wrap_u64]; omega)) J <| aA (cI (((x + y : Nat) : Int)) (kS J J) om) J <| Um J J <| aA (cI ((c : Int)) (cN J J J) (by rw [IntKind.wrap_u64]; omega)) J <| aA (cI (((x + y + c : Nat) : Int)) (kS J J) om) J <| Ua J J <| Wn <| Rg 3 J <| Um J J <| aA (cI ((((x + y + c) % 4294967296 : Nat) : Int)) (cN J J J) (by rw [IntKind.wrap_u32]; omega)) J <| Ua J J <| Nk [6,8] J <| Rg 4 J <| Um J J ?_
 refine aA (cI ((((x + y + c) / 4294967296 : Nat) : Int)) (fS (s := 32) J J om) om) J <| aA (cI ((((x + y + c) / 4294967296 : Nat) : Int)) (cN J J J) (by rw [IntKind.wrap_u32]; omega)) J <| Ua J J <| Wn <| aN ?_
 exact post (n := 0) (.inr J) J J (by simp)
theorem lY (k1 k2 : Nat) (xs ys : List Nat) (hx : Dg B32 xs) (hy : Dg B32 ys) (tx : Trm xs) (ty : Trm ys) (lx : xs.length < 4611686018427387904) (ly : ys.length < 4611686018427387904) : Run Tryz.prog T E0 (.call 155 [.sl k1 (xs.map d32), .sl k2 (ys.map d32)] (.v (.int .i64 ((val B32 xs : Int) - val B32 ys).sign))) := by
 refine bL Tryz.func155 J J (dH J) <| Rg 1 J <| Ua J J <| Wn <| aB <| Rg 5 J <| Um J J <| aA (aW J J) J <| Um J J <| aA (aW J J) J <| aA (gJ J J) J <| bB (fun h10 => ?_) (fun h10 => ?_)
 ·refine Wn <| aT J <| aB <| aB <| Rg 5 J <| Um J J <| aA (aW J J) J <| Um J J <| aA (aW J J) J <| aA (bZ J J) J <| bB (fun h15 => ?_) (fun h15 => ?_)
  ·refine Wn <| aT J <| aB <| Rg 1 J <| Ua J J <| Wn <| bI <| post (n := 0) (.inr J) J (congrArg (fun z => LV.v (.int .i64 z)) ?_) (by simp)
   have := eJ (B := B32) (by decide) hx ty om
   exact (Int.sign_eq_neg_one_of_neg om).symm
  refine Wn <| aX J <| aH <| aB <| Rg 1 J <| Ua J J <| Wn <| bI <| post (n := 0) (.inr J) J (congrArg (fun z => LV.v (.int .i64 z)) ?_) (by simp)
  have := eJ (B := B32) (by decide) hy tx om
  exact (Int.sign_eq_one_of_pos om).symm
 have hlen : xs.length = ys.length := by omega
 refine Wn <| aX J <| aH <| aB <| Rg 4 J <| Um J J <| aA (aW J J) J <| aA (cE J J om) J <| Ua J J <| Wn <| aL <| bF (α := Nat) (fun k => [(0, .sl k1 (xs.map d32)), (1, .sl k2 (ys.map d32)), (5, .v (.int .i64 ((k : Int) - 1)))]) (fun k => []) (fun k n => k ≤ xs.length ∧ xs.drop k = ys.drop k) (fun k => k) (xs.length) ⟨J, J, J, trivial⟩ trivial ⟨Nat.le_refl _, by rw [List.drop_length, hlen, List.drop_length]⟩ ?_
 rintro k n hF
 change WC _ _ _ _ _ (_ :: _) ([]) n _
 obtain ⟨hk, hd⟩ := hF
 refine aB <| Rg 2 J <| Um J J <| aA (hH J J) J <| bB (fun h20 => ?_) (fun h20 => ?_)
 rotate_left
 ·refine Wn <| aX J <| bA <| aS <| aR J <| Rg 1 J <| Ua J J <| Wn <| aN <| post (n := 0) (.inr J) J (congrArg (fun z => LV.v (.int .i64 z)) ?_) (by simp)
  have h0 : k = 0 := by omega
  subst h0
  simp only [List.drop_zero] at hd
  subst hd
  simp
 refine Wn <| aT J <| aH <| aL <| bR (z := 9) J kR <| Dm J J <| Dm J J <| aC (cG (j := k - 1) J J J J om om J) J <| aC (dY J J J) J <| Dm J J <| Dm J J <| aC (cG (j := k - 1) J J J J om om J) J <| aC (dY J J J) J <| aC (gJ J J) J <| jD (fun h31 => ?_) (fun h31 => ?_)
 rotate_left
 ·refine bG (aQ kR) J <| bV J <| cA <| aF <| aI (z := 3) J <| Um J J <| aA (cI (((k - 1 : Nat) : Int) - 1) (cE J J om) om) J <| Ua J J <| Wn <| aG ?_
  have hj : k - 1 + 1 = k := by omega
  refine ⟨k - 1, ⟨J, J, J, trivial⟩, trivial, ⟨om, ?_⟩, by show k - 1 < k; omega⟩
  rw [bW (by omega : k - 1 < xs.length), bW (by omega : k - 1 < ys.length), hj, hd]
  congr 1; omega
 refine bG (aQ kR) J <| bY J <| aB <| bR (z := 9) J kR <| Dm J J <| Dm J J <| aC (cG (j := k - 1) J J J J om om J) J <| aC (dY J J J) J <| Dm J J <| Dm J J <| aC (cG (j := k - 1) J J J J om om J) J <| aC (dY J J J) J <| aC (bZ J J) J <| jD (fun h40 => ?_) (fun h40 => ?_)
 ·refine bG (aQ kR) J <| Ck [40] J <| aT J <| aB <| Rg 1 J <| Ua J J <| Wn <| bI <| aP <| cR <| aP <| post (n := 0) (.inr J) J (congrArg (fun z => LV.v (.int .i64 z)) ?_) (by simp)
  have hj : k - 1 + 1 = k := by omega
  have := nA (B := B32) (ys := ys) (by decide) hx (k := k - 1) om om (by rw [hj]; exact hd) om
  exact (Int.sign_eq_neg_one_of_neg om).symm
 refine bG (aQ kR) J <| Ck [40] J <| aX J <| aH <| Rg 1 J <| Ua J J <| Wn <| aN <| aP <| cR <| aP <| post (n := 0) (.inr J) J (congrArg (fun z => LV.v (.int .i64 z)) ?_) (by simp)
 have hj : k - 1 + 1 = k := by omega
 have := nA (B := B32) (ys := xs) (by decide) hy (k := k - 1) om om (by rw [hj]; exact hd.symm) om
 exact (Int.sign_eq_one_of_pos om).symm
end Go.Proofs.YtohfklpfeilcpaaGreat
namespace Go.Proofs.YtohfklpfeilcpaaGreat
open Go.Ab Go.RowKit
theorem sub32_run (x y c : Nat) (hx : x < 4294967296) (hy : y < 4294967296) (hc : c ≤ 1) : Run Tryz.prog T E0 (.call 162 [.v (.int .u32 (x : Int)), .v (.int .u32 (y : Int)), .v (.int .u32 (c : Int))] (.tup [.v (.int .u32 ((((x + 8589934592 - y - c) % 4294967296) : Nat) : Int)), .v (.int .u32 ((if x < y + c then 1 else 0 : Nat) : Int))])) := by
 have hxy : x ^^^ y < 4294967296 := Nat.xor_lt_two_pow (n := 32) hx hy
 refine bL Tryz.func162 J J (dH J) <| Rg 2 J <| Ua J J <| Ua J J <| Wn <| Rg 6 J <| Um J J <| Um J J <| aA (oSub32 J J) J <| Um J J <| aA (cI (((((x + 8589934592 - y - c) % 4294967296) : Nat) : Int)) (oSub32 J J) om) J <| Ua J J <| Wn <| Rg 13 J <| Um J J <| aA (oCom32 (a := x) J hx) J <| Um J J <| aA (gQ (v := .int .u32 (((4294967295 - x) &&& y : Nat) : Int)) J J (and32 om hy)) J <| Um J J <| Um J J <| aA (gQ (v := .int .u32 ((x ^^^ y : Nat) : Int)) J J (xor32 hx hy)) J <| aA (oCom32 (a := x ^^^ y) J hxy) J <| Um J J <| aA (gQ (v := .int .u32 (((4294967295 - (x ^^^ y)) &&& ((x + 8589934592 - y - c) % 4294967296) : Nat) : Int)) J J (and32 om om)) J ?_
 refine aA (gQ (v := .int .u32 ((((4294967295 - x) &&& y) ||| ((4294967295 - (x ^^^ y)) &&& ((x + 8589934592 - y - c) % 4294967296)) : Nat) : Int)) J J (or32 (Nat.lt_of_le_of_lt Nat.and_le_right hy) (Nat.lt_of_le_of_lt Nat.and_le_left om))) J <| aA (cI (((if x < y + c then 1 else 0 : Nat) : Int)) (oShr32 (s := 31) J J om) (by rw [← borrow hx hy hc (d := ((x + 8589934592 - y - c) % 4294967296)) om]; rfl)) J <| Ua J J <| Nk [6,7] J <| aN ?_
 exact post (n := 0) (.inr J) J J (by simp)
theorem plus_run (k1 k2 : Nat) (xs ys : List Nat) (hx : Dg B32 xs) (hy : Dg B32 ys) (lx : xs.length < 1099511627776) (ly : ys.length < 1099511627776) : ∃ r, Run Tryz.prog T E0 (.call 154 [.sl k1 (xs.map d32), .sl k2 (ys.map d32)] r) ∧ ∃ ds, r = .sl 1 (ds.map d32) ∧ Dg B32 ds ∧ val B32 ds = val B32 xs + val B32 ys ∧ ds.length ≤ max xs.length ys.length + 1 := by
 refine iT Tryz.func154 J J (dH J) ?_
 have J3 : ∀ (k1 k2 : Nat) (us ws : List Nat) (hu : Dg B32 us) (hw : Dg B32 ws) (hle : ws.length ≤ us.length) (hm : us.length ≤ max xs.length ys.length) (hs : val B32 us + val B32 ws = val B32 xs + val B32 ys) (n : Nat) , WC Tryz.prog T E0 Tryz.f154.ntmps (codeR (codeR (codeOf Tryz.f154))) [(0, .sl k1 (us.map d32)), (1, .sl k2 (ws.map d32))] [] n (fun x e h n => ∃ r, (∃ ds, r = .sl 1 (ds.map d32) ∧ Dg B32 ds ∧ val B32 ds = val B32 xs + val B32 ys ∧ ds.length ≤ max xs.length ys.length + 1) ∧ Post T Tryz.f154.results.toList r x e h n) := by
  intro k1 k2 us ws hu hw hle hm hs n
  refine Rg 5 J <| Um J J <| aA (aW J J) J <| aA (aO J J om) J <| bJ (oMk (a := 0) (b := us.length + 1) J J J J J J (by decide) om (by show 4 * (us.length + 1) ≤ _; omega) om) J <| Ua J J <| Wn <| Rg 1 J <| Ua J J <| Wn <| aB <| Rg 3 J <| Um J J <| aA (aW J J) J <| Um J J <| Wn <| aL <| bF (α := Nat × Nat × (List Nat)) (fun ⟨c, q, ds⟩ => [(0, .sl k1 (us.map d32)), (1, .sl k2 (ws.map d32)), (5, .ref q 1 0 ds.length), (6, .v (.int .u32 (c : Int))), (22, .v (.int .i64 (us.length : Int))), (23, .v (.int .i64 (ds.length : Int)))]) (fun ⟨c, q, ds⟩ => [(q, { cells := (ds.map d32).flatten, sz := 1, elem := 162, st := 0 })]) (fun ⟨c, q, ds⟩ n => ds.length ≤ us.length ∧ Dg B32 ds ∧ c ≤ 1 ∧ val B32 ds + B32 ^ ds.length * c = val B32 (us.take ds.length) + val B32 (ws.take ds.length)) (fun ⟨c, q, ds⟩ => us.length - ds.length) (0, n + 3, []) ⟨J, J, J, J, J, J, trivial⟩ ⟨g0, trivial⟩ ⟨Nat.zero_le _, by intro d hd; simp at hd, om, by simp [val]⟩ ?_
  rintro ⟨c, q, ds⟩ n hF
  change WC _ _ _ _ _ (_ :: _) (_ :: _) n _
  obtain ⟨hdl, hdd, hc, hi⟩ := hF
  refine Rg 1 J <| aA (bZ J J) J <| bB (fun h24 => ?_) (fun h24 => ?_)
  rotate_left
  ·refine Wn <| aX J <| bA <| aS <| aR J <| Rg 5 J <| Um J J <| Um J J <| aA (dJ (cs := [_]) (rows := [[_]]) J J (by decide) J J J) J <| bJ (oApM (f := d32) J J J J J (fun _ => rfl) (by decide) g0 (by show (2 * (ds.length + 1) + 256) * 4 ≤ _; omega) om) J <| Ua J J <| Wn <| aN <| ⟨.sl 1 ((ds ++ [c]).map d32), ⟨_, rfl, hdd.snoc (by show c < 4294967296; omega), ?_, by simp; omega⟩, qY (n := 0) _ (.inr J) J (by simp) g0 (by show (0 : Nat) ≠ 2; decide) J (by decide) J jC eL⟩
   have hl : ds.length = us.length := by omega
   rw [fU, hi, List.take_of_length_le om, List.take_of_length_le om, hs]
  refine Wn <| aT J <| aH <| aL <| Rg 2 J <| Um J J <| Ua J J <| Wn <| Rg 1 J <| Ua J J <| Wn <| aB <| Rg 4 J <| Um J J <| Um J J <| aA (aW J J) J <| aA (bZ J J) J <| bB (fun h29 => ?_) (fun h29 => ?_)
  rotate_left
  ·refine Wn <| aX J <| aH <| Rg 1 J <| Ua J J <| Nk [0,1,5,6,7,8,22,23] J ?_
   have hxl : us.getD ds.length default < 4294967296 := bP hu om
   refine Rg 12 J <| Um J J <| Um J J <| aA (cG J J J J J om J) J <| aA (dY J J J) J <| Um J J <| Um J J <| aA (aK J (kL (us.getD ds.length default) 0 c hxl (by decide) hc) (by simp)) J <| Um J J <| aA (fB J J) J <| aA (fB J J) J <| Ua J J <| Ua J J <| Nk [0,1,5,6,9,22,23] J <| aI (z := 5) J <| Um J J <| Um J J <| aA (dJ (cs := [_]) (rows := [[_]]) J J (by decide) J J J) J <| bJ (oApM (f := d32) J J J J J (fun _ => rfl) (by decide) g0 (by show (2 * (ds.length + 1) + 256) * 4 ≤ _; omega) om) J <| Ua J J <| Wn <| aF <| aI (z := 2) J ?_
   refine aA (cI (((ds.length + 1 : Nat) : Int)) (aO J J om) om) J <| Um J J <| Wn <| aG <| ⟨⟨_, _, ds ++ [_]⟩, ⟨rfl, rfl, rfl, rfl, rfl, congrArg some (by simp), trivial⟩, ⟨g0, trivial⟩, ⟨by simp; omega, hdd.snoc (Nat.mod_lt _ (by decide)), om, pF hi J (dW om).symm⟩, by simp; omega⟩
  refine Wn <| aT J <| Rg 5 J <| Um J J <| Um J J <| aA (cG J J J J J om J) J <| aA (dY J J J) J <| Ua J J <| Nk [0,1,5,6,7,8,22,23] J <| Rg 1 J <| Ua J J <| cJ ?_
  have hxl : us.getD ds.length default < 4294967296 := bP hu om
  have hyl : ws.getD ds.length default < 4294967296 := bP hw om
  refine Rg 12 J <| Um J J <| Um J J <| aA (cG J J J J J om J) J <| aA (dY J J J) J <| Um J J <| Um J J <| aA (aK J (kL (us.getD ds.length default) (ws.getD ds.length default) c hxl hyl hc) (by simp)) J <| Um J J <| aA (fB J J) J <| aA (fB J J) J <| Ua J J <| Ua J J <| Nk [0,1,5,6,9,22,23] J <| aI (z := 5) J <| Um J J <| Um J J <| aA (dJ (cs := [_]) (rows := [[_]]) J J (by decide) J J J) J <| bJ (oApM (f := d32) J J J J J (fun _ => rfl) (by decide) g0 (by show (2 * (ds.length + 1) + 256) * 4 ≤ _; omega) om) J <| Ua J J <| Wn <| aF <| aI (z := 2) J ?_
  refine aA (cI (((ds.length + 1 : Nat) : Int)) (aO J J om) om) J <| Um J J <| Wn <| aG <| ⟨⟨_, _, ds ++ [_]⟩, ⟨rfl, rfl, rfl, rfl, rfl, congrArg some (by simp), trivial⟩, ⟨g0, trivial⟩, ⟨by simp; omega, hdd.snoc (Nat.mod_lt _ (by decide)), om, pF hi J J⟩, by simp; omega⟩
 refine Rg 1 J <| Ua J J <| Wn <| aB <| Rg 5 J <| Um J J <| aA (aW J J) J <| Um J J <| aA (aW J J) J <| aA (bZ J J) J <| bB (fun h14 => ?_) (fun h14 => ?_)
 rotate_left
 ·refine Wn <| aX J <| aH <| Ck [0,1] J ?_
  exact J3 _ _ xs ys hx hy om om J _
 refine Wn <| aT J <| Rg 4 J <| Um J J <| Um J J <| Ua J J <| Ua J J <| Nk [0,1] J ?_
 exact J3 _ _ ys xs hy hx om om om _
theorem mP (k1 k2 : Nat) (xs ys : List Nat) (hx : Dg B32 xs) (hy : Dg B32 ys) (lx : xs.length < 1099511627776) (hle : ys.length ≤ xs.length) (hv : val B32 ys ≤ val B32 xs) : ∃ r, Run Tryz.prog T E0 (.call 156 [.sl k1 (xs.map d32), .sl k2 (ys.map d32)] r) ∧ ∃ ds, r = .sl 1 (ds.map d32) ∧ Dg B32 ds ∧ val B32 ds = val B32 xs - val B32 ys ∧ ds.length = xs.length := by
 refine iT Tryz.func156 J J (dH J) <| Rg 1 J <| Ua J J <| Wn <| Rg 4 J <| Um J J <| aA (aW J J) J <| bJ (oMk (a := 0) (b := xs.length) J J J J J J (by decide) om (by show 4 * xs.length ≤ _; omega) om) J <| Ua J J <| Wn <| Rg 1 J <| Ua J J <| Wn <| aB <| Rg 3 J <| Um J J <| aA (aW J J) J <| Um J J <| Wn <| aL <| bF (α := Nat × Nat × (List Nat)) (fun ⟨c, q, ds⟩ => [(0, .sl k1 (xs.map d32)), (1, .sl k2 (ys.map d32)), (5, .ref q 1 0 ds.length), (6, .v (.int .u32 (c : Int))), (14, .v (.int .i64 (xs.length : Int))), (15, .v (.int .i64 (ds.length : Int)))]) (fun ⟨c, q, ds⟩ => [(q, { cells := (ds.map d32).flatten, sz := 1, elem := 162, st := 0 })]) (fun ⟨c, q, ds⟩ n => ds.length ≤ xs.length ∧ Dg B32 ds ∧ c ≤ 1 ∧ val B32 (xs.take ds.length) + B32 ^ ds.length * c = val B32 ds + val B32 (ys.take ds.length)) (fun ⟨c, q, ds⟩ => xs.length - ds.length) (0, 0 + 1 + 2, []) ⟨J, J, J, J, J, J, trivial⟩ ⟨g0, trivial⟩ ⟨Nat.zero_le _, by intro d hd; simp at hd, om, by simp [val]⟩ ?_
 rintro ⟨c, q, ds⟩ n hF
 change WC _ _ _ _ _ (_ :: _) (_ :: _) n _
 obtain ⟨hdl, hdd, hc, hi⟩ := hF
 refine Rg 1 J <| aA (bZ J J) J <| bB (fun h16 => ?_) (fun h16 => ?_)
 rotate_left
 ·refine Wn <| aX J <| bA <| aS <| aR J <| Rg 2 J <| Um J J <| Ua J J <| Wn <| aN <| ⟨.sl 1 (ds.map d32), ⟨_, rfl, hdd, ?_, om⟩, qY (n := 0) _ (.inr J) J (by simp) g0 (by show (0 : Nat) ≠ 2; decide) J (by decide) J jC eL⟩
  have hl : ds.length = xs.length := by omega
  rw [List.take_of_length_le om, List.take_of_length_le om] at hi
  have hlt := eI (B := B32) (by decide) hdd
  rcases (show c = 0 ∨ c = 1 by omega) with rfl | rfl
  ·omega
  ·omega
 refine Wn <| aT J <| aH <| aL <| Rg 2 J <| Um J J <| Ua J J <| Wn <| Rg 1 J <| Ua J J <| Wn <| aB <| Rg 4 J <| Um J J <| Um J J <| aA (aW J J) J <| aA (bZ J J) J <| bB (fun h21 => ?_) (fun h21 => ?_)
 rotate_left
 ·refine Wn <| aX J <| aH <| Rg 1 J <| Ua J J <| Nk [0,1,5,6,7,8,14,15] J ?_
  have hxl : xs.getD ds.length default < 4294967296 := bP hx om
  refine Rg 12 J <| Um J J <| Um J J <| aA (cG J J J J J om J) J <| aA (dY J J J) J <| Um J J <| Um J J <| aA (aK J (sub32_run (xs.getD ds.length default) 0 c hxl (by decide) hc) (by simp)) J <| Um J J <| aA (fB J J) J <| aA (fB J J) J <| Ua J J <| Ua J J <| Nk [0,1,5,6,9,14,15] J <| aI (z := 5) J <| Um J J <| Um J J <| aA (dJ (cs := [_]) (rows := [[_]]) J J (by decide) J J J) J <| bJ (oApM (f := d32) J J J J J (fun _ => rfl) (by decide) g0 (by show (2 * (ds.length + 1) + 256) * 4 ≤ _; omega) om) J <| Ua J J <| Wn <| aF <| aI (z := 2) J ?_
  refine aA (cI (((ds.length + 1 : Nat) : Int)) (aO J J om) om) J <| Um J J <| Wn <| aG <| ⟨⟨_, _, ds ++ [_]⟩, ⟨rfl, rfl, rfl, rfl, rfl, congrArg some (by simp), trivial⟩, ⟨g0, trivial⟩, ⟨by simp; omega, hdd.snoc (Nat.mod_lt _ (by decide)), by split <;> omega, lJ hi J (dW om).symm (by show _ = _ + 4294967296 * _; split <;> omega)⟩, by simp; omega⟩
 refine Wn <| aT J <| Rg 5 J <| Um J J <| Um J J <| aA (cG J J J J J om J) J <| aA (dY J J J) J <| Ua J J <| Nk [0,1,5,6,7,8,14,15] J <| Rg 1 J <| Ua J J <| cJ ?_
 have hxl : xs.getD ds.length default < 4294967296 := bP hx om
 have hyl : ys.getD ds.length default < 4294967296 := bP hy om
 refine Rg 12 J <| Um J J <| Um J J <| aA (cG J J J J J om J) J <| aA (dY J J J) J <| Um J J <| Um J J <| aA (aK J (sub32_run (xs.getD ds.length default) (ys.getD ds.length default) c hxl hyl hc) (by simp)) J <| Um J J <| aA (fB J J) J <| aA (fB J J) J <| Ua J J <| Ua J J <| Nk [0,1,5,6,9,14,15] J <| aI (z := 5) J <| Um J J <| Um J J <| aA (dJ (cs := [_]) (rows := [[_]]) J J (by decide) J J J) J <| bJ (oApM (f := d32) J J J J J (fun _ => rfl) (by decide) g0 (by show (2 * (ds.length + 1) + 256) * 4 ≤ _; omega) om) J <| Ua J J <| Wn <| aF <| aI (z := 2) J ?_
 refine aA (cI (((ds.length + 1 : Nat) : Int)) (aO J J om) om) J <| Um J J <| Wn <| aG <| ⟨⟨_, _, ds ++ [_]⟩, ⟨rfl, rfl, rfl, rfl, rfl, congrArg some (by simp), trivial⟩, ⟨g0, trivial⟩, ⟨by simp; omega, hdd.snoc (Nat.mod_lt _ (by decide)), by split <;> omega, lJ hi J J (by show _ = _ + 4294967296 * _; split <;> omega)⟩, by simp; omega⟩
theorem gF (s : Int) (k : Nat) (ds : List Nat) (hs : s = 1 ∨ s = -1 ∨ s = 0 ∧ val B32 ds = 0) (hk : k = 1 ∨ k = 2) (hd : Dg B32 ds) (hl : ds.length < 4611686018427387904) : Run Tryz.prog T E0 (.call 150 [.v (.int .i64 s), .sl k (ds.map d32)] (lvI (s * val B32 ds))) := by
 have hkk : (if k = 0 then 0 else 1) = 1 := by rw [if_neg om]
 have htd := mY hd
 have hrun := mK k ds om hl
 rw [hkk] at hrun
 have htl : (trim ds).length ≤ ds.length := by
  unfold trim; simpa using (List.dropWhile_sublist (· == 0) (l := ds.reverse)).length_le
 generalize hes : trim ds = es at *
 refine bL Tryz.func150 J J (dH J) <| Rg 1 J <| bJ (fD J) J <| Wn <| Rg 3 J <| Um J J <| aA (aK J (hrun) (by simp)) J <| Ua J J <| Wn <| aB <| Rg 3 J <| Um J J <| aA (aW J J) J <| aA (nL J J) J <| bB (fun h12 => ?_) (fun h12 => ?_)
 rotate_left
 ·refine Wn <| aX J <| aH <| Rg 4 J <| Um J J <| Um J J <| aA (gS (cs := [_, _]) J J J J J) J <| bH (cP (cs' := [_, _]) J J J J J J J J) <| Wn <| aN <| post (n := 0) (.inr J) J ?_ (by simp)
  have hb := val_big hd (by rw [hes]; omega)
  rw [lvI_made hd (by have : val B32 ds = val 4294967296 ds := rfl; omega) hb, hes]; rfl
 refine Wn <| aT J <| aB <| Rg 1 J <| Ua J J <| Wn <| aB <| aB <| Rg 3 J <| Um J J <| aA (aW J J) J <| Um J J <| Wn <| aL <| bF (α := Nat × Nat) (fun ⟨i, m⟩ => [(0, .v (.int .i64 s)), (1, .sl 1 (es.map d32)), (4, .ptr 0 0), (5, .v (.int .u64 (m : Int))), (13, .sl 1 (es.map d32)), (14, .v (.int .i64 (es.length : Int))), (15, .v (.int .i64 (i : Int)))]) (fun ⟨i, m⟩ => [(0, { cells := [.v (.int .i64 0), .sl 0 []], sz := 2, elem := 86, st := 0 })]) (fun ⟨i, m⟩ n => i ≤ es.length ∧ m = val B32 (es.take i)) (fun ⟨i, m⟩ => es.length - i) (0, 0) ⟨J, J, J, J, J, J, J, trivial⟩ ⟨J, trivial⟩ ⟨Nat.zero_le _, by simp [val]⟩ ?_
 rintro ⟨i, m⟩ n hF
 change WC _ _ _ _ _ (_ :: _) (_ :: _) n _
 obtain ⟨hi, hm⟩ := hF
 refine Rg 1 J <| aA (bZ J J) J <| bB (fun h16 => ?_) (fun h16 => ?_)
 ·refine Wn <| aT J <| aH <| aL <| Rg 5 J <| Um J J <| aA (cG J J J J J om J) J <| aA (dY J J J) J <| Ua J J <| Ua J J <| cJ ?_
  have hxl : es.getD i default < 4294967296 := bP htd om
  have hml : m < 4294967296 ^ i := by
   have := eI (B := 4294967296) (by decide) (htd.take i)
   rw [List.length_take, Nat.min_eq_left hi] at this
   rw [hm]; exact this
  refine aI (z := 8) J <| Um J J <| Um J J <| aA (cI (((es.getD i default : Nat) : Int)) (cN J J J) (by rw [IntKind.wrap_u64]; omega)) J <| Um J J <| aA (cI (((32 * i : Nat) : Int)) (gH J J om) om) J <| aA (cI (((es.getD i default * 4294967296 ^ i : Nat) : Int)) (oShlU (s := 32 * i) J J om) (shl_dig om hxl)) J <| aA (gQ (v := .int .u64 ((m + 4294967296 ^ i * es.getD i default : Nat) : Int)) J J (or_dig om hxl hml)) J <| Ua J J <| Wn <| aF <| Ck [0,1,4,5,13,14,15] J <| aI (z := 2) J <| aA (cI (((i + 1 : Nat) : Int)) (aO J J om) om) J <| Um J J <| Wn <| aG <| ⟨⟨i + 1, _⟩, ⟨J, J, J, J, J, J, J, trivial⟩, ⟨J, trivial⟩, ⟨om, ?_⟩, by show es.length - (i + 1) < es.length - i; omega⟩
  rw [cQ, hm]
 refine Wn <| aX J <| bA <| aS <| aR J <| aB <| Rg 2 J <| Um J J <| aA (bZ J J) J <| bB (fun h29 => ?_) (fun h29 => ?_)
 rotate_left
 ·refine Wn <| aX J <| aH <| Rg 4 J <| Um J J <| Um J J <| aA (gS (cs := [_, _]) J J J J J) J <| bH (cP (cs' := [_, _]) J J J J J J J J) <| Wn <| aN ?_
  have hE : m = val B32 ds := by
   rw [hm, List.take_of_length_le om, ← hes, hO]
  refine post (n := 0) (.inr J) J ?_ (by simp)
  rw [lvI_made hd om (by show 4611686018427387904 ≤ val B32 ds; omega), hes]; rfl
 refine Wn <| aT J <| aB <| Rg 6 J <| Um J J <| Um J J <| aA (cI ((m : Int)) (cN J J J) (by rw [IntWalk.i64_in _ om])) J <| aA (gH J J (by rcases hs with rfl | rfl | ⟨rfl, _⟩ <;> omega)) J <| aA (gS (cs := [_, _]) J J J J J) J <| bH (cP (cs' := [_, _]) J J J J J J J J) <| Nk [4] J <| bI ?_
 have hE : m = val B32 ds := by
  rw [hm, List.take_of_length_le om, ← hes, hO]
 refine post (n := 0) (.inr J) J ?_ (by simp)
 rw [kQ (by unfold small; rw [← hE]; rcases hs with rfl | rfl | ⟨rfl, _⟩ <;> omega), ← hE]; rfl
end Go.Proofs.YtohfklpfeilcpaaGreat
namespace Go.Proofs.YtohfklpfeilcpaaGreat
open Go.Ab Go.RowKit
theorem ia0 {v : Int} (h : v.sign = 0) : v = 0 := Int.sign_eq_zero_iff_zero.1 h
theorem add_run (v w : Int) (hv : len32 v < 1099511627775) (hw : len32 w < 1099511627775) : Run Tryz.prog T E0 (.call 132 [lvI v, lvI w] (lvI (v + w))) := by
 have bv := pS v
 have bw := pS w
 have ev := fP v
 have ew := fP w
 have dv := iS (B := B32) (by decide) v.natAbs
 have dw := iS (B := B32) (by decide) w.natAbs
 have qv := lC (B := B32) (by decide) v.natAbs
 have qw := lC (B := B32) (by decide) w.natAbs
 have tv := dgs_tr (B := B32) (by decide) v.natAbs
 have tw := dgs_tr (B := B32) (by decide) w.natAbs
 have lv : (dgs B32 v.natAbs).length < 1099511627775 := hv
 have lw : (dgs B32 w.natAbs).length < 1099511627775 := hw
 refine bL Tryz.func132 J J (dH J) <| Rg 3 J <| bJ (eO J J) J <| bJ (eO J J) J <| bJ (fD J) J <| Wn <| aB <| Rg 8 J <| aA (aU J J J J J) J <| aA (aM J J J J J) J <| aA (pY J J) J <| dT (fun h11 => ?_) (fun h11 => ?_)
 rotate_left
 ·refine Um J J <| K1 J J <| K1 J J <| K1 J J <| aA (bK J J) J <| Wn <| aX J <| aH <| Rg 7 J <| aA (aM (l := .agg [_, _]) J J J J J) J <| aA (aK J (gC _) (by simp)) J <| Um J J <| aA (fB J J) J <| aA (fB J J) J <| Ua J J <| Ua J J <| Nk [2,3,4,5,6] J <| Rg 7 J <| aA (aM (l := .agg [_, _]) J J J J J) J <| aA (aK J (gC _) (by simp)) J <| Um J J <| aA (fB J J) J <| aA (fB J J) J ?_
  refine Ua J J <| Ua J J <| Wn <| aL <| Rg 3 J <| Um J J <| aA (dV J J) J <| bB (fun h35 => ?_) (fun h35 => ?_)
  ·refine Ua J J <| Nk [2,3,4,5,6,7,8,33] J <| bY J <| Rg 2 J <| aA (aM (l := .agg [_, _]) J J J J J) J <| bH (cP (cs' := [_, _]) J J J J J J J J) <| Wn <| aN <| aP <| post (n := 0) (.inr J) J ?_ (by simp)
   rw [ia0 h35, Int.zero_add]; rfl
  refine Ua J J <| Nk [2,3,4,5,6,7,8,33] J <| bV J <| Rg 3 J <| Um J J <| aA (dV J J) J <| bB (fun h39 => ?_) (fun h39 => ?_)
  ·refine Ua J J <| Wn <| bY J <| Rg 2 J <| aA (aM (l := .agg [_, _]) J J J J J) J <| bH (cP (cs' := [_, _]) J J J J J J J J) <| Wn <| aN <| aP <| post (n := 0) (.inr J) J ?_ (by simp)
   rw [ia0 h39, Int.add_zero]; rfl
  refine Ua J J <| Wn <| bV J <| Rg 4 J <| Um J J <| Um J J <| aA (dV J J) J <| bB (fun h44 => ?_) (fun h44 => ?_)
  ·refine Ua J J <| Nk [4,5,6,7,8,41] J <| bY J ?_
   have hsv : v.sign = 1 ∨ v.sign = -1 := by rcases Int.sign_trichotomy v with h | h | h <;> omega
   obtain ⟨r, hr, ds, rfl, hdd, hvl, hln⟩ := plus_run 1 1 _ _ qv qw om om
   refine Rg 6 J <| Um J J <| Um J J <| Um J J <| aA (aK J (hr) (by simp)) J <| aA (aK J (gF v.sign 1 ds om (.inl J) hdd om) (by simp)) J <| bH (cP (cs' := [_, _]) J J J J J J J J) <| Wn <| aN <| aP <| post (n := 0) (.inr J) J ?_ (by simp)
   have : v.sign * (val B32 ds : Int) = v + w := by
    rw [hvl, dv, dw]; rcases hsv with h | h <;> rw [h] at ev h44 ⊢ <;> rw [← h44] at ew <;> omega
   rw [this]; rfl
  refine Ua J J <| Nk [4,5,6,7,8,41] J <| bV J <| Rg 5 J <| Um J J <| Um J J <| aA (aK J (lY 1 1 _ _ qv qw tv tw om om) (by simp)) J <| aA (hH J J) J <| bB (fun h54 => ?_) (fun h54 => ?_)
  ·refine Ua J J <| Wn <| bY J ?_
   have hsv : v.sign = 1 ∨ v.sign = -1 := by rcases Int.sign_trichotomy v with h | h | h <;> omega
   have hge : val B32 (dgs B32 w.natAbs) ≤ val B32 (dgs B32 v.natAbs) := by
    rcases Nat.lt_or_ge (val B32 (dgs B32 v.natAbs)) (val B32 (dgs B32 w.natAbs)) with h | h
    ·rw [Int.sign_eq_neg_one_of_neg om] at h54; omega
    ·exact h
   have hll : (dgs B32 w.natAbs).length ≤ (dgs B32 v.natAbs).length := by
    rcases Nat.lt_or_ge (dgs B32 v.natAbs).length (dgs B32 w.natAbs).length with h | h
    ·have := eJ (by decide) qv tw h; omega
    ·exact h
   obtain ⟨r, hr, ds, rfl, hdd, hvl, hln⟩ := mP 1 1 _ _ qv qw om hll hge
   refine Rg 6 J <| Um J J <| Um J J <| Um J J <| aA (aK J (hr) (by simp)) J <| aA (aK J (gF v.sign 1 ds om (.inl J) hdd om) (by simp)) J <| bH (cP (cs' := [_, _]) J J J J J J J J) <| Nk [4] J <| aN <| aP <| post (n := 0) (.inr J) J ?_ (by simp)
   have : v.sign * (val B32 ds : Int) = v + w := by
    rw [hvl, dv, dw] at *; rcases hsv with h | h <;> rw [h] at ev h44 ⊢ <;> rcases (show w.sign = 1 ∨ w.sign = -1 by rcases Int.sign_trichotomy w with h | h | h <;> omega) with k | k <;> rw [k] at ew h44 <;> omega
   rw [this]; rfl
  refine Ua J J <| Wn <| bV J <| cA <| aF ?_
  have hsv : w.sign = 1 ∨ w.sign = -1 := by rcases Int.sign_trichotomy w with h | h | h <;> omega
  have hge : val B32 (dgs B32 v.natAbs) ≤ val B32 (dgs B32 w.natAbs) := by
   rcases Nat.lt_or_ge (val B32 (dgs B32 w.natAbs)) (val B32 (dgs B32 v.natAbs)) with h | h
   ·rw [Int.sign_eq_one_of_pos om] at h54; omega
   ·exact h
  have hll : (dgs B32 v.natAbs).length ≤ (dgs B32 w.natAbs).length := by
   rcases Nat.lt_or_ge (dgs B32 w.natAbs).length (dgs B32 v.natAbs).length with h | h
   ·have := eJ (by decide) qw tv h; omega
   ·exact h
  obtain ⟨r, hr, ds, rfl, hdd, hvl, hln⟩ := mP 1 1 _ _ qw qv om hll hge
  refine Rg 6 J <| Um J J <| Um J J <| Um J J <| aA (aK J (hr) (by simp)) J <| aA (aK J (gF w.sign 1 ds om (.inl J) hdd om) (by simp)) J <| bH (cP (cs' := [_, _]) J J J J J J J J) <| Nk [4] J <| aN <| post (n := 0) (.inr J) J ?_ (by simp)
  have : w.sign * (val B32 ds : Int) = v + w := by
   rw [hvl, dv, dw] at *; rcases hsv with h | h <;> rw [h] at ew h44 ⊢ <;> rcases (show v.sign = 1 ∨ v.sign = -1 by rcases Int.sign_trichotomy v with h | h | h <;> omega) with k | k <;> rw [k] at ev h44 <;> omega
  rw [this]; rfl
 refine Um J J <| aE J (aU J J J J J) J <| aE J (aM J J J J J) J <| aE J (pY J J) J <| dT (fun h15 => ?_) (fun h15 => ?_)
 ·refine aA (bM J J) J <| Wn <| aT J <| aB <| Rg 7 J <| aA (aU J J J J J) J <| aA (aM J J J J J) J <| aA (aU J J J J J) J <| aA (aM J J J J J) J <| aA (aO J J om) J <| aA (aK J (pE _ om) (by simp)) J <| bH (cP (cs' := [_, _]) J J J J J J J J) <| Nk [4] J <| bI <| post (n := 0) (.inr J) J ?_ (by simp)
  rw [eA (pT.1 h11), eA (pT.1 h15)]; rfl
 refine aA (bM J J) J <| Wn <| aX J <| aH <| Rg 7 J <| aA (aM (l := .agg [_, _]) J J J J J) J <| aA (aK J (gC _) (by simp)) J <| Um J J <| aA (fB J J) J <| aA (fB J J) J <| Ua J J <| Ua J J <| Nk [2,3,4,5,6] J <| Rg 7 J <| aA (aM (l := .agg [_, _]) J J J J J) J <| aA (aK J (gC _) (by simp)) J <| Um J J <| aA (fB J J) J <| aA (fB J J) J <| Ua J J <| Ua J J <| Wn <| aL ?_
 refine Rg 3 J <| Um J J <| aA (dV J J) J <| bB (fun h35 => ?_) (fun h35 => ?_)
 ·refine Ua J J <| Nk [2,3,4,5,6,7,8,33] J <| bY J <| Rg 2 J <| aA (aM (l := .agg [_, _]) J J J J J) J <| bH (cP (cs' := [_, _]) J J J J J J J J) <| Wn <| aN <| aP <| post (n := 0) (.inr J) J ?_ (by simp)
  rw [ia0 h35, Int.zero_add]; rfl
 refine Ua J J <| Nk [2,3,4,5,6,7,8,33] J <| bV J <| Rg 3 J <| Um J J <| aA (dV J J) J <| bB (fun h39 => ?_) (fun h39 => ?_)
 ·refine Ua J J <| Wn <| bY J <| Rg 2 J <| aA (aM (l := .agg [_, _]) J J J J J) J <| bH (cP (cs' := [_, _]) J J J J J J J J) <| Wn <| aN <| aP <| post (n := 0) (.inr J) J ?_ (by simp)
  rw [ia0 h39, Int.add_zero]; rfl
 refine Ua J J <| Wn <| bV J <| Rg 4 J <| Um J J <| Um J J <| aA (dV J J) J <| bB (fun h44 => ?_) (fun h44 => ?_)
 ·refine Ua J J <| Nk [4,5,6,7,8,41] J <| bY J ?_
  have hsv : v.sign = 1 ∨ v.sign = -1 := by rcases Int.sign_trichotomy v with h | h | h <;> omega
  obtain ⟨r, hr, ds, rfl, hdd, hvl, hln⟩ := plus_run 1 1 _ _ qv qw om om
  refine Rg 6 J <| Um J J <| Um J J <| Um J J <| aA (aK J (hr) (by simp)) J <| aA (aK J (gF v.sign 1 ds om (.inl J) hdd om) (by simp)) J <| bH (cP (cs' := [_, _]) J J J J J J J J) <| Wn <| aN <| aP <| post (n := 0) (.inr J) J ?_ (by simp)
  have : v.sign * (val B32 ds : Int) = v + w := by
   rw [hvl, dv, dw]; rcases hsv with h | h <;> rw [h] at ev h44 ⊢ <;> rw [← h44] at ew <;> omega
  rw [this]; rfl
 refine Ua J J <| Nk [4,5,6,7,8,41] J <| bV J <| Rg 5 J <| Um J J <| Um J J <| aA (aK J (lY 1 1 _ _ qv qw tv tw om om) (by simp)) J <| aA (hH J J) J <| bB (fun h54 => ?_) (fun h54 => ?_)
 ·refine Ua J J <| Wn <| bY J ?_
  have hsv : v.sign = 1 ∨ v.sign = -1 := by rcases Int.sign_trichotomy v with h | h | h <;> omega
  have hge : val B32 (dgs B32 w.natAbs) ≤ val B32 (dgs B32 v.natAbs) := by
   rcases Nat.lt_or_ge (val B32 (dgs B32 v.natAbs)) (val B32 (dgs B32 w.natAbs)) with h | h
   ·rw [Int.sign_eq_neg_one_of_neg om] at h54; omega
   ·exact h
  have hll : (dgs B32 w.natAbs).length ≤ (dgs B32 v.natAbs).length := by
   rcases Nat.lt_or_ge (dgs B32 v.natAbs).length (dgs B32 w.natAbs).length with h | h
   ·have := eJ (by decide) qv tw h; omega
   ·exact h
  obtain ⟨r, hr, ds, rfl, hdd, hvl, hln⟩ := mP 1 1 _ _ qv qw om hll hge
  refine Rg 6 J <| Um J J <| Um J J <| Um J J <| aA (aK J (hr) (by simp)) J <| aA (aK J (gF v.sign 1 ds om (.inl J) hdd om) (by simp)) J <| bH (cP (cs' := [_, _]) J J J J J J J J) <| Nk [4] J <| aN <| aP <| post (n := 0) (.inr J) J ?_ (by simp)
  have : v.sign * (val B32 ds : Int) = v + w := by
   rw [hvl, dv, dw] at *; rcases hsv with h | h <;> rw [h] at ev h44 ⊢ <;> rcases (show w.sign = 1 ∨ w.sign = -1 by rcases Int.sign_trichotomy w with h | h | h <;> omega) with k | k <;> rw [k] at ew h44 <;> omega
  rw [this]; rfl
 refine Ua J J <| Wn <| bV J <| cA <| aF ?_
 have hsv : w.sign = 1 ∨ w.sign = -1 := by rcases Int.sign_trichotomy w with h | h | h <;> omega
 have hge : val B32 (dgs B32 v.natAbs) ≤ val B32 (dgs B32 w.natAbs) := by
  rcases Nat.lt_or_ge (val B32 (dgs B32 w.natAbs)) (val B32 (dgs B32 v.natAbs)) with h | h
  ·rw [Int.sign_eq_one_of_pos om] at h54; omega
  ·exact h
 have hll : (dgs B32 v.natAbs).length ≤ (dgs B32 w.natAbs).length := by
  rcases Nat.lt_or_ge (dgs B32 w.natAbs).length (dgs B32 v.natAbs).length with h | h
  ·have := eJ (by decide) qw tv h; omega
  ·exact h
 obtain ⟨r, hr, ds, rfl, hdd, hvl, hln⟩ := mP 1 1 _ _ qw qv om hll hge
 refine Rg 6 J <| Um J J <| Um J J <| Um J J <| aA (aK J (hr) (by simp)) J <| aA (aK J (gF w.sign 1 ds om (.inl J) hdd om) (by simp)) J <| bH (cP (cs' := [_, _]) J J J J J J J J) <| Nk [4] J <| aN <| post (n := 0) (.inr J) J ?_ (by simp)
 have : w.sign * (val B32 ds : Int) = v + w := by
  rw [hvl, dv, dw] at *; rcases hsv with h | h <;> rw [h] at ew h44 ⊢ <;> rcases (show v.sign = 1 ∨ v.sign = -1 by rcases Int.sign_trichotomy v with h | h | h <;> omega) with k | k <;> rw [k] at ev h44 <;> omega
 rw [this]; rfl
end Go.Proofs.YtohfklpfeilcpaaGreat
namespace Go.Proofs.YtohfklpfeilcpaaGreat
open Go.Ab Go.RowKit
theorem mul64_run (x y : Nat) (hx : x < 18446744073709551616) (hy : y < 18446744073709551616) : Run Tryz.prog T E0 (.call 148 [.v (.int .u64 (x : Int)), .v (.int .u64 (y : Int))] (.tup [.v (.int .u64 ((x * y / 18446744073709551616 : Nat) : Int)), .v (.int .u64 ((x * y % 18446744073709551616 : Nat) : Int))])) := by
 obtain ⟨p00, h00⟩ : ∃ p, p = (x % 4294967296) * (y % 4294967296) := ⟨_, rfl⟩
 obtain ⟨p10, h10⟩ : ∃ p, p = (x / 4294967296) * (y % 4294967296) := ⟨_, rfl⟩
 obtain ⟨p01, h01⟩ : ∃ p, p = (x % 4294967296) * (y / 4294967296) := ⟨_, rfl⟩
 obtain ⟨p11, h11⟩ : ∃ p, p = (x / 4294967296) * (y / 4294967296) := ⟨_, rfl⟩
 have b00 := jF (a := x % 4294967296) (b := y % 4294967296) om om
 have b10 := jF (a := x / 4294967296) (b := y % 4294967296) om om
 have b01 := jF (a := x % 4294967296) (b := y / 4294967296) om om
 have b11 := jF (a := x / 4294967296) (b := y / 4294967296) om om
 have hxy := mul_words h00 h10 h01 h11
 rw [← h00] at b00
 rw [← h10] at b10
 rw [← h01] at b01
 rw [← h11] at b11
 refine bL Tryz.func148 J J (dH J) <| Rg 2 J <| Ua J J <| Ua J J <| Wn <| Rg 3 J <| Um J J <| aA (gQ (v := .int .u64 ((x % 4294967296 : Nat) : Int)) J J (mask32 hx)) J <| Ua J J <| Wn <| Rg 3 J <| Um J J <| aA (cI (((x / 4294967296 : Nat) : Int)) (fS (s := 32) J J om) om) J <| Ua J J <| Wn <| Rg 3 J <| Um J J <| aA (gQ (v := .int .u64 ((y % 4294967296 : Nat) : Int)) J J (mask32 hy)) J <| Ua J J <| Wn <| Rg 3 J <| Um J J <| aA (cI (((y / 4294967296 : Nat) : Int)) (fS (s := 32) J J om) om) J <| Ua J J ?_
 refine Nk [0,1,6,7,8,9] J <| Rg 4 J <| Um J J <| Um J J <| aA (cI ((p00 : Int)) (nD J J) (by rw [← Int.natCast_mul, ← h00]; omega)) J <| Ua J J <| Wn <| Rg 7 J <| Um J J <| Um J J <| aA (cI ((p10 : Int)) (nD J J) (by rw [← Int.natCast_mul, ← h10]; omega)) J <| Um J J <| aA (cI (((p00 / 4294967296 : Nat) : Int)) (fS (s := 32) J J om) om) J <| aA (cI (((p10 + p00 / 4294967296 : Nat) : Int)) (kS J J) om) J <| Ua J J <| Nk [0,1,6,7,9,11] J <| Rg 3 J <| Um J J <| aA (gQ (v := .int .u64 (((p10 + p00 / 4294967296) % 4294967296 : Nat) : Int)) J J (mask32 om)) J <| Ua J J <| Wn <| Rg 3 J ?_
 refine Um J J <| aA (cI ((((p10 + p00 / 4294967296) / 4294967296 : Nat) : Int)) (fS (s := 32) J J om) om) J <| Ua J J <| Wn <| Rg 6 J <| Um J J <| Um J J <| Um J J <| aA (cI ((p01 : Int)) (nD J J) (by rw [← Int.natCast_mul, ← h01]; omega)) J <| aA (cI ((((p10 + p00 / 4294967296) % 4294967296 + p01 : Nat) : Int)) (kS J J) om) J <| Ua J J <| Nk [0,1,7,9,12,13] J <| Rg 9 J <| Um J J <| Um J J <| aA (cI ((p11 : Int)) (nD J J) (by rw [← Int.natCast_mul, ← h11]; omega)) J <| Um J J <| aA (cI (((p11 + (p10 + p00 / 4294967296) / 4294967296 : Nat) : Int)) (kS J J) om) J <| Um J J <| aA (cI (((((p10 + p00 / 4294967296) % 4294967296 + p01) / 4294967296 : Nat) : Int)) (fS (s := 32) J J om) om) J <| aA (cI (((x * y / 18446744073709551616 : Nat) : Int)) (kS J J) (by rw [hxy]; omega)) J <| Ua J J <| cJ ?_
 refine Ck [0,1,4] J <| Rg 4 J <| Um J J <| Um J J <| aA (cI (((x * y % 18446744073709551616 : Nat) : Int)) (nD J J) (by rw [← Int.natCast_mul]; rfl)) J <| Ua J J <| Wn <| aN ?_
 exact post (n := 0) (.inr J) J J (by simp)
theorem gP (v w : Int) (hv : len32 v < 549755813888) (hw : len32 w < 549755813888) : Run Tryz.prog T E0 (.call 117 [lvI v, lvI w] (lvI (v * w))) := by
 have bv := pS v
 have bw := pS w
 have ev := fP v
 have ew := fP w
 have evw : v * w = v.sign * w.sign * ((v.natAbs * w.natAbs : Nat) : Int) := by
  rw [Int.natCast_mul]; grind
 obtain ⟨σ, hσ⟩ : ∃ σ, σ = v.sign * w.sign := ⟨_, rfl⟩
 have hs3 : σ = 1 ∨ σ = -1 ∨ σ = 0 ∧ v.natAbs * w.natAbs = 0 := by
  rcases Int.sign_trichotomy v with h | h | h <;> rcases Int.sign_trichotomy w with k | k | k <;> rw [h, k] at hσ <;> simp at hσ <;> first | exact .inl hσ | exact .inr (.inl hσ) | skip
  all_goals (refine .inr (.inr ⟨hσ, ?_⟩); first | (rw [ia0 h]; simp; done) | (rw [ia0 k]; simp))
 rw [← hσ] at evw
 obtain ⟨xs, hxs⟩ : ∃ xs, xs = dgs B32 v.natAbs := ⟨_, rfl⟩
 obtain ⟨ys, hys⟩ : ∃ ys, ys = dgs B32 w.natAbs := ⟨_, rfl⟩
 have dv : val B32 xs = v.natAbs := by rw [hxs]; exact iS (by decide) _
 have dw : val B32 ys = w.natAbs := by rw [hys]; exact iS (by decide) _
 have qv : Dg B32 xs := by rw [hxs]; exact lC (by decide) _
 have qw : Dg B32 ys := by rw [hys]; exact lC (by decide) _
 have lv : xs.length < 549755813888 := by rw [hxs]; exact hv
 have lw : ys.length < 549755813888 := by rw [hys]; exact hw
 refine bL Tryz.func117 J J (dH J) ?_
 have J5 : ∀  (n : Nat) (hn : 3 ≤ n), WC Tryz.prog T E0 Tryz.f117.ntmps (codeR (codeR (codeOf Tryz.f117))) [(2, .ptr 0 0), (3, .ptr 1 0), (4, .ptr 2 0)] [(2, { cells := [.v (.int .i64 0), .sl 0 []], sz := 2, elem := 86, st := 0 }), (1, { cells := (lvI w).cells, sz := (lvI w).cells.length, elem := 86, st := 0 }), (0, { cells := (lvI v).cells, sz := (lvI v).cells.length, elem := 86, st := 0 })] n (Post T Tryz.f117.results.toList (lvI (v * w))) := by
  intro  n hn
  refine Rg 7 J <| aA (aM (l := .agg [_, _]) J J J J J) J <| aA (aK J ((hxs ▸ gC v)) (by simp)) J <| Um J J <| aA (fB J J) J <| aA (fB J J) J <| Ua J J <| Ua J J <| Wn <| Rg 7 J <| aA (aM (l := .agg [_, _]) J J J J J) J <| aA (aK J ((hys ▸ gC w)) (by simp)) J <| Um J J <| aA (fB J J) J <| aA (fB J J) J <| Ua J J <| Ua J J <| Nk [4,7,8,9,10] J <| Rg 7 J <| Um J J <| aA (aW J J) J <| Um J J <| aA (aW J J) J ?_
  refine aA (aO J J om) J <| bJ (oMk (a := xs.length + ys.length) (b := xs.length + ys.length) J J J J om om (by decide) om (by show 4 * (xs.length + ys.length) ≤ _; omega) om) J <| Ua J J <| Wn <| aB <| Rg 3 J <| Um J J <| aA (aW J J) J <| Um J J <| Nk [4,7,9,10,11,74,75,76] J <| aL <| bF (α := Nat × Nat × (List Nat)) (fun ⟨i, q, us⟩ => [(4, .ptr 2 0), (7, .v (.int .i64 v.sign)), (9, .v (.int .i64 w.sign)), (10, .sl 1 (ys.map d32)), (11, .ref q 1 0 us.length), (74, .sl 1 (xs.map d32)), (75, .v (.int .i64 (xs.length : Int))), (76, .v (.int .i64 (i : Int)))]) (fun ⟨i, q, us⟩ => [(q, { cells := (us.map d32).flatten, sz := 1, elem := 162, st := 0 }), (2, { cells := [.v (.int .i64 0), .sl 0 []], sz := 2, elem := 86, st := 0 })]) (fun ⟨i, q, us⟩ n => i ≤ xs.length ∧ us.length = xs.length + ys.length ∧ Dg B32 us ∧ val B32 us = val B32 (xs.take i) * val B32 ys ∧ (∀ j, i + ys.length ≤ j → us.getD j default = 0) ∧ 2 < q) (fun ⟨i, q, us⟩ => xs.length - i) (0, n + 7 + 7 + 5, List.replicate (xs.length + ys.length) 0) ⟨rfl, rfl, rfl, rfl, congrArg some (by rw [List.length_replicate]; rfl), rfl, rfl, rfl, trivial⟩ ⟨g0.trans (by rw [List.map_replicate]; rfl), g1 om J, trivial⟩ ⟨Nat.zero_le _, by simp, by intro d hd; simp at hd; rw [hd.2]; decide, by rw [nB]; simp [val], by intro j _; exact jQ _ _, om⟩ ?_
  rintro ⟨i, q, us⟩ n hF
  change WC _ _ _ _ _ (_ :: _) (_ :: _) n _
  obtain ⟨hi, hul, hud, huv, huz, hq⟩ := hF
  refine Rg 1 J <| aA (bZ J J) J <| bB (fun h77 => ?_) (fun h77 => ?_)
  rotate_left
  ·refine Wn <| aX J <| bA <| aS <| aR J ?_
   have hE : val B32 us = v.natAbs * w.natAbs := by
    rw [huv, List.take_of_length_le om, dv, dw]
   refine Rg 6 J <| Um J J <| Um J J <| aA (cI σ (gH J J (by rw [← hσ]; omega)) hσ.symm) J <| Um J J <| bJ (mC [.v (.int .i64 σ), .sl 1 (us.map d32)] [(q, { cells := (us.map d32).flatten, sz := 1, elem := 162, st := 1 })] J (gF σ 1 us (by rw [hE]; exact hs3) (.inl J) hud om) (.data (by simp) (.own _ (by simp) g0 (by show (0 : Nat) ≠ 2; decide) J (by decide) (by simp [keys]) J jC eL .nil)) (by intro p hp; simp at hp; subst hp; exact ⟨_, g0, by show (0 : Nat) ≠ 2; decide, rfl⟩)) J <| bH (cP (cs' := [_, _]) J J J (g1 om (g1 om J)) J J J J) <| Wn <| aN <| post (n := 0) (.inr J) J ?_ (by simp)
   rw [evw, ← hE]; rfl
  refine Wn <| aT J <| aH <| aL <| Rg 5 J <| Um J J <| aA (cG J J J J J om J) J <| aA (dY J J J) J <| Ua J J <| Ua J J <| Wn <| Rg 1 J <| Ua J J <| Nk [4,7,9,10,11,12,13,14,74,75,76] J <| aB <| Rg 3 J <| Um J J <| aA (aW J J) J <| Um J J <| Wn <| aL <| bF (α := Nat × Nat × (List Nat)) (fun ⟨k, c, us1⟩ => [(4, .ptr 2 0), (7, .v (.int .i64 v.sign)), (9, .v (.int .i64 w.sign)), (10, .sl 1 (ys.map d32)), (11, .ref q 1 0 us1.length), (12, .v (.int .i64 (i : Int))), (13, .v (.int .u32 (xs.getD i default : Int))), (14, .v (.int .u64 (c : Int))), (74, .sl 1 (xs.map d32)), (75, .v (.int .i64 (xs.length : Int))), (76, .v (.int .i64 (i : Int))), (81, .sl 1 (ys.map d32)), (82, .v (.int .i64 (ys.length : Int))), (83, .v (.int .i64 (k : Int)))]) (fun ⟨k, c, us1⟩ => [(q, { cells := (us1.map d32).flatten, sz := 1, elem := 162, st := 0 }), (2, { cells := [.v (.int .i64 0), .sl 0 []], sz := 2, elem := 86, st := 0 })]) (fun ⟨k, c, us1⟩ n => k ≤ ys.length ∧ us1.length = us.length ∧ Dg B32 us1 ∧ c < 4294967296 ∧ val B32 us1 + B32 ^ (i + k) * c = val B32 us + B32 ^ i * (xs.getD i default * val B32 (ys.take k)) ∧ (∀ j, i + k ≤ j → us1.getD j default = us.getD j default)) (fun ⟨k, c, us1⟩ => ys.length - k) (0, 0, us) ⟨J, J, J, J, J, J, J, J, J, J, J, J, J, J, trivial⟩ ⟨g0, g1 om J, trivial⟩ ⟨Nat.zero_le _, rfl, hud, by decide, by simp [val], fun _ _ => rfl⟩ ?_
  rintro ⟨k, c, us1⟩ n hG
  change WC _ _ _ _ _ (_ :: _) (_ :: _) n _
  obtain ⟨hk, hl1, hd1, hc1, hv1, hz1⟩ := hG
  refine Rg 1 J <| aA (bZ J J) J <| bB (fun h84 => ?_) (fun h84 => ?_)
  rotate_left
  ·refine Nk [4,7,9,10,11,12,13,14,74,75,76,81,82,83,84] J <| aX J <| bA <| aS <| aR J <| Ck [4,7,9,10,11,12,14,74,75,76] J <| aI (z := 9) J <| Um J J <| Um J J <| Um J J <| aA (aW J J) J <| aA (cI (((i + ys.length : Nat) : Int)) (aO J J om) om) J <| Um J J <| aA (cI ((c : Int)) (cN J J J) (by rw [IntKind.wrap_u32]; omega)) J <| aA (cH J J J J J om J) J <| bH (fG (f := d32) (us := us1) c J J J g0 (fun _ => rfl) J J om J) <| Wn <| aF <| Ck [4,7,9,10,11,74,75,76] J <| aI (z := 2) J <| aA (cI (((i + 1 : Nat) : Int)) (aO J J om) om) J <| Um J J <| cJ ?_
   refine aG <| ⟨⟨i + 1, q, us1.set (i + ys.length) c⟩, ⟨rfl, rfl, rfl, rfl, congrArg some (by rw [List.length_set]), rfl, rfl, rfl, trivial⟩, ⟨g0, g1 om (g1 om J), trivial⟩, ⟨om, by rw [List.length_set]; omega, hd1.set _ hc1, ?_, ?_, hq⟩, by show xs.length - (i + 1) < xs.length - i; omega⟩
   ·have hk' : k = ys.length := by omega
    subst hk'
    have h1 := iA (B := B32) us1 (i + ys.length) c om
    rw [hz1 _ (Nat.le_refl _), huz _ (Nat.le_refl _), Nat.mul_zero, Nat.add_zero] at h1
    rw [h1, hv1, huv, cQ, List.take_of_length_le (Nat.le_refl _), Nat.add_mul, Nat.mul_assoc]
   ·intro j hj
    rw [gV om, hz1 j om]; exact huz j om
  refine Nk [4,7,9,10,11,12,13,14,74,75,76,81,82,83,84] J <| aT J <| aH <| aL <| Rg 5 J <| Um J J <| aA (cG J J J J J om J) J <| aA (dY J J J) J <| Ua J J <| Ua J J <| Nk [4,7,9,10,11,12,13,14,15,16,74,75,76,81,82,83] J ?_
  have hp : xs.getD i default < 4294967296 := bP qv om
  have hqk : ys.getD k default < 4294967296 := bP qw om
  have ho : us1.getD (i + k) default < 4294967296 := bP hd1 om
  have hpq := jF hp hqk
  refine Rg 16 J <| Um J J <| Um J J <| aA (cI ((xs.getD i default : Int)) (cN J J J) (by rw [IntKind.wrap_u64]; omega)) J <| Um J J <| aA (cI ((ys.getD k default : Int)) (cN J J J) (by rw [IntKind.wrap_u64]; omega)) J <| aA (cI (((xs.getD i default * ys.getD k default : Nat) : Int)) (nD J J) (by rw [← Int.natCast_mul]; omega)) J <| Um J J <| Um J J <| Um J J <| aA (cI (((i + k : Nat) : Int)) (aO J J om) om) J <| aA (cH J J J J J om J) J <| aA (eC (f := d32) (us := us1) (j := i + k) J J g0 (fun _ => rfl) J (by decide) om J) J <| aA (cI ((us1.getD (i + k) default : Int)) (cN J J J) (by rw [IntKind.wrap_u64]; omega)) J <| aA (cI (((xs.getD i default * ys.getD k default + us1.getD (i + k) default : Nat) : Int)) (kS J J) om) J <| aA (cI ((((c + (xs.getD i default * ys.getD k default + us1.getD (i + k) default)) : Nat) : Int)) (kS J J) om) J <| Ua J J <| Nk [4,7,9,10,11,12,13,14,15,74,75,76,81,82,83] J <| Rg 8 J <| Um J J <| Um J J <| Um J J <| aA (cI (((i + k : Nat) : Int)) (aO J J om) om) J ?_
  refine Um J J <| aA (cI ((((c + (xs.getD i default * ys.getD k default + us1.getD (i + k) default)) % 4294967296 : Nat) : Int)) (cN J J J) (by rw [IntKind.wrap_u32]; omega)) J <| aA (cH J J J J J om J) J <| bH (fG (f := d32) (us := us1) ((c + (xs.getD i default * ys.getD k default + us1.getD (i + k) default)) % 4294967296) J J J g0 (fun _ => rfl) J J om J) <| Nk [4,7,9,10,11,12,13,14,74,75,76,81,82,83] J <| aI (z := 3) J <| Um J J <| aA (cI ((((c + (xs.getD i default * ys.getD k default + us1.getD (i + k) default)) / 4294967296 : Nat) : Int)) (fS (s := 32) J J om) om) J <| Ua J J <| Wn <| aF <| Ck [4,7,9,10,11,12,13,14,74,75,76,81,82,83] J <| aI (z := 2) J <| aA (cI (((k + 1 : Nat) : Int)) (aO J J om) om) J <| Um J J <| Wn <| aG <| ⟨⟨k + 1, (c + (xs.getD i default * ys.getD k default + us1.getD (i + k) default)) / 4294967296, us1.set (i + k) ((c + (xs.getD i default * ys.getD k default + us1.getD (i + k) default)) % 4294967296)⟩, ⟨rfl, rfl, rfl, rfl, congrArg some (by rw [List.length_set]), rfl, rfl, rfl, rfl, rfl, rfl, rfl, rfl, rfl, trivial⟩, ⟨g0, g1 om (g1 om J), trivial⟩, ⟨om, by rw [List.length_set]; exact hl1, hd1.set _ (Nat.mod_lt _ (by decide)), om, mul_step hv1 om, ?_⟩, by show ys.length - (k + 1) < ys.length - k; omega⟩
  intro j hj
  rw [gV om]; exact hz1 j om
 refine Rg 3 J <| bJ (eO J J) J <| bJ (eO J J) J <| bJ (fD J) J <| Wn <| aB <| Rg 8 J <| aA (aU J J J J J) J <| aA (aM J J J J J) J <| aA (pY J J) J <| dT (fun h19 => ?_) (fun h19 => ?_)
 rotate_left
 ·refine Um J J <| K1 J J <| K1 J J <| K1 J J <| aA (bK J J) J <| Wn <| aX J <| aH <| Ck [2,3,4] J ?_
  exact J5 _ om
 refine Um J J <| aE J (aU J J J J J) J <| aE J (aM J J J J J) J <| aE J (pY J J) J <| dT (fun h23 => ?_) (fun h23 => ?_)
 rotate_left
 ·refine aA (bM J J) J <| Wn <| aX J <| aH <| Ck [2,3,4] J ?_
  exact J5 _ om
 refine aA (bM J J) J <| Wn <| aT J <| aB ?_
 have hia := eA (pT.1 h19)
 have hiw := eA (pT.1 h23)
 refine Rg 20 J <| aA (aU J J J J J) J <| aA (aM J J J J J) J <| aA (aU J J J J J) J <| aA (aM J J J J J) J <| aA (gI J om) J <| aA (cI (((v.natAbs : Nat) : Int)) (oMax J J) (by rw [hia]; split <;> omega)) J <| aA (cI (((v.natAbs : Nat) : Int)) (cN J J J) (by rw [IntKind.wrap_u64]; omega)) J <| aA (aU J J J J J) J <| aA (aM J J J J J) J <| aA (aU J J J J J) J <| aA (aM J J J J J) J <| aA (gI J om) J <| aA (cI (((w.natAbs : Nat) : Int)) (oMax J J) (by rw [hiw]; split <;> omega)) J <| aA (cI (((w.natAbs : Nat) : Int)) (cN J J J) (by rw [IntKind.wrap_u64]; omega)) J <| aA (aK J (mul64_run v.natAbs w.natAbs om om) (by simp)) J <| Um J J <| aA (fB J J) J <| aA (fB J J) J <| Ua J J <| Ua J J <| Nk [2,3,4,5,6] J <| aB ?_
 refine Rg 6 J <| Um J J <| aA (dV J J) J <| bB (fun h44 => ?_) (fun h44 => ?_)
 rotate_left
 ·refine Um J J <| K1 J J <| K1 J J <| aA (bK J J) J <| Wn <| aX J <| aH <| Ck [2,3,4] J ?_
  exact J5 _ om
 refine Um J J <| aE J (dK J) J <| aE J (bZ J J) J <| bB (fun h47 => ?_) (fun h47 => ?_)
 rotate_left
 ·refine aA (bM J J) J <| Wn <| aX J <| aH <| Ck [2,3,4] J ?_
  exact J5 _ om
 refine aA (bM J J) J <| Wn <| aT J <| aB <| bR (z := 10) J kR <| aC (aM (l := .agg [_, _]) J J J J J) J <| aC (aK J (kT _) (by simp)) J <| aC (aM (l := .agg [_, _]) J J J J J) J <| aC (aK J (kT _) (by simp)) J <| aC (cI σ (gH J J (by rw [← hσ]; omega)) hσ.symm) J <| Dm J J <| aC (cI (((v.natAbs * w.natAbs : Nat) : Int)) (cN J J J) (by rw [IntWalk.i64_in _ om]; omega)) J <| aC (gH J J (by rcases hs3 with h | h | ⟨h, _⟩ <;> rw [h] <;> omega)) J <| aC (gS (cs := [_, _]) J J J J J) J <| cO (cP (cs' := [_, _]) J J J J J J J J) <| bG (aQ kR) J <| Ck [4] J <| bI <| post (n := 0) (.inr J) J ?_ (by simp)
 rw [evw, kQ (by unfold small; rcases hs3 with h | h | ⟨h, _⟩ <;> rw [h] <;> omega)]; rfl
end Go.Proofs.YtohfklpfeilcpaaGreat
namespace Go.Proofs.YtohfklpfeilcpaaGreat
open Go.Ab Go.RowKit
theorem div32_run (hi lo y : Nat) (hh : hi < y) (hl : lo < 4294967296) (hy : y < 4294967296) : Run Tryz.prog T E0 (.call 163 [.v (.int .u32 (hi : Int)), .v (.int .u32 (lo : Int)), .v (.int .u32 (y : Int))] (.tup [.v (.int .u32 (((hi * 4294967296 + lo) / y : Nat) : Int)), .v (.int .u32 (((hi * 4294967296 + lo) % y : Nat) : Int))])) := by
 have hq : (hi * 4294967296 + lo) / y < 4294967296 := by
  rw [Nat.div_lt_iff_lt_mul om]; have := Nat.mul_le_mul_left 4294967296 (show hi + 1 ≤ y from hh); omega
 have hr : (hi * 4294967296 + lo) % y < y := Nat.mod_lt _ om
 obtain ⟨Q, hQ⟩ : ∃ Q, Q = (hi * 4294967296 + lo) / y := ⟨_, rfl⟩
 obtain ⟨R, hR⟩ : ∃ R, R = (hi * 4294967296 + lo) % y := ⟨_, rfl⟩
 rw [← hQ] at hq
 rw [← hR] at hr
 refine bL Tryz.func163 J J (dH J) <| Rg 2 J <| Ua J J <| Ua J J <| Wn <| aB <| Rg 7 J <| Um J J <| aA (gJ J J) J <| bB (fun h10 => ?_) (fun h10 => ?_)
 rotate_left
 ·omega
 refine Um J J <| aE J (dK J) J <| aE J (dK J) J <| aE J (nL J J) J <| bB (fun h14 => ?_) (fun h14 => ?_)
 ·omega
 refine aA (bM J J) J <| Wn <| aX J <| aH <| Rg 7 J <| Um J J <| aA (cI ((hi : Int)) (cN J J J) (by rw [IntKind.wrap_u64]; omega)) J <| aA (cI (((hi * 4294967296 : Nat) : Int)) (oShlU (s := 32) J J om) om) J <| Um J J <| aA (cI ((lo : Int)) (cN J J J) (by rw [IntKind.wrap_u64]; omega)) J <| aA (gQ (v := .int .u64 (((hi * 4294967296 + lo) : Nat) : Int)) J J (or_hi om hl)) J <| Ua J J <| Nk [2,8] J <| bR (z := 12) J kR <| Dm J J <| Dm J J <| aC (cI ((y : Int)) (cN J J J) (by rw [IntKind.wrap_u64]; omega)) J <| aC (cI ((Q : Int)) (oQuoU J J om om) (by rw [hQ])) J <| aC (cI ((Q : Int)) (cN J J J) (by rw [IntKind.wrap_u32]; omega)) J <| Dm J J <| Dm J J <| aC (cI ((y : Int)) (cN J J J) (by rw [IntKind.wrap_u64]; omega)) J <| aC (cI ((R : Int)) (oRemU J J om) (by rw [hR])) J ?_
 refine aC (cI ((R : Int)) (cN J J J) (by rw [IntKind.wrap_u32]; omega)) J <| aC (gX J) J <| aC (gX J) J <| bG (aQ kR) J <| aN ?_
 exact post (n := 0) (.inr J) J (by rw [← hQ, ← hR]; rfl) (by simp)
theorem short_run (k0 : Nat) (xs : List Nat) (y : Nat) (hx : Dg B32 xs) (hy : 0 < y) (hy2 : y < 4294967296) (lx : xs.length < 1099511627776) : ∃ r, Run Tryz.prog T E0 (.call 157 [.sl k0 (xs.map d32), .v (.int .u32 (y : Int))] r) ∧ ∃ ds rest, r = .tup [.sl 1 (ds.map d32), .v (.int .u32 ((rest : Nat) : Int))] ∧ Dg B32 ds ∧ rest < y ∧ val B32 ds * y + rest = val B32 xs ∧ ds.length = xs.length := by
 refine iT Tryz.func157 J J (dH J) <| Rg 2 J <| Ua J J <| Ua J J <| Wn <| Rg 4 J <| Um J J <| aA (aW J J) J <| bJ (oMk (a := xs.length) (b := xs.length) J J J J om om (by decide) om (by show 4 * xs.length ≤ _; omega) om) J <| Ua J J <| Wn <| Rg 1 J <| Ua J J <| Wn <| aB <| Rg 4 J <| Um J J <| aA (aW J J) J <| aA (cE J J om) J <| Ua J J <| Wn <| aL <| bF (α := Nat × Nat × (List Nat)) (fun ⟨k, rest, us⟩ => [(0, .sl k0 (xs.map d32)), (1, .v (.int .u32 (y : Int))), (6, .ref (0 + 2 + 2) 1 0 us.length), (7, .v (.int .u32 (rest : Int))), (8, .v (.int .i64 ((k : Int) - 1)))]) (fun ⟨k, rest, us⟩ => [(0 + 2 + 2, { cells := (us.map d32).flatten, sz := 1, elem := 162, st := 0 })]) (fun ⟨k, rest, us⟩ n => k ≤ xs.length ∧ us.length = xs.length ∧ Dg B32 us ∧ rest < y ∧ val B32 (us.drop k) * y + rest = val B32 (xs.drop k)) (fun ⟨k, rest, us⟩ => k) (xs.length, 0, List.replicate xs.length 0) ⟨rfl, rfl, congrArg some (by rw [List.length_replicate]; rfl), rfl, rfl, trivial⟩ ⟨g0.trans (by rw [List.map_replicate]; rfl), trivial⟩ ⟨Nat.le_refl _, by simp, by intro d hd; simp at hd; rw [hd.2]; decide, hy, by simp [val]⟩ ?_
 rintro ⟨k, rest, us⟩ n hF
 change WC _ _ _ _ _ (_ :: _) (_ :: _) n _
 obtain ⟨hk, hul, hud, hrest, huv⟩ := hF
 refine aB <| Rg 2 J <| Um J J <| aA (hH J J) J <| bB (fun h16 => ?_) (fun h16 => ?_)
 rotate_left
 ·refine Wn <| aX J <| bA <| aS <| aR J <| Rg 4 J <| Um J J <| Um J J <| Ua J J <| Ua J J <| Wn <| aN <| ⟨.tup [.sl 1 (us.map d32), .v (.int .u32 (rest : Int))], ⟨us, rest, rfl, hud, hrest, ?_, hul⟩, postA (n := 0) [(0 + 2 + 2, { cells := (us.map d32).flatten, sz := 1, elem := 162, st := 1 })] (.inr J) J (.own _ (by simp) J (by show (0 : Nat) ≠ 2; decide) J (by decide) (by simp [keys]) J jC eL (.data (by simp) .nil)) (by intro p hp; simp at hp; subst hp; exact ⟨_, rfl, by show (0 : Nat) ≠ 2; decide, rfl⟩)⟩
  have h0 : k = 0 := by omega
  subst h0
  simpa using huv
 refine Wn <| aT J <| aH <| aL ?_
 have hxl : xs.getD (k - 1) default < 4294967296 := bP hx om
 have hq : (rest * 4294967296 + xs.getD (k - 1) default) / y < 4294967296 := by
  rw [Nat.div_lt_iff_lt_mul hy]; have := Nat.mul_le_mul_left 4294967296 (show rest + 1 ≤ y from hrest); omega
 refine aI (z := 15) J <| Um J J <| Um J J <| Um J J <| Um J J <| Um J J <| aA (cG (j := k - 1) J J J J om om J) J <| aA (dY J J J) J <| Um J J <| aA (aK J (div32_run rest (xs.getD (k - 1) default) y hrest hxl hy2) (by simp)) J <| Um J J <| aA (fB J J) J <| aA (fB J J) J <| aA (cH (j := k - 1) J J J J om om J) J <| bH (fG (f := d32) (us := us) ((rest * 4294967296 + xs.getD (k - 1) default) / y) J J J g0 (fun _ => rfl) J J om J) <| Ua J J <| Wn <| aF <| Ck [0,1,6,7,8] J <| aI (z := 3) J <| Um J J <| aA (cI (((k - 1 : Nat) : Int) - 1) (cE J J om) om) J <| Ua J J <| cJ ?_
 refine aG ?_
 have hj : k - 1 + 1 = k := by omega
 refine ⟨⟨k - 1, (rest * 4294967296 + xs.getD (k - 1) default) % y, us.set (k - 1) ((rest * 4294967296 + xs.getD (k - 1) default) / y)⟩, ⟨rfl, rfl, congrArg some (by rw [List.length_set]), rfl, rfl, trivial⟩, ⟨g0, trivial⟩, ⟨om, by rw [List.length_set]; exact hul, hud.set _ hq, Nat.mod_lt _ hy, ?_⟩, by show k - 1 < k; omega⟩
 exact short_step hy (by rw [hj]; exact huv) om om
end Go.Proofs.YtohfklpfeilcpaaGreat
namespace Go.Proofs.YtohfklpfeilcpaaGreat
open Go.Ab Go.RowKit
theorem qC (k0 : Nat) (xs : List Nat) (sh : Nat) (hx : Dg B32 xs) (hn : sh < 32) (lx : xs.length < 1099511627776) : ∃ sz len ob, Run Tryz.prog T E0 (.callO 165 [.sl k0 (xs.map d32), .v (.int .i64 (sh : Int))] (.ref 0 sz 0 len) ob) ∧ ∃ ds, sz = 1 ∧ len = ds.length ∧ ob = { cells := (ds.map d32).flatten, sz := 1, elem := 162, st := 0 } ∧ Dg B32 ds ∧ val B32 ds = val B32 xs * 2 ^ sh ∧ ds.length = xs.length + 1 := by
 have hp : (2 : Nat) ^ sh ≤ 2 ^ 31 := Nat.pow_le_pow_right (by decide) om
 have hp0 : 0 < (2 : Nat) ^ sh := Nat.pow_pos (by decide)
 refine mkcallO Tryz.func165 J J (dH J) <| Rg 1 J <| Ua J J <| Wn <| Rg 5 J <| Um J J <| aA (aW J J) J <| aA (aO J J om) J <| bJ (oMk (a := xs.length + 1) (b := xs.length + 1) J J J J om om (by decide) om (by show 4 * (xs.length + 1) ≤ _; omega) om) J <| Ua J J <| Wn <| aB <| Rg 3 J <| Um J J <| aA (aW J J) J <| Um J J <| Wn <| aL <| bF (α := Nat × (List Nat)) (fun ⟨i, us⟩ => [(1, .v (.int .i64 (sh : Int))), (5, .ref (0 + 1 + 3) 1 0 us.length), (13, .sl k0 (xs.map d32)), (14, .v (.int .i64 (xs.length : Int))), (15, .v (.int .i64 (i : Int)))]) (fun ⟨i, us⟩ => [(0 + 1 + 3, { cells := (us.map d32).flatten, sz := 1, elem := 162, st := 0 })]) (fun ⟨i, us⟩ n => i ≤ xs.length ∧ us.length = xs.length + 1 ∧ Dg B32 us ∧ val B32 us = val B32 (xs.take i) * 2 ^ sh ∧ (∀ j, i < j → us.getD j default = 0) ∧ us.getD i default < 2 ^ sh) (fun ⟨i, us⟩ => xs.length - i) (0, List.replicate (xs.length + 1) 0) ⟨rfl, congrArg some (by rw [List.length_replicate]; rfl), rfl, rfl, rfl, trivial⟩ ⟨g0.trans (by rw [List.map_replicate]; rfl), trivial⟩ ⟨Nat.zero_le _, by simp, by intro d hd; simp at hd; rw [hd]; decide, by rw [nB]; simp [val], fun j _ => jQ _ _, by rw [jQ]; exact hp0⟩ ?_
 rintro ⟨i, us⟩ n hF
 change WC _ _ _ _ _ (_ :: _) (_ :: _) n _
 obtain ⟨hi, hul, hud, huv, huz, hlo⟩ := hF
 refine Rg 1 J <| aA (bZ J J) J <| bB (fun h16 => ?_) (fun h16 => ?_)
 rotate_left
 ·refine Wn <| aX J <| bA <| aS <| aR J <| Rg 2 J <| Um J J <| Ua J J <| Wn <| aN <| ⟨1, us.length, _, ⟨us, rfl, rfl, rfl, hud, ?_, hul⟩, .inr J, _, rfl, rfl, rfl, rfl, by intro c hc; obtain ⟨row, hr, hc⟩ := List.mem_flatten.1 hc; exact eL row hr c hc⟩
  rw [huv, List.take_of_length_le om]
 refine Wn <| aT J <| aH <| aL <| Rg 5 J <| Um J J <| aA (cG J J J J J om J) J <| aA (dY J J J) J <| Ua J J <| Ua J J <| cJ ?_
 have hxl : xs.getD i default < 4294967296 := bP hx om
 have hw : (xs.getD i default * 2 ^ sh) < 9223372036854775808 := by
  have := Nat.mul_lt_mul_of_lt_of_le hxl hp (by decide); omega
 have hor := shift_or hn hlo hxl
 have hhi := shift_hi (n := sh) hxl
 have hol : us.getD i default < 4294967296 := by omega
 refine Rg 5 J <| Um J J <| aA (cI ((xs.getD i default : Int)) (cN J J J) (by rw [IntKind.wrap_u64]; omega)) J <| Um J J <| aA (cI ((((xs.getD i default * 2 ^ sh) : Nat) : Int)) (oShlU (s := sh) J J om) (by rw [show ((xs.getD i default : Nat) : Int) * 2 ^ sh = (((xs.getD i default * 2 ^ sh) : Nat) : Int) by simp]; omega)) J <| Ua J J <| Nk [1,5,6,8,13,14,15] J <| Rg 9 J <| Um J J <| Um J J <| aA (cH J J J J J om J) J <| aA (eC (f := d32) (us := us) (j := i) J J g0 (fun _ => rfl) J (by decide) om J) J <| Um J J <| aA (cI ((((xs.getD i default * 2 ^ sh) % 4294967296 : Nat) : Int)) (cN J J J) (by rw [IntKind.wrap_u32]; omega)) J <| aA (gQ (v := .int .u32 (((us.getD i default + (xs.getD i default * 2 ^ sh) % 4294967296) : Nat) : Int)) J J ((or32 hol om).trans (by rw [hor.1]))) J <| aA (cH J J J J J om J) J <| bH (fG (f := d32) (us := us) (us.getD i default + (xs.getD i default * 2 ^ sh) % 4294967296) J J J g0 (fun _ => rfl) J J om J) <| Nk [1,5,6,8,13,14,15] J <| aI (z := 8) J <| Um J J <| Um J J <| aA (cI (((i + 1 : Nat) : Int)) (aO J J om) om) J ?_
 refine Um J J <| aA (cI ((((xs.getD i default * 2 ^ sh) / 4294967296 : Nat) : Int)) (fS (s := 32) J J om) om) J <| aA (cI ((((xs.getD i default * 2 ^ sh) / 4294967296 : Nat) : Int)) (cN J J J) (by rw [IntKind.wrap_u32]; omega)) J <| aA (cH J J J J J om J) J <| bH (fG (f := d32) (us := us.set i (us.getD i default + (xs.getD i default * 2 ^ sh) % 4294967296)) ((xs.getD i default * 2 ^ sh) / 4294967296) J J J g0 (fun _ => rfl) J J (by rw [List.length_set]; omega) J) <| Wn <| aF <| aI (z := 2) J <| aA (cI (((i + 1 : Nat) : Int)) (aO J J om) om) J <| Um J J <| Wn <| aG <| ⟨⟨i + 1, (us.set i (us.getD i default + (xs.getD i default * 2 ^ sh) % 4294967296)).set (i + 1) ((xs.getD i default * 2 ^ sh) / 4294967296)⟩, ⟨rfl, congrArg some (by rw [List.length_set, List.length_set]), rfl, rfl, rfl, trivial⟩, ⟨g0, trivial⟩, ⟨om, by rw [List.length_set, List.length_set]; exact hul, (hud.set _ hor.2).set _ (by show _ < 4294967296; omega), shift_step (by decide) huv om (huz _ om), ?_, ?_⟩, by show xs.length - (i + 1) < xs.length - i; omega⟩
 ·intro j hj
  rw [gV om, gV om]; exact huz j om
 ·have : ((us.set i (us.getD i default + (xs.getD i default * 2 ^ sh) % 4294967296)).set (i + 1) ((xs.getD i default * 2 ^ sh) / 4294967296)).getD (i + 1) default = (xs.getD i default * 2 ^ sh) / 4294967296 := by
   rw [List.getD_eq_getElem?_getD, List.getElem?_set_self (by simp; omega)]; rfl
  rw [this]; exact hhi
theorem len32_run (x : Nat) (hx : x < 4294967296) : Run Tryz.prog T E0 (.call 169 [.v (.int .u32 (x : Int))] (.v (.int .i64 ((blen x : Nat) : Int)))) := by
 refine bL Tryz.func169 J J (dH J) ?_
 have J7 : ∀ (y k : Nat) (hy : y < 256) (hk : k ≤ 24) (he : blen x = blen y + k) (n : Nat) , WC Tryz.prog T E0 Tryz.f169.ntmps (codeR (codeR (codeR (codeOf Tryz.f169)))) [(0, .v (.int .u32 (y : Int))), (2, .v (.int .i64 (k : Int)))] [] n (Post T Tryz.f169.results.toList (.v (.int .i64 ((blen x : Nat) : Int)))) := by
  intro y k hy hk he n
  have hyb := qO (n := 8) hy
  refine Rg 7 J <| Um J J <| Um J J <| aA (cI ((y : Int)) (cN J J J) (by rw [IntKind.wrap_u8]; omega)) J <| aA (cI (((blen y : Nat) : Int)) (oIxS (bs := tab8) (n := (y : Int)) J kR J om (tab8_get hy)) (congrArg Int.ofNat (tab8_val hy))) J <| aA (cI (((blen y : Nat) : Int)) (cN J J J) (by rw [IntWalk.i64_in _ om])) J <| aA (aO J J om) J <| Ua J J <| Wn <| aN ?_
  exact post (n := 0) (.inr J) J (congrArg (fun z => LV.v (.int .i64 z)) om) (by simp)
 refine Rg 1 J <| Ua J J <| Wn <| aB <| Rg 2 J <| Um J J <| aA (hH J J) J <| bB (fun h4 => ?_) (fun h4 => ?_)
 rotate_left
 ·refine Wn <| aX J <| aH <| aB <| Rg 2 J <| Um J J <| aA (hH J J) J <| bB (fun h8 => ?_) (fun h8 => ?_)
  rotate_left
  ·refine Wn <| aX J <| aH <| Ck [0,2] J ?_
   first | exact J7 (x / 65536) 16 om om (iX (x := x) (k := 16) om) _ | exact J7 x 0 om om rfl _
  refine Wn <| aT J <| aB <| Rg 3 J <| Um J J <| aA (cI (((x / 256 : Nat) : Int)) (oShr32 (s := 8) J J om) om) J <| Ua J J <| Wn <| Rg 3 J <| Um J J <| aA (aO J J om) J <| Ua J J <| Nk [0,2] J ?_
  first | exact J7 (x / 65536 / 256) 24 om om (by rw [iX (x := x) (k := 16) om, iX (x := x / 2 ^ 16) (k := 8) om]) _ | exact J7 (x / 256) 8 om om (iX (x := x) (k := 8) om) _
 refine Wn <| aT J <| aB <| Rg 3 J <| Um J J <| aA (cI (((x / 65536 : Nat) : Int)) (oShr32 (s := 16) J J om) om) J <| Ua J J <| Wn <| Rg 1 J <| Ua J J <| Wn <| aB <| Rg 2 J <| Um J J <| aA (hH J J) J <| bB (fun h8 => ?_) (fun h8 => ?_)
 rotate_left
 ·refine Wn <| aX J <| aH <| Ck [0,2] J ?_
  first | exact J7 (x / 65536) 16 om om (iX (x := x) (k := 16) om) _ | exact J7 x 0 om om rfl _
 refine Wn <| aT J <| aB <| Rg 3 J <| Um J J <| aA (cI (((x / 65536 / 256 : Nat) : Int)) (oShr32 (s := 8) J J om) om) J <| Ua J J <| Wn <| Rg 3 J <| Um J J <| aA (aO J J om) J <| Ua J J <| Nk [0,2] J ?_
 first | exact J7 (x / 65536 / 256) 24 om om (by rw [iX (x := x) (k := 16) om, iX (x := x / 2 ^ 16) (k := 8) om]) _ | exact J7 (x / 256) 8 om om (iX (x := x) (k := 8) om) _
theorem zeros32_run (x : Nat) (hx : x < 4294967296) : Run Tryz.prog T E0 (.call 164 [.v (.int .u32 (x : Int))] (.v (.int .i64 ((32 - blen x : Nat) : Int)))) := by
 have hb := qO (n := 32) hx
 refine bL Tryz.func164 J J (dH J) <| Rg 1 J <| Ua J J <| Wn <| Rg 4 J <| Um J J <| aA (aK J (len32_run x hx) (by simp)) J <| aA (cE J J om) J <| Ua J J <| Wn <| aN ?_
 exact post (n := 0) (.inr J) J (congrArg (fun z => LV.v (.int .i64 z)) om) (by simp)
end Go.Proofs.YtohfklpfeilcpaaGreat
set_option maxHeartbeats 4000000
namespace Go.Proofs.YtohfklpfeilcpaaGreat
open Go.Ab Go.RowKit
theorem long_run (k1 k2 : Nat) (xs ys : List Nat) (hx : Dg 4294967296 xs) (hy : Dg 4294967296 ys) (ty : Trm ys) (hl : 2 ≤ ys.length) (hle : ys.length ≤ xs.length) (lx : xs.length < 549755813888) : ∃ r, Run Tryz.prog T E0 (.call 158 [.sl k1 (xs.map d32), .sl k2 (ys.map d32)] r) ∧ ∃ qs rs, r = .tup [.sl 1 (qs.map d32), .sl 1 (rs.map d32)] ∧ Dg 4294967296 qs ∧ Dg 4294967296 rs ∧ val 4294967296 qs * val 4294967296 ys + val 4294967296 rs = val 4294967296 xs ∧ val 4294967296 rs < val 4294967296 ys ∧ qs.length ≤ xs.length ∧ rs.length = ys.length := by
 obtain ⟨sh, hsh⟩ : ∃ sh, sh = 32 - blen (ys.getD (ys.length - 1) default) := ⟨_, rfl⟩
 obtain ⟨n1, n2, n3⟩ := norm_facts hy ty hl hsh
 obtain ⟨vs, hvs⟩ : ∃ vs, vs = dgs 4294967296 (val 4294967296 ys * 2 ^ sh) := ⟨_, rfl⟩
 rw [← hvs] at n2 n3
 rw [← n2] at n3
 have hvd : Dg 4294967296 vs := by rw [hvs]; exact lC (by decide) _
 have hvv : val 4294967296 vs = val 4294967296 ys * 2 ^ sh := by rw [hvs]; exact iS (by decide) _
 have hyl : ys.getD (ys.length - 1) default < 4294967296 := bP hy om
 obtain ⟨_, _, _, hr1, us0, rfl, rfl, rfl, hud0, huv0, hul0⟩ := qC k1 xs sh hx n1 om
 obtain ⟨_, _, _, hr2, ws, rfl, rfl, rfl, hwd, hwv, hwl⟩ := qC k2 ys sh hy n1 om
 have htr : trim ws = vs := by rw [kW (by decide) hwd, hwv, hvs]
 have hp31 : (2 : Nat) ^ sh ≤ 2 ^ 31 := Nat.pow_le_pow_right (by decide) om
 have hp0 : 0 < (2 : Nat) ^ sh := Nat.pow_pos (by decide)
 have hV0 : 0 < val 4294967296 vs := by
  have h1 := cD 4294967296 vs (vs.length - 1) om
  rw [bW (by omega : vs.length - 1 < vs.length)] at h1
  simp only [val] at h1
  have h2 : 0 < (4294967296 : Nat) ^ (vs.length - 1) := Nat.pow_pos (by decide)
  have h3 := Nat.mul_le_mul h2 n3
  have h4 := Nat.mul_add ((4294967296 : Nat) ^ (vs.length - 1)) (vs.getD (vs.length - 1) default) (4294967296 * val 4294967296 (List.drop (vs.length - 1 + 1) vs))
  omega
 refine iT Tryz.func158 J J (dH J) <| Rg 2 J <| Ua J J <| Ua J J <| Wn <| Rg 8 J <| Um J J <| Um J J <| aA (aW J J) J <| aA (cE J J om) J <| aA (cG (j := ys.length - 1) J J J J om om J) J <| aA (dY J J J) J <| aA (cI ((sh : Int)) (aK J (zeros32_run _ hyl) (by simp)) (by rw [hsh])) J <| Ua J J <| Wn <| Rg 9 J <| Um J J <| Um J J <| bJ (oCallO J hr1 (by simp)) J <| Um J J <| Um J J <| bJ (oCallO J hr2 (by simp)) J <| bJ (aV (b := .sl 1 (vs.map d32)) (mC [.sl 1 (ws.map d32)] [((0 + 2 + 8 + 5), { cells := (ws.map d32).flatten, sz := 1, elem := 162, st := 1 })] J (mK 1 ws om om) (.own _ (by simp) g0 (by show (0 : Nat) ≠ 2; decide) J (by decide) (by simp [keys]) J jC eL .nil) (by intro p hp; simp at hp; subst hp; exact ⟨_, g0, by show (0 : Nat) ≠ 2; decide, rfl⟩)) (by rw [htr]; rfl)) J <| Ua J J ?_
 refine Ua J J <| Nk [6,7,8] J <| Rg 3 J <| Um J J <| aA (aW J J) J <| Ua J J <| Wn <| Rg 6 J <| Um J J <| aA (gY J J) J <| Um J J <| aA (cE J J om) J <| bJ (oMk (a := xs.length + 1 - ys.length) (b := xs.length + 1 - ys.length) J J J J om om (by decide) om (by show 4 * (xs.length + 1 - ys.length) ≤ _; omega) om) J <| Ua J J <| Wn <| aB <| Rg 6 J <| Um J J <| aA (gY J J) J <| Um J J <| aA (cE J J om) J <| aA (cE J J om) J <| Ua J J ?_
 refine Nk [6,7,8,9,10,11] J <| aL <| bF (α := Nat × (List Nat) × (List Nat)) (fun ⟨k, us, qs⟩ => [(6, .v (.int .i64 (sh : Int))), (7, .ref (0 + 2 + 8 + 2) 1 0 us.length), (8, .sl 1 (vs.map d32)), (9, .v (.int .i64 (vs.length : Int))), (10, .ref (0 + 2 + 8 + 9 + 3 + 4) 1 0 qs.length), (11, .v (.int .i64 ((k : Int) - 1)))]) (fun ⟨k, us, qs⟩ => [((0 + 2 + 8 + 2), { cells := (us.map d32).flatten, sz := 1, elem := 162, st := 0 }), ((0 + 2 + 8 + 9 + 3 + 4), { cells := (qs.map d32).flatten, sz := 1, elem := 162, st := 0 })]) (fun ⟨k, us, qs⟩ n => k + vs.length ≤ us.length ∧ us.length = xs.length + 1 ∧ qs.length = xs.length + 1 - ys.length ∧ Dg 4294967296 us ∧ Dg 4294967296 qs ∧ val 4294967296 us0 = val 4294967296 (qs.drop k) * val 4294967296 vs * 4294967296 ^ k + val 4294967296 us ∧ val 4294967296 (us.drop k) < val 4294967296 vs ∧ 30 ≤ n) (fun ⟨k, us, qs⟩ => k) (xs.length + 1 - ys.length, us0, List.replicate (xs.length + 1 - ys.length) 0) ⟨rfl, rfl, rfl, rfl, congrArg some (by rw [List.length_replicate]; rfl), congrArg (fun z => some (LV.v (.int .i64 z))) om, trivial⟩ ⟨rfl, g0.trans (by rw [List.map_replicate]; rfl), trivial⟩ ⟨om, hul0, by simp, hud0, by intro d hd; simp at hd; rw [hd.2]; decide, by rw [List.drop_eq_nil_of_le (by simp)]; simp [val], long_init (n := xs.length) (by decide) huv0 (eI (by decide) hx) om om om hp0 om, om⟩ ?_
 rintro ⟨k, us, qs⟩ n hF
 change WC _ _ _ _ _ (_ :: _) (_ :: _) n _
 obtain ⟨hk, hul, hql0, hud, hqd, hU, hlt, hn30⟩ := hF
 refine aB <| Rg 2 J <| Um J J <| aA (hH J J) J <| bB (fun h54 => ?_) (fun h54 => ?_)
 rotate_left
 ·refine Wn <| aX J <| bA <| aS <| aR J ?_
  have hk0 : k = 0 := by omega
  subst hk0
  rw [List.drop_zero, Nat.pow_zero, Nat.mul_one] at hU
  rw [List.drop_zero] at hlt
  refine Rg 3 J <| Um J J <| bJ (oMk (a := vs.length) (b := vs.length) J J J J om om (by decide) om (by show 4 * vs.length ≤ _; omega) om) J <| Ua J J <| Wn <| aB <| Rg 3 J <| Um J J <| aA (gY J J) J <| Um J J <| Wn <| aL <| bF (α := Nat × Nat × (List Nat)) (fun ⟨i, q3, rs⟩ => [(6, .v (.int .i64 (sh : Int))), (7, .ref (0 + 2 + 8 + 2) 1 0 us.length), (10, .ref (0 + 2 + 8 + 9 + 3 + 4) 1 0 qs.length), (25, .ref q3 1 0 rs.length), (229, .v (.int .i64 (vs.length : Int))), (230, .v (.int .i64 (i : Int)))]) (fun ⟨i, q3, rs⟩ => [((0 + 2 + 8 + 2), { cells := (us.map d32).flatten, sz := 1, elem := 162, st := 0 }), ((0 + 2 + 8 + 9 + 3 + 4), { cells := (qs.map d32).flatten, sz := 1, elem := 162, st := 0 }), (q3, { cells := (rs.map d32).flatten, sz := 1, elem := 162, st := 0 })]) (fun ⟨i, q3, rs⟩ n => i ≤ vs.length ∧ rs.length = vs.length ∧ Dg 4294967296 rs ∧ val 4294967296 rs = (val 4294967296 (us.take (i + 1)) / 2 ^ sh) % 4294967296 ^ i ∧ (∀ j, i ≤ j → rs.getD j default = 0) ∧ 30 ≤ q3) (fun ⟨i, q3, rs⟩ => vs.length - i) (0, n + 2 + 1, List.replicate vs.length 0) ⟨rfl, rfl, rfl, congrArg some (by rw [List.length_replicate]; rfl), rfl, rfl, trivial⟩ ⟨g1 om g0, g1 om (g1 (by decide) g0), g0.trans (by rw [List.map_replicate]; rfl), trivial⟩ ⟨Nat.zero_le _, by simp, by intro d hd; simp at hd; rw [hd.2]; decide, by rw [nB, Nat.pow_zero, Nat.mod_one], fun j _ => jQ _ _, om⟩ ?_
  rintro ⟨i, q3, rs⟩ n hR
  change WC _ _ _ _ _ (_ :: _) (_ :: _) n _
  obtain ⟨hi, hrl, hrd, hrv, hrz, hq3⟩ := hR
  refine Rg 1 J <| aA (bZ J J) J <| bB (fun h231 => ?_) (fun h231 => ?_)
  rotate_left
  ·refine Wn <| aX J <| bA <| aS <| aR J ?_
   have hi' : i = vs.length := by omega
   subst hi'
   rw [rest_end (Nat.lt_trans hlt (eI (by decide) hvd)) om] at hrv
   obtain ⟨hx1, hx2⟩ := unshift hp0 (show val 4294967296 xs * 2 ^ sh = val 4294967296 qs * (val 4294967296 ys * 2 ^ sh) + val 4294967296 us by rw [← hvv, ← huv0, hU]) (by rw [← hvv]; exact hlt)
   rw [← hrv] at hx1 hx2
   refine Rg 4 J <| Um J J <| Um J J <| Ua J J <| Ua J J <| Wn <| aN <| ⟨.tup [.sl 1 (qs.map d32), .sl 1 (rs.map d32)], ⟨qs, rs, rfl, hqd, hrd, hx1, hx2, om, om⟩, ?_⟩
   exact postA (n := 0) [((0 + 2 + 8 + 9 + 3 + 4), { cells := (qs.map d32).flatten, sz := 1, elem := 162, st := 1 }), (q3, { cells := (rs.map d32).flatten, sz := 1, elem := 162, st := 1 })] (.inr J) J (.own _ (by simp) (g1 om g0) (by show (0 : Nat) ≠ 2; decide) J (by decide) (by simp [keys]) J jC eL (.own _ (by simp) (g1 om (g1 om g0)) (by show (0 : Nat) ≠ 2; decide) J (by decide) (by simp [keys]) J jC eL .nil)) (by intro p hp; simp at hp; rcases hp with hp | hp <;> subst hp; exact ⟨_, g1 om g0, by show (0 : Nat) ≠ 2; decide, rfl⟩; exact ⟨_, g1 om (g1 om g0), by show (0 : Nat) ≠ 2; decide, rfl⟩)
  refine Wn <| aT J <| aH <| aL <| Rg 2 J <| Um J J <| Ua J J <| cJ ?_
  have hux : us.getD i default < 4294967296 := bP hud om
  have huy : us.getD (i + 1) default < 4294967296 := bP hud om
  obtain ⟨Z, hZ⟩ : ∃ Z, Z = (us.getD i default + us.getD (i + 1) default * 4294967296) / 2 ^ sh := ⟨_, rfl⟩
  refine dN (z := 20) J kR <| Dm J J <| Dm J J <| Dm J J <| Dm J J <| aC (cH J J J J J om J) J <| aC (eC (f := d32) (us := us) (j := i) J J g0 (fun _ => rfl) J (by decide) om J) J <| aC (cI ((us.getD i default : Int)) (cN J J J) (by rw [IntKind.wrap_u64]; omega)) J <| Dm J J <| Dm J J <| aC (cI (((i + 1 : Nat) : Int)) (aO J J om) om) J <| aC (cH (j := i + 1) J J J J om om J) J <| aC (eC (f := d32) (us := us) (j := i + 1) J J g0 (fun _ => rfl) J (by decide) om J) J <| aC (cI ((us.getD (i + 1) default : Int)) (cN J J J) (by rw [IntKind.wrap_u64]; omega)) J <| aC (cI (((us.getD (i + 1) default * 4294967296 : Nat) : Int)) (oShlU (s := 32) J J om) om) J <| aC (gQ (v := .int .u64 (((us.getD i default + us.getD (i + 1) default * 4294967296) : Nat) : Int)) J J (or_lo om om)) J <| Dm J J <| aC (cI ((Z : Int)) (fS (s := sh) J J om) (by rw [hZ]; simp)) J <| aC (cI (((Z % 4294967296 : Nat) : Int)) (cN J J J) (by rw [IntKind.wrap_u32]; omega)) J <| aC (cH J J J J J om J) J <| cO (fG (f := d32) (us := rs) (Z % 4294967296) J J J (g1 om (g1 om g0)) (fun _ => rfl) J J om J) <| bG (aQ kR) J <| aF <| Ck [6,7,10,25,229,230] J ?_
  refine aI (z := 2) J <| aA (cI (((i + 1 : Nat) : Int)) (aO J J om) om) J <| Um J J <| Wn <| aG <| ⟨⟨i + 1, q3, rs.set i (Z % 4294967296)⟩, ⟨rfl, rfl, rfl, congrArg some (by rw [List.length_set]), rfl, rfl, trivial⟩, ⟨g1 om g0, g1 om (g1 (by decide) g0), g0, trivial⟩, ⟨om, by rw [List.length_set]; exact hrl, hrd.set _ (Nat.mod_lt _ (by decide)), by rw [hZ]; exact rest_set om om hud om (hrz i (Nat.le_refl _)) hrv, ?_, hq3⟩, by show vs.length - (i + 1) < vs.length - i; omega⟩
  intro j hj
  rw [gV om]; exact hrz j om
 refine Wn <| aT J <| aH <| aL ?_
 have hu0 : us.getD (k - 1 + vs.length) default < 4294967296 := bP hud om
 have hu1 : us.getD (k - 1 + vs.length - 1) default < 4294967296 := bP hud om
 have LQh := lq_make (B := 4294967296) (by decide) (j := k - 1) hud hvd om om om (by rw [show k - 1 + 1 = k by omega]; exact hlt)
 obtain ⟨top, htop⟩ : ∃ top, top = us.getD (k - 1 + vs.length) default * 4294967296 + us.getD (k - 1 + vs.length - 1) default := ⟨_, rfl⟩
 obtain ⟨u2, hu2⟩ : ∃ z, z = us.getD (k - 1 + vs.length - 2) default := ⟨_, rfl⟩
 obtain ⟨v1, hv1⟩ : ∃ z, z = vs.getD (vs.length - 1) default := ⟨_, rfl⟩
 obtain ⟨v2, hv2⟩ : ∃ z, z = vs.getD (vs.length - 2) default := ⟨_, rfl⟩
 rw [← htop, ← hu2, ← hv1, ← hv2] at LQh
 have lu2 : u2 < 4294967296 := by rw [hu2]; exact bP hud om
 have lv1 : v1 < 4294967296 := by rw [hv1]; exact bP hvd om
 have lv2 : v2 < 4294967296 := by rw [hv2]; exact bP hvd om
 have gv1 : 2147483648 ≤ v1 := by rw [hv1]; exact n3
 have htop2 : top < 18446744073709551616 := by omega
 have hRB := LQh.lt_pow (eI (B := 4294967296) (by decide) hvd)
 refine bR (z := 18) J kR <| Dm J J <| Dm J J <| Dm J J <| aC (cI (((k - 1 + vs.length : Nat) : Int)) (aO J J om) om) J <| aC (cH (j := k - 1 + vs.length) J J J J om om J) J <| aC (eC (f := d32) (us := us) (j := k - 1 + vs.length) J J g0 (fun _ => rfl) J (by decide) om J) J <| aC (cI ((us.getD (k - 1 + vs.length) default : Int)) (cN J J J) (by rw [IntKind.wrap_u64]; omega)) J <| aC (cI (((us.getD (k - 1 + vs.length) default * 4294967296 : Nat) : Int)) (oShlU (s := 32) J J om) om) J <| Dm J J <| Dm J J <| Dm J J <| aC (cI (((k - 1 + vs.length : Nat) : Int)) (aO J J om) om) J <| aC (cE J J om) J <| aC (cH (j := k - 1 + vs.length - 1) J J J J om om J) J <| aC (eC (f := d32) (us := us) (j := k - 1 + vs.length - 1) J J g0 (fun _ => rfl) J (by decide) om J) J <| aC (cI ((us.getD (k - 1 + vs.length - 1) default : Int)) (cN J J J) (by rw [IntKind.wrap_u64]; omega)) J <| aC (cI ((top : Int)) (gQ (v := .int .u64 ((us.getD (k - 1 + vs.length) default * 4294967296 + us.getD (k - 1 + vs.length - 1) default : Nat) : Int)) J J (or_hi om om)) (by rw [htop])) J <| aC (gX J) J <| bG (aQ kR) J <| Ck [6,7,8,9,10,11,12] J <| Rg 9 J <| Um J J <| Um J J ?_
 refine Um J J <| aA (cE J J om) J <| aA (cG (j := vs.length - 1) J J J J om om J) J <| aA (dY J J J) J <| aA (cI ((v1 : Int)) (cN J J J) (by rw [IntKind.wrap_u64]; omega)) J <| aA (oQuoU J J om om) J <| Ua J J <| Nk [6,7,8,9,10,11,12,13] J <| Rg 9 J <| Um J J <| Um J J <| Um J J <| aA (cE J J om) J <| aA (cG (j := vs.length - 1) J J J J om om J) J <| aA (dY J J J) J <| aA (cI ((v1 : Int)) (cN J J J) (by rw [IntKind.wrap_u64]; omega)) J <| aA (oRemU J J om) J <| Ua J J <| Nk [6,7,8,9,10,11,13,14] J <| aL <| bF (α := Nat × Nat) (fun ⟨qh, rh⟩ => [(6, .v (.int .i64 (sh : Int))), (7, .ref (0 + 2 + 8 + 2) 1 0 us.length), (8, .sl 1 (vs.map d32)), (9, .v (.int .i64 (vs.length : Int))), (10, .ref (0 + 2 + 8 + 9 + 3 + 4) 1 0 qs.length), (11, .v (.int .i64 ((k : Int) - 1))), (13, .v (.int .u64 (qh : Int))), (14, .v (.int .u64 (rh : Int)))]) (fun ⟨qh, rh⟩ => [((0 + 2 + 8 + 2), { cells := (us.map d32).flatten, sz := 1, elem := 162, st := 0 }), ((0 + 2 + 8 + 9 + 3 + 4), { cells := (qs.map d32).flatten, sz := 1, elem := 162, st := 0 })]) (fun ⟨qh, rh⟩ n => top = qh * v1 + rh ∧ val 4294967296 (us.drop (k - 1)) / val 4294967296 vs ≤ qh ∧ qh ≤ 4294967297 ∧ rh < 4294967296 ∧ 30 ≤ n) (fun ⟨qh, rh⟩ => qh) (top / v1, top % v1) ⟨J, J, J, J, J, J, J, J, trivial⟩ ⟨g0, g1 (by decide) g0, trivial⟩ ⟨(Nat.div_add_mod' top v1).symm, lq_start LQh (by decide), lq_first LQh (by decide), by have := Nat.mod_lt top (show 0 < v1 by omega); omega, om⟩ ?_
 rintro ⟨qh, rh⟩ n hG
 change WC _ _ _ _ _ (_ :: _) (_ :: _) n _
 obtain ⟨hG1, hG2, hG3, hG4, hn31⟩ := hG
 refine aB <| bR (z := 24) J kR <| Dm J J <| aC (hH J J) J <| jD (fun h91 => ?_) (fun h91 => ?_)
 ·refine Dm J J <| bE J J <| bE J J <| bE J J <| bE J J <| bE J J <| bE J J <| bE J J <| bE J J <| bE J J <| bE J J <| bE J J <| bE J J <| bE J J <| bE J J <| bE J J <| bE J J <| bE J J <| bE J J <| bE J J <| bE J J <| aC (bM J J) J <| bG (aQ kR) J <| Ck [6,7,8,9,10,11,13,14,93,94,95,96,97,98,99,100,101,102,103,104,105,106,107,108,109,110,111,112,113] J ?_
  refine aT J <| aH <| dL ?_
  obtain ⟨hdc1, hdc2⟩ := lq_dec LQh hG1 hG2 (by first | exact .inl om | exact .inr om)
  refine Rg 3 J <| Um J J <| aA (cI (((qh - 1 : Nat) : Int)) (jB J J) om) J <| Ua J J <| Nk [6,7,8,9,10,11,13,14,93,94,95,96,97,98,99,100,101,102,103,104,105,106,107,108,109,110,111,112] J <| Rg 9 J <| Um J J <| Um J J <| Um J J <| aA (cE J J om) J <| aA (cG (j := vs.length - 1) J J J J om om J) J <| aA (dY J J J) J <| aA (cI ((v1 : Int)) (cN J J J) (by rw [IntKind.wrap_u64]; omega)) J <| aA (cI (((rh + v1 : Nat) : Int)) (kS J J) om) J <| Ua J J <| Nk [6,7,8,9,10,11,13,14,93,94,95,96,97,98,99,100,101,102,103,104,105,106,107,108,109,110,111,112] J <| Rg 2 J <| Um J J <| aA (hH J J) J <| bB (fun h125 => ?_) (fun h125 => ?_)
  rotate_left
  ·refine Nk [6,7,8,9,10,11,13,14,93,94,95,96,97,98,99,100,101,102,103,104,105,106,107,108,109,110,111,112,125] J <| bV J <| cA <| dG <| aG <| ⟨⟨qh - 1, rh + v1⟩, ⟨J, J, J, J, J, J, J, J, trivial⟩, ⟨g0, g1 (by decide) g0, trivial⟩, ⟨dec_eq hG1 hdc1, hdc2, om, om, om⟩, by show qh - 1 < qh; omega⟩
  refine Nk [6,7,8,9,10,11,13,14,93,94,95,96,97,98,99,100,101,102,103,104,105,106,107,108,109,110,111,112,125] J <| bY J <| qK <| kZ J <| aS <| aR J <| Ck [6,7,8,9,10,11,13,93,94,95,96,97,98,99,100,101,102,103,104,105,106,107,108,109,110,111,112] J ?_
  obtain ⟨hql, hqo⟩ := lq_break LQh hG1 hdc1 hG4 om hG3
  replace hG2 := hdc2
  obtain ⟨q1, hq1⟩ : ∃ q1, q1 = qh - 1 := ⟨_, rfl⟩
  rw [← hq1] at hqo hql hG2 ⊢
  refine Rg 2 J <| Ua J J <| Ua J J <| Nk [6,7,8,9,10,11,13,15,16,93,94,95,96,97,98,99,100,101,102,103,104,105,106,107,108,109,110,111,112] J <| aB <| Rg 3 J <| Um J J <| aA (aW J J) J <| Um J J <| Nk [6,7,8,9,10,11,13,15,16,93,94,95,96,97,98,99,100,101,102,103,104,105,106,107,108,109,110,111,112,126,127,128] J <| aL ?_
  refine bF (α := Nat × Nat × Nat × (List Nat)) (fun ⟨i, c, b, us1⟩ => [(6, .v (.int .i64 (sh : Int))), (7, .ref (0 + 2 + 8 + 2) 1 0 us1.length), (8, .sl 1 (vs.map d32)), (9, .v (.int .i64 (vs.length : Int))), (10, .ref (0 + 2 + 8 + 9 + 3 + 4) 1 0 qs.length), (11, .v (.int .i64 ((k : Int) - 1))), (13, .v (.int .u64 (q1 : Int))), (15, .v (.int .u64 (b : Int))), (16, .v (.int .u64 (c : Int))), (126, .sl 1 (vs.map d32)), (127, .v (.int .i64 (vs.length : Int))), (128, .v (.int .i64 (i : Int)))]) (fun ⟨i, c, b, us1⟩ => [((0 + 2 + 8 + 2), { cells := (us1.map d32).flatten, sz := 1, elem := 162, st := 0 }), ((0 + 2 + 8 + 9 + 3 + 4), { cells := (qs.map d32).flatten, sz := 1, elem := 162, st := 0 })]) (fun ⟨i, c, b, us1⟩ n => i ≤ vs.length ∧ us1.length = us.length ∧ Dg 4294967296 us1 ∧ c < 4294967296 ∧ b ≤ 1 ∧ val 4294967296 us1 + 4294967296 ^ (k - 1) * (q1 * val 4294967296 (vs.take i)) = val 4294967296 us + 4294967296 ^ (k - 1 + i) * (c + b) ∧ us1.take (k - 1) = us.take (k - 1) ∧ us1.drop (k - 1 + i) = us.drop (k - 1 + i) ∧ 30 ≤ n) (fun ⟨i, c, b, us1⟩ => vs.length - i) (0, 0, 0, us) ⟨J, J, J, J, J, J, J, J, J, J, J, J, trivial⟩ ⟨g0, g1 (by decide) g0, trivial⟩ ⟨Nat.zero_le _, rfl, hud, by decide, by decide, by simp [val], rfl, rfl, om⟩ ?_
  rintro ⟨i, c, b, us1⟩ n hL
  change WC _ _ _ _ _ (_ :: _) (_ :: _) n _
  obtain ⟨hi, hl1, hd1, hc1, hb1, he1, ht1, hp1, hn32⟩ := hL
  refine Rg 1 J <| aA (bZ J J) J <| bB (fun h129 => ?_) (fun h129 => ?_)
  ·refine Wn <| aT J <| aH <| aL ?_
   have hvi : vs.getD i default < 4294967296 := bP hvd om
   have hui : us1.getD (k - 1 + i) default < 4294967296 := bP hd1 om
   have hqv := jF hql hvi
   obtain ⟨p, hpe⟩ : ∃ p, p = q1 * vs.getD i default + c := ⟨_, rfl⟩
   obtain ⟨u, hue⟩ : ∃ u, u = us1.getD (k - 1 + i) default := ⟨_, rfl⟩
   have hpb : p < 18446744073709551616 := by omega
   obtain ⟨d, hde⟩ : ∃ d, d = (u + 4294967296 - p % 4294967296 - b) % 4294967296 := ⟨_, rfl⟩
   refine Rg 5 J <| Um J J <| aA (cG J J J J J om J) J <| aA (dY J J J) J <| Ua J J <| Ua J J <| Nk [6,7,8,9,10,11,13,15,16,17,18,126,127,128] J <| Rg 7 J <| Um J J <| Um J J <| aA (cI ((vs.getD i default : Int)) (cN J J J) (by rw [IntKind.wrap_u64]; omega)) J <| aA (cI (((q1 * vs.getD i default : Nat) : Int)) (nD J J) (by rw [← Int.natCast_mul]; omega)) J <| Um J J <| aA (cI ((p : Int)) (kS J J) om) J <| Ua J J <| Nk [6,7,8,9,10,11,13,15,17,19,126,127,128] J <| Rg 3 J <| Um J J <| aA (cI (((p / 4294967296 : Nat) : Int)) (fS (s := 32) J J om) om) J <| Ua J J <| Nk [6,7,8,9,10,11,13,15,16,17,19,126,127,128] J ?_
   refine Rg 14 J <| Um J J <| Um J J <| Um J J <| aA (cI (((k - 1 + i : Nat) : Int)) (aO J J om) om) J <| aA (cH (j := k - 1 + i) J J J J om om J) J <| aA (eC (f := d32) (us := us1) (j := k - 1 + i) J J g0 (fun _ => rfl) J (by decide) om J) J <| aA (cI ((u : Int)) (cN J J J) (by rw [IntKind.wrap_u64]; omega)) J <| Um J J <| aA (cI (((p % 4294967296 : Nat) : Int)) (cN J J J) (by rw [IntKind.wrap_u32]; omega)) J <| aA (cI (((p % 4294967296 : Nat) : Int)) (cN J J J) (by rw [IntKind.wrap_u64]; omega)) J <| aA (jB J J) J <| Um J J <| aA (cI (((((u + 18446744073709551616 - p % 4294967296 - b) % 18446744073709551616) : Nat) : Int)) (jB J J) om) J <| Ua J J <| Nk [6,7,8,9,10,11,13,16,17,20,126,127,128] J <| Rg 8 J <| Um J J <| Um J J <| Um J J <| aA (cI (((k - 1 + i : Nat) : Int)) (aO J J om) om) J <| Um J J <| aA (cI ((d : Int)) (cN J J J) (by rw [IntKind.wrap_u32]; omega)) J ?_
   refine aA (cH (j := k - 1 + i) J J J J om om J) J <| bH (fG (f := d32) (us := us1) d J J J g0 (fun _ => rfl) J J om J) <| Nk [6,7,8,9,10,11,13,16,20,126,127,128] J <| aI (z := 3) J <| Um J J <| aA (cI (((if u < p % 4294967296 + b then 1 else 0 : Nat) : Int)) (fS (s := 63) J J om) (by split <;> omega)) J <| Ua J J <| Wn <| aF <| Ck [6,7,8,9,10,11,13,15,16,126,127,128] J <| aI (z := 2) J <| aA (cI (((i + 1 : Nat) : Int)) (aO J J om) om) J <| Um J J <| Wn <| aG <| ⟨⟨i + 1, p / 4294967296, if u < p % 4294967296 + b then 1 else 0, us1.set (k - 1 + i) d⟩, ⟨rfl, congrArg some (by rw [List.length_set]), rfl, rfl, rfl, rfl, rfl, rfl, rfl, rfl, rfl, rfl, trivial⟩, ⟨g0, g1 (by decide) (g1 (by decide) g0), trivial⟩, ⟨om, by rw [List.length_set]; exact hl1, hd1.set _ om, om, by split <;> omega, ?_, by rw [dF om]; exact ht1, by rw [dU om]; exact gO hp1 om, om⟩, by show vs.length - (i + 1) < vs.length - i; omega⟩
   rw [hpe]
   exact mI he1 om (by rw [← hpe, ← hue, hde]; split <;> omega)
  refine Wn <| aX J <| bA <| aS <| aR J ?_
  have hi' : i = vs.length := by omega
  subst hi'
  rw [List.take_of_length_le (Nat.le_refl _)] at he1
  obtain ⟨u, hue⟩ : ∃ u, u = us1.getD (k - 1 + vs.length) default := ⟨_, rfl⟩
  have hul1 : u < 4294967296 := by rw [hue]; exact bP hd1 om
  obtain ⟨d, hde⟩ : ∃ d, d = (u + 4294967296 - c - b) % 4294967296 := ⟨_, rfl⟩
  have hd4 : d < 4294967296 := by omega
  refine Rg 12 J <| Um J J <| Um J J <| Um J J <| aA (cI (((k - 1 + vs.length : Nat) : Int)) (aO J J om) om) J <| aA (cH (j := k - 1 + vs.length) J J J J om om J) J <| aA (eC (f := d32) (us := us1) (j := k - 1 + vs.length) J J g0 (fun _ => rfl) J (by decide) om J) J <| aA (cI ((u : Int)) (cN J J J) (by rw [IntKind.wrap_u64]; omega)) J <| Um J J <| aA (jB J J) J <| Um J J <| aA (cI (((((u + 18446744073709551616 - c - b) % 18446744073709551616) : Nat) : Int)) (jB J J) om) J <| Ua J J <| Nk [6,7,8,9,10,11,13,21] J <| Rg 8 J <| Um J J <| Um J J <| Um J J <| aA (cI (((k - 1 + vs.length : Nat) : Int)) (aO J J om) om) J <| Um J J <| aA (cI ((d : Int)) (cN J J J) (by rw [IntKind.wrap_u32]; omega)) J <| aA (cH (j := k - 1 + vs.length) J J J J om om J) J <| bH (fG (f := d32) (us := us1) d J J J g0 (fun _ => rfl) J J om J) ?_
  refine Nk [6,7,8,9,10,11,13,21] J <| aB <| Rg 3 J <| Um J J <| aA (cI (((if u < c + b then 1 else 0 : Nat) : Int)) (fS (s := 63) J J om) (by split <;> omega)) J <| aA (dV J J) J <| bB (fun h184 => ?_) (fun h184 => ?_)
  rotate_left
  ·have hneg : c + b ≤ u := by
    rcases Nat.lt_or_ge u (c + b) with h | h
    ·rw [if_pos h] at h184; simp at h184
    ·exact h
   have hs2 := kU (o := 0) (d := d) he1 om (by rw [← hue]; omega)
   rw [Nat.mul_zero, Nat.add_zero] at hs2
   refine Wn <| aX J <| aH ?_
   have hlF : (us1.set (k - 1 + vs.length) d).length = us.length := by rw [List.length_set]; exact hl1
   have hdF : Dg 4294967296 (us1.set (k - 1 + vs.length) d) := hd1.set _ hd4
   have hltF := oX (by decide) hV0 om om (by rw [dF om]; exact ht1) hs2 hG2
   have hUF := iO (qs := qs) (j := k - 1) om (by rw [show k - 1 + 1 = k by omega]; exact hU) hs2
   refine aI (z := 6) J <| Um J J <| Um J J <| Um J J <| aA (cI ((q1 : Int)) (cN J J J) (by rw [IntKind.wrap_u32]; omega)) J <| aA (cH (j := k - 1) J J J J om om J) J <| bH (fG (f := d32) (us := qs) q1 J J J (g1 (by decide) (g1 (by decide) g0)) (fun _ => rfl) J J om J) <| Wn <| aF <| Ck [6,7,8,9,10,11] J <| aI (z := 3) J <| Um J J <| aA (cI (((k - 1 : Nat) : Int) - 1) (cE J J om) om) J <| Ua J J <| Wn <| aG <| ⟨⟨k - 1, (us1.set (k - 1 + vs.length) d), qs.set (k - 1) q1⟩, ⟨rfl, congrArg some (by rw [List.length_set]), rfl, rfl, congrArg some (by rw [List.length_set]), rfl, trivial⟩, ⟨g1 (by decide) g0, g0, trivial⟩, ⟨by rw [hlF]; omega, by rw [hlF]; exact hul, by rw [List.length_set]; exact hql0, hdF, hqd.set _ om, hUF, hltF, om⟩, by show k - 1 < k; omega⟩
  have hneg : u < c + b := by
   rcases Nat.lt_or_ge u (c + b) with h | h
   ·exact h
   ·rw [if_neg om] at h184; simp at h184
  have hs2 := kU (o := 1) (d := d) he1 om (by rw [← hue]; omega)
  have hlT : (us1.set (k - 1 + vs.length) d).length = us.length := by rw [List.length_set]; exact hl1
  have hdT : Dg 4294967296 (us1.set (k - 1 + vs.length) d) := hd1.set _ hd4
  have htT : (us1.set (k - 1 + vs.length) d).take (k - 1) = us.take (k - 1) := by rw [dF om]; exact ht1
  have hpT : (us1.set (k - 1 + vs.length) d).drop (k - 1 + vs.length + 1) = us.drop (k - 1 + vs.length + 1) := by rw [dU om]; exact gO hp1 om
  obtain ⟨hgt, hq1p⟩ := neg_gt (by decide) hdT om hlT hRB hpT htT hs2
  refine Wn <| aT J <| aB <| Rg 3 J <| Um J J <| aA (cI (((q1 - 1 : Nat) : Int)) (jB J J) om) J <| Ua J J <| Wn <| aB <| Rg 1 J <| Ua J J <| Wn <| aB <| aB <| Rg 3 J <| Um J J <| aA (aW J J) J <| Um J J <| Nk [6,7,8,9,10,11,13,22,187,188,189] J <| aL <| bF (α := Nat × Nat × (List Nat)) (fun ⟨i2, c2, us3⟩ => [(6, .v (.int .i64 (sh : Int))), (7, .ref (0 + 2 + 8 + 2) 1 0 us3.length), (8, .sl 1 (vs.map d32)), (9, .v (.int .i64 (vs.length : Int))), (10, .ref (0 + 2 + 8 + 9 + 3 + 4) 1 0 qs.length), (11, .v (.int .i64 ((k : Int) - 1))), (13, .v (.int .u64 ((q1 - 1 : Nat) : Int))), (22, .v (.int .u32 (c2 : Int))), (187, .sl 1 (vs.map d32)), (188, .v (.int .i64 (vs.length : Int))), (189, .v (.int .i64 (i2 : Int)))]) (fun ⟨i2, c2, us3⟩ => [((0 + 2 + 8 + 2), { cells := (us3.map d32).flatten, sz := 1, elem := 162, st := 0 }), ((0 + 2 + 8 + 9 + 3 + 4), { cells := (qs.map d32).flatten, sz := 1, elem := 162, st := 0 })]) (fun ⟨i2, c2, us3⟩ n => i2 ≤ vs.length ∧ us3.length = us.length ∧ Dg 4294967296 us3 ∧ c2 ≤ 1 ∧ val 4294967296 us3 + 4294967296 ^ (k - 1 + i2) * c2 = val 4294967296 (us1.set (k - 1 + vs.length) d) + 4294967296 ^ (k - 1) * val 4294967296 (vs.take i2) ∧ us3.take (k - 1) = us.take (k - 1) ∧ us3.drop (k - 1 + vs.length) = (us1.set (k - 1 + vs.length) d).drop (k - 1 + vs.length) ∧ 30 ≤ n) (fun ⟨i2, c2, us3⟩ => vs.length - i2) (0, 0, (us1.set (k - 1 + vs.length) d)) ⟨rfl, congrArg some (by rw [List.length_set]), rfl, rfl, rfl, rfl, rfl, rfl, rfl, rfl, rfl, trivial⟩ ⟨g0, g1 (by decide) (g1 (by decide) g0), trivial⟩ ⟨Nat.zero_le _, hlT, hdT, by decide, by simp [val], htT, rfl, om⟩ ?_
  rintro ⟨i2, c2, us3⟩ n hM
  change WC _ _ _ _ _ (_ :: _) (_ :: _) n _
  obtain ⟨hi2, hl3, hd3, hc3, he3, ht3, hp3, hn33⟩ := hM
  refine Rg 1 J <| aA (bZ J J) J <| bB (fun h190 => ?_) (fun h190 => ?_)
  ·refine Wn <| aT J <| aH <| aL <| Rg 5 J <| Um J J <| aA (cG J J J J J om J) J <| aA (dY J J J) J <| Ua J J <| Ua J J <| Nk [6,7,8,9,10,11,13,22,23,24,187,188,189] J ?_
   have hu3 : us3.getD (k - 1 + i2) default < 4294967296 := bP hd3 om
   have hv3 : vs.getD i2 default < 4294967296 := bP hvd om
   refine aI (z := 19) J <| Um J J <| Um J J <| Um J J <| aA (cI (((k - 1 + i2 : Nat) : Int)) (aO J J om) om) J <| Um J J <| Um J J <| Um J J <| aA (cI (((k - 1 + i2 : Nat) : Int)) (aO J J om) om) J <| aA (cH (j := k - 1 + i2) J J J J om om J) J <| aA (eC (f := d32) (us := us3) (j := k - 1 + i2) J J g0 (fun _ => rfl) J (by decide) om J) J <| Um J J <| Um J J <| aA (aK J (kL (us3.getD (k - 1 + i2) default) (vs.getD i2 default) c2 hu3 hv3 hc3) (by simp)) J <| Um J J <| aA (fB J J) J <| aA (fB J J) J <| aA (cH (j := k - 1 + i2) J J J J om om J) J <| bH (fG (f := d32) (us := us3) ((us3.getD (k - 1 + i2) default + vs.getD i2 default + c2) % 4294967296) J J J g0 (fun _ => rfl) J J om J) <| Ua J J <| Wn <| aF <| Ck [6,7,8,9,10,11,13,22,187,188,189] J <| aI (z := 2) J ?_
   refine aA (cI (((i2 + 1 : Nat) : Int)) (aO J J om) om) J <| Um J J <| Wn <| aG <| ⟨⟨i2 + 1, _, us3.set (k - 1 + i2) ((us3.getD (k - 1 + i2) default + vs.getD i2 default + c2) % 4294967296)⟩, ⟨rfl, congrArg some (by rw [List.length_set]), rfl, rfl, rfl, rfl, rfl, rfl, rfl, rfl, rfl, trivial⟩, ⟨g0, g1 (by decide) (g1 (by decide) g0), trivial⟩, ⟨om, by rw [List.length_set]; exact hl3, hd3.set _ om, om, kY he3 om, by rw [dF om]; exact ht3, by rw [dU om]; exact hp3, om⟩, by show vs.length - (i2 + 1) < vs.length - i2; omega⟩
  refine Wn <| aX J <| bA <| aS <| aR J ?_
  have hi' : i2 = vs.length := by omega
  subst hi'
  rw [List.take_of_length_le (Nat.le_refl _)] at he3
  have hu3 : us3.getD (k - 1 + vs.length) default < 4294967296 := bP hd3 om
  refine Rg 10 J <| Um J J <| Um J J <| Um J J <| aA (cI (((k - 1 + vs.length : Nat) : Int)) (aO J J om) om) J <| aA (cH (j := k - 1 + vs.length) J J J J om om J) J <| aA (eC (f := d32) (us := us3) (j := k - 1 + vs.length) J J g0 (fun _ => rfl) J (by decide) om J) J <| Um J J <| aA (cI ((((us3.getD (k - 1 + vs.length) default + c2) % 4294967296 : Nat) : Int)) (oAdd32 J J) om) J <| aA (cH (j := k - 1 + vs.length) J J J J om om J) J <| bH (fG (f := d32) (us := us3) ((us3.getD (k - 1 + vs.length) default + c2) % 4294967296) J J J g0 (fun _ => rfl) J J om J) <| Nk [6,7,8,9,10,11,13] J ?_
  have hlF : (us3.set (k - 1 + vs.length) ((us3.getD (k - 1 + vs.length) default + c2) % 4294967296)).length = us.length := by rw [List.length_set]; exact hl3
  have hdF : Dg 4294967296 (us3.set (k - 1 + vs.length) ((us3.getD (k - 1 + vs.length) default + c2) % 4294967296)) := hd3.set _ om
  have h4 := kX he3 om
  obtain ⟨hs4, hltF⟩ := rB (by decide) hV0 hdF om hlF hRB (by rw [dU om]; exact (gO hp3 om).trans hpT) (by rw [dF om]; exact ht3) hs2 h4 hG2 hq1p hqo hgt om
  have hUF := iO (qs := qs) (j := k - 1) om (by rw [show k - 1 + 1 = k by omega]; exact hU) hs4
  refine aI (z := 6) J <| Um J J <| Um J J <| Um J J <| aA (cI (((q1 - 1 : Nat) : Int)) (cN J J J) (by rw [IntKind.wrap_u32]; omega)) J <| aA (cH (j := k - 1) J J J J om om J) J <| bH (fG (f := d32) (us := qs) (q1 - 1) J J J (g1 (by decide) (g1 (by decide) g0)) (fun _ => rfl) J J om J) <| Wn <| aF <| aI (z := 3) J <| Um J J <| aA (cI (((k - 1 : Nat) : Int) - 1) (cE J J om) om) J <| Ua J J <| Wn <| aG <| ⟨⟨k - 1, (us3.set (k - 1 + vs.length) ((us3.getD (k - 1 + vs.length) default + c2) % 4294967296)), qs.set (k - 1) (q1 - 1)⟩, ⟨rfl, congrArg some (by rw [List.length_set]), rfl, rfl, congrArg some (by rw [List.length_set]), rfl, trivial⟩, ⟨g1 (by decide) g0, g0, trivial⟩, ⟨by rw [hlF]; omega, by rw [hlF]; exact hul, by rw [List.length_set]; exact hql0, hdF, hqd.set _ om, hUF, hltF, om⟩, by show k - 1 < k; omega⟩
 refine Dm J J <| bC J (dK J) J <| bC J (dK J) J <| bC J (dK J) J <| bC J (cE J J om) J <| bC J (cG (j := vs.length - 2) J J J J om om J) J <| bC J (dY J J J) J <| bC J (cI ((v2 : Int)) (cN J J J) (by rw [IntKind.wrap_u64]; omega)) J <| bC J (cI (((qh * v2 : Nat) : Int)) (nD J J) (by rw [← Int.natCast_mul]; have := jF (a := qh) (b := v2) om om; omega)) J <| bC J (dK J) J <| bC J (cI (((rh * 4294967296 : Nat) : Int)) (oShlU (s := 32) J J om) om) J <| bC J (dK J) J <| bC J (dK J) J <| bC J (dK J) J <| bC J (cI (((k - 1 + vs.length : Nat) : Int)) (aO J J om) om) J <| bC J (cE J J om) J <| bC J (cH (j := k - 1 + vs.length - 2) J J J J om om J) J <| bC J (eC (f := d32) (us := us) (j := k - 1 + vs.length - 2) J J g0 (fun _ => rfl) J (by decide) om J) J <| bC J (cI ((u2 : Int)) (cN J J J) (by rw [IntKind.wrap_u64]; omega)) J <| bC J (gQ (v := .int .u64 ((rh * 4294967296 + u2 : Nat) : Int)) J J (or_hi om om)) J <| bC J (eB J J) J <| jD (fun h112 => ?_) (fun h112 => ?_)
 rotate_left
 ·refine aC (bK J J) J <| bG (aQ kR) J <| Ck [6,7,8,9,10,11,13,14,93,94,95,96,97,98,99,100,101,102,103,104,105,106,107,108,109,110,111,112,113] J <| aX J <| bA <| aS <| aR J <| Ck [6,7,8,9,10,11,13,93,94,95,96,97,98,99,100,101,102,103,104,105,106,107,108,109,110,111,112] J ?_
  have hqo := lq_ok LQh hG1 (show qh < 4294967296 by omega) om
  have hql : qh < 4294967296 := by omega
  obtain ⟨q1, hq1⟩ : ∃ q1, q1 = qh := ⟨_, rfl⟩
  rw [← hq1] at hqo hql hG2 ⊢
  refine Rg 2 J <| Ua J J <| Ua J J <| Nk [6,7,8,9,10,11,13,15,16,93,94,95,96,97,98,99,100,101,102,103,104,105,106,107,108,109,110,111,112] J <| aB <| Rg 3 J <| Um J J <| aA (aW J J) J <| Um J J <| Nk [6,7,8,9,10,11,13,15,16,93,94,95,96,97,98,99,100,101,102,103,104,105,106,107,108,109,110,111,112,126,127,128] J <| aL ?_
  refine bF (α := Nat × Nat × Nat × (List Nat)) (fun ⟨i, c, b, us1⟩ => [(6, .v (.int .i64 (sh : Int))), (7, .ref (0 + 2 + 8 + 2) 1 0 us1.length), (8, .sl 1 (vs.map d32)), (9, .v (.int .i64 (vs.length : Int))), (10, .ref (0 + 2 + 8 + 9 + 3 + 4) 1 0 qs.length), (11, .v (.int .i64 ((k : Int) - 1))), (13, .v (.int .u64 (q1 : Int))), (15, .v (.int .u64 (b : Int))), (16, .v (.int .u64 (c : Int))), (126, .sl 1 (vs.map d32)), (127, .v (.int .i64 (vs.length : Int))), (128, .v (.int .i64 (i : Int)))]) (fun ⟨i, c, b, us1⟩ => [((0 + 2 + 8 + 2), { cells := (us1.map d32).flatten, sz := 1, elem := 162, st := 0 }), ((0 + 2 + 8 + 9 + 3 + 4), { cells := (qs.map d32).flatten, sz := 1, elem := 162, st := 0 })]) (fun ⟨i, c, b, us1⟩ n => i ≤ vs.length ∧ us1.length = us.length ∧ Dg 4294967296 us1 ∧ c < 4294967296 ∧ b ≤ 1 ∧ val 4294967296 us1 + 4294967296 ^ (k - 1) * (q1 * val 4294967296 (vs.take i)) = val 4294967296 us + 4294967296 ^ (k - 1 + i) * (c + b) ∧ us1.take (k - 1) = us.take (k - 1) ∧ us1.drop (k - 1 + i) = us.drop (k - 1 + i) ∧ 30 ≤ n) (fun ⟨i, c, b, us1⟩ => vs.length - i) (0, 0, 0, us) ⟨J, J, J, J, J, J, J, J, J, J, J, J, trivial⟩ ⟨g0, g1 (by decide) g0, trivial⟩ ⟨Nat.zero_le _, rfl, hud, by decide, by decide, by simp [val], rfl, rfl, om⟩ ?_
  rintro ⟨i, c, b, us1⟩ n hL
  change WC _ _ _ _ _ (_ :: _) (_ :: _) n _
  obtain ⟨hi, hl1, hd1, hc1, hb1, he1, ht1, hp1, hn32⟩ := hL
  refine Rg 1 J <| aA (bZ J J) J <| bB (fun h129 => ?_) (fun h129 => ?_)
  ·refine Wn <| aT J <| aH <| aL ?_
   have hvi : vs.getD i default < 4294967296 := bP hvd om
   have hui : us1.getD (k - 1 + i) default < 4294967296 := bP hd1 om
   have hqv := jF hql hvi
   obtain ⟨p, hpe⟩ : ∃ p, p = q1 * vs.getD i default + c := ⟨_, rfl⟩
   obtain ⟨u, hue⟩ : ∃ u, u = us1.getD (k - 1 + i) default := ⟨_, rfl⟩
   have hpb : p < 18446744073709551616 := by omega
   obtain ⟨d, hde⟩ : ∃ d, d = (u + 4294967296 - p % 4294967296 - b) % 4294967296 := ⟨_, rfl⟩
   refine Rg 5 J <| Um J J <| aA (cG J J J J J om J) J <| aA (dY J J J) J <| Ua J J <| Ua J J <| Nk [6,7,8,9,10,11,13,15,16,17,18,126,127,128] J <| Rg 7 J <| Um J J <| Um J J <| aA (cI ((vs.getD i default : Int)) (cN J J J) (by rw [IntKind.wrap_u64]; omega)) J <| aA (cI (((q1 * vs.getD i default : Nat) : Int)) (nD J J) (by rw [← Int.natCast_mul]; omega)) J <| Um J J <| aA (cI ((p : Int)) (kS J J) om) J <| Ua J J <| Nk [6,7,8,9,10,11,13,15,17,19,126,127,128] J <| Rg 3 J <| Um J J <| aA (cI (((p / 4294967296 : Nat) : Int)) (fS (s := 32) J J om) om) J <| Ua J J <| Nk [6,7,8,9,10,11,13,15,16,17,19,126,127,128] J ?_
   refine Rg 14 J <| Um J J <| Um J J <| Um J J <| aA (cI (((k - 1 + i : Nat) : Int)) (aO J J om) om) J <| aA (cH (j := k - 1 + i) J J J J om om J) J <| aA (eC (f := d32) (us := us1) (j := k - 1 + i) J J g0 (fun _ => rfl) J (by decide) om J) J <| aA (cI ((u : Int)) (cN J J J) (by rw [IntKind.wrap_u64]; omega)) J <| Um J J <| aA (cI (((p % 4294967296 : Nat) : Int)) (cN J J J) (by rw [IntKind.wrap_u32]; omega)) J <| aA (cI (((p % 4294967296 : Nat) : Int)) (cN J J J) (by rw [IntKind.wrap_u64]; omega)) J <| aA (jB J J) J <| Um J J <| aA (cI (((((u + 18446744073709551616 - p % 4294967296 - b) % 18446744073709551616) : Nat) : Int)) (jB J J) om) J <| Ua J J <| Nk [6,7,8,9,10,11,13,16,17,20,126,127,128] J <| Rg 8 J <| Um J J <| Um J J <| Um J J <| aA (cI (((k - 1 + i : Nat) : Int)) (aO J J om) om) J <| Um J J <| aA (cI ((d : Int)) (cN J J J) (by rw [IntKind.wrap_u32]; omega)) J ?_
   refine aA (cH (j := k - 1 + i) J J J J om om J) J <| bH (fG (f := d32) (us := us1) d J J J g0 (fun _ => rfl) J J om J) <| Nk [6,7,8,9,10,11,13,16,20,126,127,128] J <| aI (z := 3) J <| Um J J <| aA (cI (((if u < p % 4294967296 + b then 1 else 0 : Nat) : Int)) (fS (s := 63) J J om) (by split <;> omega)) J <| Ua J J <| Wn <| aF <| Ck [6,7,8,9,10,11,13,15,16,126,127,128] J <| aI (z := 2) J <| aA (cI (((i + 1 : Nat) : Int)) (aO J J om) om) J <| Um J J <| Wn <| aG <| ⟨⟨i + 1, p / 4294967296, if u < p % 4294967296 + b then 1 else 0, us1.set (k - 1 + i) d⟩, ⟨rfl, congrArg some (by rw [List.length_set]), rfl, rfl, rfl, rfl, rfl, rfl, rfl, rfl, rfl, rfl, trivial⟩, ⟨g0, g1 (by decide) (g1 (by decide) g0), trivial⟩, ⟨om, by rw [List.length_set]; exact hl1, hd1.set _ om, om, by split <;> omega, ?_, by rw [dF om]; exact ht1, by rw [dU om]; exact gO hp1 om, om⟩, by show vs.length - (i + 1) < vs.length - i; omega⟩
   rw [hpe]
   exact mI he1 om (by rw [← hpe, ← hue, hde]; split <;> omega)
  refine Wn <| aX J <| bA <| aS <| aR J ?_
  have hi' : i = vs.length := by omega
  subst hi'
  rw [List.take_of_length_le (Nat.le_refl _)] at he1
  obtain ⟨u, hue⟩ : ∃ u, u = us1.getD (k - 1 + vs.length) default := ⟨_, rfl⟩
  have hul1 : u < 4294967296 := by rw [hue]; exact bP hd1 om
  obtain ⟨d, hde⟩ : ∃ d, d = (u + 4294967296 - c - b) % 4294967296 := ⟨_, rfl⟩
  have hd4 : d < 4294967296 := by omega
  refine Rg 12 J <| Um J J <| Um J J <| Um J J <| aA (cI (((k - 1 + vs.length : Nat) : Int)) (aO J J om) om) J <| aA (cH (j := k - 1 + vs.length) J J J J om om J) J <| aA (eC (f := d32) (us := us1) (j := k - 1 + vs.length) J J g0 (fun _ => rfl) J (by decide) om J) J <| aA (cI ((u : Int)) (cN J J J) (by rw [IntKind.wrap_u64]; omega)) J <| Um J J <| aA (jB J J) J <| Um J J <| aA (cI (((((u + 18446744073709551616 - c - b) % 18446744073709551616) : Nat) : Int)) (jB J J) om) J <| Ua J J <| Nk [6,7,8,9,10,11,13,21] J <| Rg 8 J <| Um J J <| Um J J <| Um J J <| aA (cI (((k - 1 + vs.length : Nat) : Int)) (aO J J om) om) J <| Um J J <| aA (cI ((d : Int)) (cN J J J) (by rw [IntKind.wrap_u32]; omega)) J <| aA (cH (j := k - 1 + vs.length) J J J J om om J) J <| bH (fG (f := d32) (us := us1) d J J J g0 (fun _ => rfl) J J om J) ?_
  refine Nk [6,7,8,9,10,11,13,21] J <| aB <| Rg 3 J <| Um J J <| aA (cI (((if u < c + b then 1 else 0 : Nat) : Int)) (fS (s := 63) J J om) (by split <;> omega)) J <| aA (dV J J) J <| bB (fun h184 => ?_) (fun h184 => ?_)
  rotate_left
  ·have hneg : c + b ≤ u := by
    rcases Nat.lt_or_ge u (c + b) with h | h
    ·rw [if_pos h] at h184; simp at h184
    ·exact h
   have hs2 := kU (o := 0) (d := d) he1 om (by rw [← hue]; omega)
   rw [Nat.mul_zero, Nat.add_zero] at hs2
   refine Wn <| aX J <| aH ?_
   have hlF : (us1.set (k - 1 + vs.length) d).length = us.length := by rw [List.length_set]; exact hl1
   have hdF : Dg 4294967296 (us1.set (k - 1 + vs.length) d) := hd1.set _ hd4
   have hltF := oX (by decide) hV0 om om (by rw [dF om]; exact ht1) hs2 hG2
   have hUF := iO (qs := qs) (j := k - 1) om (by rw [show k - 1 + 1 = k by omega]; exact hU) hs2
   refine aI (z := 6) J <| Um J J <| Um J J <| Um J J <| aA (cI ((q1 : Int)) (cN J J J) (by rw [IntKind.wrap_u32]; omega)) J <| aA (cH (j := k - 1) J J J J om om J) J <| bH (fG (f := d32) (us := qs) q1 J J J (g1 (by decide) (g1 (by decide) g0)) (fun _ => rfl) J J om J) <| Wn <| aF <| Ck [6,7,8,9,10,11] J <| aI (z := 3) J <| Um J J <| aA (cI (((k - 1 : Nat) : Int) - 1) (cE J J om) om) J <| Ua J J <| Wn <| aG <| ⟨⟨k - 1, (us1.set (k - 1 + vs.length) d), qs.set (k - 1) q1⟩, ⟨rfl, congrArg some (by rw [List.length_set]), rfl, rfl, congrArg some (by rw [List.length_set]), rfl, trivial⟩, ⟨g1 (by decide) g0, g0, trivial⟩, ⟨by rw [hlF]; omega, by rw [hlF]; exact hul, by rw [List.length_set]; exact hql0, hdF, hqd.set _ om, hUF, hltF, om⟩, by show k - 1 < k; omega⟩
  have hneg : u < c + b := by
   rcases Nat.lt_or_ge u (c + b) with h | h
   ·exact h
   ·rw [if_neg om] at h184; simp at h184
  have hs2 := kU (o := 1) (d := d) he1 om (by rw [← hue]; omega)
  have hlT : (us1.set (k - 1 + vs.length) d).length = us.length := by rw [List.length_set]; exact hl1
  have hdT : Dg 4294967296 (us1.set (k - 1 + vs.length) d) := hd1.set _ hd4
  have htT : (us1.set (k - 1 + vs.length) d).take (k - 1) = us.take (k - 1) := by rw [dF om]; exact ht1
  have hpT : (us1.set (k - 1 + vs.length) d).drop (k - 1 + vs.length + 1) = us.drop (k - 1 + vs.length + 1) := by rw [dU om]; exact gO hp1 om
  obtain ⟨hgt, hq1p⟩ := neg_gt (by decide) hdT om hlT hRB hpT htT hs2
  refine Wn <| aT J <| aB <| Rg 3 J <| Um J J <| aA (cI (((q1 - 1 : Nat) : Int)) (jB J J) om) J <| Ua J J <| Wn <| aB <| Rg 1 J <| Ua J J <| Wn <| aB <| aB <| Rg 3 J <| Um J J <| aA (aW J J) J <| Um J J <| Nk [6,7,8,9,10,11,13,22,187,188,189] J <| aL <| bF (α := Nat × Nat × (List Nat)) (fun ⟨i2, c2, us3⟩ => [(6, .v (.int .i64 (sh : Int))), (7, .ref (0 + 2 + 8 + 2) 1 0 us3.length), (8, .sl 1 (vs.map d32)), (9, .v (.int .i64 (vs.length : Int))), (10, .ref (0 + 2 + 8 + 9 + 3 + 4) 1 0 qs.length), (11, .v (.int .i64 ((k : Int) - 1))), (13, .v (.int .u64 ((q1 - 1 : Nat) : Int))), (22, .v (.int .u32 (c2 : Int))), (187, .sl 1 (vs.map d32)), (188, .v (.int .i64 (vs.length : Int))), (189, .v (.int .i64 (i2 : Int)))]) (fun ⟨i2, c2, us3⟩ => [((0 + 2 + 8 + 2), { cells := (us3.map d32).flatten, sz := 1, elem := 162, st := 0 }), ((0 + 2 + 8 + 9 + 3 + 4), { cells := (qs.map d32).flatten, sz := 1, elem := 162, st := 0 })]) (fun ⟨i2, c2, us3⟩ n => i2 ≤ vs.length ∧ us3.length = us.length ∧ Dg 4294967296 us3 ∧ c2 ≤ 1 ∧ val 4294967296 us3 + 4294967296 ^ (k - 1 + i2) * c2 = val 4294967296 (us1.set (k - 1 + vs.length) d) + 4294967296 ^ (k - 1) * val 4294967296 (vs.take i2) ∧ us3.take (k - 1) = us.take (k - 1) ∧ us3.drop (k - 1 + vs.length) = (us1.set (k - 1 + vs.length) d).drop (k - 1 + vs.length) ∧ 30 ≤ n) (fun ⟨i2, c2, us3⟩ => vs.length - i2) (0, 0, (us1.set (k - 1 + vs.length) d)) ⟨rfl, congrArg some (by rw [List.length_set]), rfl, rfl, rfl, rfl, rfl, rfl, rfl, rfl, rfl, trivial⟩ ⟨g0, g1 (by decide) (g1 (by decide) g0), trivial⟩ ⟨Nat.zero_le _, hlT, hdT, by decide, by simp [val], htT, rfl, om⟩ ?_
  rintro ⟨i2, c2, us3⟩ n hM
  change WC _ _ _ _ _ (_ :: _) (_ :: _) n _
  obtain ⟨hi2, hl3, hd3, hc3, he3, ht3, hp3, hn33⟩ := hM
  refine Rg 1 J <| aA (bZ J J) J <| bB (fun h190 => ?_) (fun h190 => ?_)
  ·refine Wn <| aT J <| aH <| aL <| Rg 5 J <| Um J J <| aA (cG J J J J J om J) J <| aA (dY J J J) J <| Ua J J <| Ua J J <| Nk [6,7,8,9,10,11,13,22,23,24,187,188,189] J ?_
   have hu3 : us3.getD (k - 1 + i2) default < 4294967296 := bP hd3 om
   have hv3 : vs.getD i2 default < 4294967296 := bP hvd om
   refine aI (z := 19) J <| Um J J <| Um J J <| Um J J <| aA (cI (((k - 1 + i2 : Nat) : Int)) (aO J J om) om) J <| Um J J <| Um J J <| Um J J <| aA (cI (((k - 1 + i2 : Nat) : Int)) (aO J J om) om) J <| aA (cH (j := k - 1 + i2) J J J J om om J) J <| aA (eC (f := d32) (us := us3) (j := k - 1 + i2) J J g0 (fun _ => rfl) J (by decide) om J) J <| Um J J <| Um J J <| aA (aK J (kL (us3.getD (k - 1 + i2) default) (vs.getD i2 default) c2 hu3 hv3 hc3) (by simp)) J <| Um J J <| aA (fB J J) J <| aA (fB J J) J <| aA (cH (j := k - 1 + i2) J J J J om om J) J <| bH (fG (f := d32) (us := us3) ((us3.getD (k - 1 + i2) default + vs.getD i2 default + c2) % 4294967296) J J J g0 (fun _ => rfl) J J om J) <| Ua J J <| Wn <| aF <| Ck [6,7,8,9,10,11,13,22,187,188,189] J <| aI (z := 2) J ?_
   refine aA (cI (((i2 + 1 : Nat) : Int)) (aO J J om) om) J <| Um J J <| Wn <| aG <| ⟨⟨i2 + 1, _, us3.set (k - 1 + i2) ((us3.getD (k - 1 + i2) default + vs.getD i2 default + c2) % 4294967296)⟩, ⟨rfl, congrArg some (by rw [List.length_set]), rfl, rfl, rfl, rfl, rfl, rfl, rfl, rfl, rfl, trivial⟩, ⟨g0, g1 (by decide) (g1 (by decide) g0), trivial⟩, ⟨om, by rw [List.length_set]; exact hl3, hd3.set _ om, om, kY he3 om, by rw [dF om]; exact ht3, by rw [dU om]; exact hp3, om⟩, by show vs.length - (i2 + 1) < vs.length - i2; omega⟩
  refine Wn <| aX J <| bA <| aS <| aR J ?_
  have hi' : i2 = vs.length := by omega
  subst hi'
  rw [List.take_of_length_le (Nat.le_refl _)] at he3
  have hu3 : us3.getD (k - 1 + vs.length) default < 4294967296 := bP hd3 om
  refine Rg 10 J <| Um J J <| Um J J <| Um J J <| aA (cI (((k - 1 + vs.length : Nat) : Int)) (aO J J om) om) J <| aA (cH (j := k - 1 + vs.length) J J J J om om J) J <| aA (eC (f := d32) (us := us3) (j := k - 1 + vs.length) J J g0 (fun _ => rfl) J (by decide) om J) J <| Um J J <| aA (cI ((((us3.getD (k - 1 + vs.length) default + c2) % 4294967296 : Nat) : Int)) (oAdd32 J J) om) J <| aA (cH (j := k - 1 + vs.length) J J J J om om J) J <| bH (fG (f := d32) (us := us3) ((us3.getD (k - 1 + vs.length) default + c2) % 4294967296) J J J g0 (fun _ => rfl) J J om J) <| Nk [6,7,8,9,10,11,13] J ?_
  have hlF : (us3.set (k - 1 + vs.length) ((us3.getD (k - 1 + vs.length) default + c2) % 4294967296)).length = us.length := by rw [List.length_set]; exact hl3
  have hdF : Dg 4294967296 (us3.set (k - 1 + vs.length) ((us3.getD (k - 1 + vs.length) default + c2) % 4294967296)) := hd3.set _ om
  have h4 := kX he3 om
  obtain ⟨hs4, hltF⟩ := rB (by decide) hV0 hdF om hlF hRB (by rw [dU om]; exact (gO hp3 om).trans hpT) (by rw [dF om]; exact ht3) hs2 h4 hG2 hq1p hqo hgt om
  have hUF := iO (qs := qs) (j := k - 1) om (by rw [show k - 1 + 1 = k by omega]; exact hU) hs4
  refine aI (z := 6) J <| Um J J <| Um J J <| Um J J <| aA (cI (((q1 - 1 : Nat) : Int)) (cN J J J) (by rw [IntKind.wrap_u32]; omega)) J <| aA (cH (j := k - 1) J J J J om om J) J <| bH (fG (f := d32) (us := qs) (q1 - 1) J J J (g1 (by decide) (g1 (by decide) g0)) (fun _ => rfl) J J om J) <| Wn <| aF <| aI (z := 3) J <| Um J J <| aA (cI (((k - 1 : Nat) : Int) - 1) (cE J J om) om) J <| Ua J J <| Wn <| aG <| ⟨⟨k - 1, (us3.set (k - 1 + vs.length) ((us3.getD (k - 1 + vs.length) default + c2) % 4294967296)), qs.set (k - 1) (q1 - 1)⟩, ⟨rfl, congrArg some (by rw [List.length_set]), rfl, rfl, congrArg some (by rw [List.length_set]), rfl, trivial⟩, ⟨g1 (by decide) g0, g0, trivial⟩, ⟨by rw [hlF]; omega, by rw [hlF]; exact hul, by rw [List.length_set]; exact hql0, hdF, hqd.set _ om, hUF, hltF, om⟩, by show k - 1 < k; omega⟩
 refine aC (bK J J) J <| bG (aQ kR) J <| Ck [6,7,8,9,10,11,13,14,93,94,95,96,97,98,99,100,101,102,103,104,105,106,107,108,109,110,111,112,113] J <| aT J <| aH <| dL ?_
 obtain ⟨hdc1, hdc2⟩ := lq_dec LQh hG1 hG2 (by first | exact .inl om | exact .inr om)
 refine Rg 3 J <| Um J J <| aA (cI (((qh - 1 : Nat) : Int)) (jB J J) om) J <| Ua J J <| Nk [6,7,8,9,10,11,13,14,93,94,95,96,97,98,99,100,101,102,103,104,105,106,107,108,109,110,111,112] J <| Rg 9 J <| Um J J <| Um J J <| Um J J <| aA (cE J J om) J <| aA (cG (j := vs.length - 1) J J J J om om J) J <| aA (dY J J J) J <| aA (cI ((v1 : Int)) (cN J J J) (by rw [IntKind.wrap_u64]; omega)) J <| aA (cI (((rh + v1 : Nat) : Int)) (kS J J) om) J <| Ua J J <| Nk [6,7,8,9,10,11,13,14,93,94,95,96,97,98,99,100,101,102,103,104,105,106,107,108,109,110,111,112] J <| Rg 2 J <| Um J J <| aA (hH J J) J <| bB (fun h125 => ?_) (fun h125 => ?_)
 rotate_left
 ·refine Nk [6,7,8,9,10,11,13,14,93,94,95,96,97,98,99,100,101,102,103,104,105,106,107,108,109,110,111,112,125] J <| bV J <| cA <| dG <| aG <| ⟨⟨qh - 1, rh + v1⟩, ⟨J, J, J, J, J, J, J, J, trivial⟩, ⟨g0, g1 (by decide) g0, trivial⟩, ⟨dec_eq hG1 hdc1, hdc2, om, om, om⟩, by show qh - 1 < qh; omega⟩
 refine Nk [6,7,8,9,10,11,13,14,93,94,95,96,97,98,99,100,101,102,103,104,105,106,107,108,109,110,111,112,125] J <| bY J <| qK <| kZ J <| aS <| aR J <| Ck [6,7,8,9,10,11,13,93,94,95,96,97,98,99,100,101,102,103,104,105,106,107,108,109,110,111,112] J ?_
 obtain ⟨hql, hqo⟩ := lq_break LQh hG1 hdc1 hG4 om hG3
 replace hG2 := hdc2
 obtain ⟨q1, hq1⟩ : ∃ q1, q1 = qh - 1 := ⟨_, rfl⟩
 rw [← hq1] at hqo hql hG2 ⊢
 refine Rg 2 J <| Ua J J <| Ua J J <| Nk [6,7,8,9,10,11,13,15,16,93,94,95,96,97,98,99,100,101,102,103,104,105,106,107,108,109,110,111,112] J <| aB <| Rg 3 J <| Um J J <| aA (aW J J) J <| Um J J <| Nk [6,7,8,9,10,11,13,15,16,93,94,95,96,97,98,99,100,101,102,103,104,105,106,107,108,109,110,111,112,126,127,128] J <| aL ?_
 refine bF (α := Nat × Nat × Nat × (List Nat)) (fun ⟨i, c, b, us1⟩ => [(6, .v (.int .i64 (sh : Int))), (7, .ref (0 + 2 + 8 + 2) 1 0 us1.length), (8, .sl 1 (vs.map d32)), (9, .v (.int .i64 (vs.length : Int))), (10, .ref (0 + 2 + 8 + 9 + 3 + 4) 1 0 qs.length), (11, .v (.int .i64 ((k : Int) - 1))), (13, .v (.int .u64 (q1 : Int))), (15, .v (.int .u64 (b : Int))), (16, .v (.int .u64 (c : Int))), (126, .sl 1 (vs.map d32)), (127, .v (.int .i64 (vs.length : Int))), (128, .v (.int .i64 (i : Int)))]) (fun ⟨i, c, b, us1⟩ => [((0 + 2 + 8 + 2), { cells := (us1.map d32).flatten, sz := 1, elem := 162, st := 0 }), ((0 + 2 + 8 + 9 + 3 + 4), { cells := (qs.map d32).flatten, sz := 1, elem := 162, st := 0 })]) (fun ⟨i, c, b, us1⟩ n => i ≤ vs.length ∧ us1.length = us.length ∧ Dg 4294967296 us1 ∧ c < 4294967296 ∧ b ≤ 1 ∧ val 4294967296 us1 + 4294967296 ^ (k - 1) * (q1 * val 4294967296 (vs.take i)) = val 4294967296 us + 4294967296 ^ (k - 1 + i) * (c + b) ∧ us1.take (k - 1) = us.take (k - 1) ∧ us1.drop (k - 1 + i) = us.drop (k - 1 + i) ∧ 30 ≤ n) (fun ⟨i, c, b, us1⟩ => vs.length - i) (0, 0, 0, us) ⟨J, J, J, J, J, J, J, J, J, J, J, J, trivial⟩ ⟨g0, g1 (by decide) g0, trivial⟩ ⟨Nat.zero_le _, rfl, hud, by decide, by decide, by simp [val], rfl, rfl, om⟩ ?_
 rintro ⟨i, c, b, us1⟩ n hL
 change WC _ _ _ _ _ (_ :: _) (_ :: _) n _
 obtain ⟨hi, hl1, hd1, hc1, hb1, he1, ht1, hp1, hn32⟩ := hL
 refine Rg 1 J <| aA (bZ J J) J <| bB (fun h129 => ?_) (fun h129 => ?_)
 ·refine Wn <| aT J <| aH <| aL ?_
  have hvi : vs.getD i default < 4294967296 := bP hvd om
  have hui : us1.getD (k - 1 + i) default < 4294967296 := bP hd1 om
  have hqv := jF hql hvi
  obtain ⟨p, hpe⟩ : ∃ p, p = q1 * vs.getD i default + c := ⟨_, rfl⟩
  obtain ⟨u, hue⟩ : ∃ u, u = us1.getD (k - 1 + i) default := ⟨_, rfl⟩
  have hpb : p < 18446744073709551616 := by omega
  obtain ⟨d, hde⟩ : ∃ d, d = (u + 4294967296 - p % 4294967296 - b) % 4294967296 := ⟨_, rfl⟩
  refine Rg 5 J <| Um J J <| aA (cG J J J J J om J) J <| aA (dY J J J) J <| Ua J J <| Ua J J <| Nk [6,7,8,9,10,11,13,15,16,17,18,126,127,128] J <| Rg 7 J <| Um J J <| Um J J <| aA (cI ((vs.getD i default : Int)) (cN J J J) (by rw [IntKind.wrap_u64]; omega)) J <| aA (cI (((q1 * vs.getD i default : Nat) : Int)) (nD J J) (by rw [← Int.natCast_mul]; omega)) J <| Um J J <| aA (cI ((p : Int)) (kS J J) om) J <| Ua J J <| Nk [6,7,8,9,10,11,13,15,17,19,126,127,128] J <| Rg 3 J <| Um J J <| aA (cI (((p / 4294967296 : Nat) : Int)) (fS (s := 32) J J om) om) J <| Ua J J <| Nk [6,7,8,9,10,11,13,15,16,17,19,126,127,128] J ?_
  refine Rg 14 J <| Um J J <| Um J J <| Um J J <| aA (cI (((k - 1 + i : Nat) : Int)) (aO J J om) om) J <| aA (cH (j := k - 1 + i) J J J J om om J) J <| aA (eC (f := d32) (us := us1) (j := k - 1 + i) J J g0 (fun _ => rfl) J (by decide) om J) J <| aA (cI ((u : Int)) (cN J J J) (by rw [IntKind.wrap_u64]; omega)) J <| Um J J <| aA (cI (((p % 4294967296 : Nat) : Int)) (cN J J J) (by rw [IntKind.wrap_u32]; omega)) J <| aA (cI (((p % 4294967296 : Nat) : Int)) (cN J J J) (by rw [IntKind.wrap_u64]; omega)) J <| aA (jB J J) J <| Um J J <| aA (cI (((((u + 18446744073709551616 - p % 4294967296 - b) % 18446744073709551616) : Nat) : Int)) (jB J J) om) J <| Ua J J <| Nk [6,7,8,9,10,11,13,16,17,20,126,127,128] J <| Rg 8 J <| Um J J <| Um J J <| Um J J <| aA (cI (((k - 1 + i : Nat) : Int)) (aO J J om) om) J <| Um J J <| aA (cI ((d : Int)) (cN J J J) (by rw [IntKind.wrap_u32]; omega)) J ?_
  refine aA (cH (j := k - 1 + i) J J J J om om J) J <| bH (fG (f := d32) (us := us1) d J J J g0 (fun _ => rfl) J J om J) <| Nk [6,7,8,9,10,11,13,16,20,126,127,128] J <| aI (z := 3) J <| Um J J <| aA (cI (((if u < p % 4294967296 + b then 1 else 0 : Nat) : Int)) (fS (s := 63) J J om) (by split <;> omega)) J <| Ua J J <| Wn <| aF <| Ck [6,7,8,9,10,11,13,15,16,126,127,128] J <| aI (z := 2) J <| aA (cI (((i + 1 : Nat) : Int)) (aO J J om) om) J <| Um J J <| Wn <| aG <| ⟨⟨i + 1, p / 4294967296, if u < p % 4294967296 + b then 1 else 0, us1.set (k - 1 + i) d⟩, ⟨rfl, congrArg some (by rw [List.length_set]), rfl, rfl, rfl, rfl, rfl, rfl, rfl, rfl, rfl, rfl, trivial⟩, ⟨g0, g1 (by decide) (g1 (by decide) g0), trivial⟩, ⟨om, by rw [List.length_set]; exact hl1, hd1.set _ om, om, by split <;> omega, ?_, by rw [dF om]; exact ht1, by rw [dU om]; exact gO hp1 om, om⟩, by show vs.length - (i + 1) < vs.length - i; omega⟩
  rw [hpe]
  exact mI he1 om (by rw [← hpe, ← hue, hde]; split <;> omega)
 refine Wn <| aX J <| bA <| aS <| aR J ?_
 have hi' : i = vs.length := by omega
 subst hi'
 rw [List.take_of_length_le (Nat.le_refl _)] at he1
 obtain ⟨u, hue⟩ : ∃ u, u = us1.getD (k - 1 + vs.length) default := ⟨_, rfl⟩
 have hul1 : u < 4294967296 := by rw [hue]; exact bP hd1 om
 obtain ⟨d, hde⟩ : ∃ d, d = (u + 4294967296 - c - b) % 4294967296 := ⟨_, rfl⟩
 have hd4 : d < 4294967296 := by omega
 refine Rg 12 J <| Um J J <| Um J J <| Um J J <| aA (cI (((k - 1 + vs.length : Nat) : Int)) (aO J J om) om) J <| aA (cH (j := k - 1 + vs.length) J J J J om om J) J <| aA (eC (f := d32) (us := us1) (j := k - 1 + vs.length) J J g0 (fun _ => rfl) J (by decide) om J) J <| aA (cI ((u : Int)) (cN J J J) (by rw [IntKind.wrap_u64]; omega)) J <| Um J J <| aA (jB J J) J <| Um J J <| aA (cI (((((u + 18446744073709551616 - c - b) % 18446744073709551616) : Nat) : Int)) (jB J J) om) J <| Ua J J <| Nk [6,7,8,9,10,11,13,21] J <| Rg 8 J <| Um J J <| Um J J <| Um J J <| aA (cI (((k - 1 + vs.length : Nat) : Int)) (aO J J om) om) J <| Um J J <| aA (cI ((d : Int)) (cN J J J) (by rw [IntKind.wrap_u32]; omega)) J <| aA (cH (j := k - 1 + vs.length) J J J J om om J) J <| bH (fG (f := d32) (us := us1) d J J J g0 (fun _ => rfl) J J om J) ?_
 refine Nk [6,7,8,9,10,11,13,21] J <| aB <| Rg 3 J <| Um J J <| aA (cI (((if u < c + b then 1 else 0 : Nat) : Int)) (fS (s := 63) J J om) (by split <;> omega)) J <| aA (dV J J) J <| bB (fun h184 => ?_) (fun h184 => ?_)
 rotate_left
 ·have hneg : c + b ≤ u := by
   rcases Nat.lt_or_ge u (c + b) with h | h
   ·rw [if_pos h] at h184; simp at h184
   ·exact h
  have hs2 := kU (o := 0) (d := d) he1 om (by rw [← hue]; omega)
  rw [Nat.mul_zero, Nat.add_zero] at hs2
  refine Wn <| aX J <| aH ?_
  have hlF : (us1.set (k - 1 + vs.length) d).length = us.length := by rw [List.length_set]; exact hl1
  have hdF : Dg 4294967296 (us1.set (k - 1 + vs.length) d) := hd1.set _ hd4
  have hltF := oX (by decide) hV0 om om (by rw [dF om]; exact ht1) hs2 hG2
  have hUF := iO (qs := qs) (j := k - 1) om (by rw [show k - 1 + 1 = k by omega]; exact hU) hs2
  refine aI (z := 6) J <| Um J J <| Um J J <| Um J J <| aA (cI ((q1 : Int)) (cN J J J) (by rw [IntKind.wrap_u32]; omega)) J <| aA (cH (j := k - 1) J J J J om om J) J <| bH (fG (f := d32) (us := qs) q1 J J J (g1 (by decide) (g1 (by decide) g0)) (fun _ => rfl) J J om J) <| Wn <| aF <| Ck [6,7,8,9,10,11] J <| aI (z := 3) J <| Um J J <| aA (cI (((k - 1 : Nat) : Int) - 1) (cE J J om) om) J <| Ua J J <| Wn <| aG <| ⟨⟨k - 1, (us1.set (k - 1 + vs.length) d), qs.set (k - 1) q1⟩, ⟨rfl, congrArg some (by rw [List.length_set]), rfl, rfl, congrArg some (by rw [List.length_set]), rfl, trivial⟩, ⟨g1 (by decide) g0, g0, trivial⟩, ⟨by rw [hlF]; omega, by rw [hlF]; exact hul, by rw [List.length_set]; exact hql0, hdF, hqd.set _ om, hUF, hltF, om⟩, by show k - 1 < k; omega⟩
 have hneg : u < c + b := by
  rcases Nat.lt_or_ge u (c + b) with h | h
  ·exact h
  ·rw [if_neg om] at h184; simp at h184
 have hs2 := kU (o := 1) (d := d) he1 om (by rw [← hue]; omega)
 have hlT : (us1.set (k - 1 + vs.length) d).length = us.length := by rw [List.length_set]; exact hl1
 have hdT : Dg 4294967296 (us1.set (k - 1 + vs.length) d) := hd1.set _ hd4
 have htT : (us1.set (k - 1 + vs.length) d).take (k - 1) = us.take (k - 1) := by rw [dF om]; exact ht1
 have hpT : (us1.set (k - 1 + vs.length) d).drop (k - 1 + vs.length + 1) = us.drop (k - 1 + vs.length + 1) := by rw [dU om]; exact gO hp1 om
 obtain ⟨hgt, hq1p⟩ := neg_gt (by decide) hdT om hlT hRB hpT htT hs2
 refine Wn <| aT J <| aB <| Rg 3 J <| Um J J <| aA (cI (((q1 - 1 : Nat) : Int)) (jB J J) om) J <| Ua J J <| Wn <| aB <| Rg 1 J <| Ua J J <| Wn <| aB <| aB <| Rg 3 J <| Um J J <| aA (aW J J) J <| Um J J <| Nk [6,7,8,9,10,11,13,22,187,188,189] J <| aL <| bF (α := Nat × Nat × (List Nat)) (fun ⟨i2, c2, us3⟩ => [(6, .v (.int .i64 (sh : Int))), (7, .ref (0 + 2 + 8 + 2) 1 0 us3.length), (8, .sl 1 (vs.map d32)), (9, .v (.int .i64 (vs.length : Int))), (10, .ref (0 + 2 + 8 + 9 + 3 + 4) 1 0 qs.length), (11, .v (.int .i64 ((k : Int) - 1))), (13, .v (.int .u64 ((q1 - 1 : Nat) : Int))), (22, .v (.int .u32 (c2 : Int))), (187, .sl 1 (vs.map d32)), (188, .v (.int .i64 (vs.length : Int))), (189, .v (.int .i64 (i2 : Int)))]) (fun ⟨i2, c2, us3⟩ => [((0 + 2 + 8 + 2), { cells := (us3.map d32).flatten, sz := 1, elem := 162, st := 0 }), ((0 + 2 + 8 + 9 + 3 + 4), { cells := (qs.map d32).flatten, sz := 1, elem := 162, st := 0 })]) (fun ⟨i2, c2, us3⟩ n => i2 ≤ vs.length ∧ us3.length = us.length ∧ Dg 4294967296 us3 ∧ c2 ≤ 1 ∧ val 4294967296 us3 + 4294967296 ^ (k - 1 + i2) * c2 = val 4294967296 (us1.set (k - 1 + vs.length) d) + 4294967296 ^ (k - 1) * val 4294967296 (vs.take i2) ∧ us3.take (k - 1) = us.take (k - 1) ∧ us3.drop (k - 1 + vs.length) = (us1.set (k - 1 + vs.length) d).drop (k - 1 + vs.length) ∧ 30 ≤ n) (fun ⟨i2, c2, us3⟩ => vs.length - i2) (0, 0, (us1.set (k - 1 + vs.length) d)) ⟨rfl, congrArg some (by rw [List.length_set]), rfl, rfl, rfl, rfl, rfl, rfl, rfl, rfl, rfl, trivial⟩ ⟨g0, g1 (by decide) (g1 (by decide) g0), trivial⟩ ⟨Nat.zero_le _, hlT, hdT, by decide, by simp [val], htT, rfl, om⟩ ?_
 rintro ⟨i2, c2, us3⟩ n hM
 change WC _ _ _ _ _ (_ :: _) (_ :: _) n _
 obtain ⟨hi2, hl3, hd3, hc3, he3, ht3, hp3, hn33⟩ := hM
 refine Rg 1 J <| aA (bZ J J) J <| bB (fun h190 => ?_) (fun h190 => ?_)
 ·refine Wn <| aT J <| aH <| aL <| Rg 5 J <| Um J J <| aA (cG J J J J J om J) J <| aA (dY J J J) J <| Ua J J <| Ua J J <| Nk [6,7,8,9,10,11,13,22,23,24,187,188,189] J ?_
  have hu3 : us3.getD (k - 1 + i2) default < 4294967296 := bP hd3 om
  have hv3 : vs.getD i2 default < 4294967296 := bP hvd om
  refine aI (z := 19) J <| Um J J <| Um J J <| Um J J <| aA (cI (((k - 1 + i2 : Nat) : Int)) (aO J J om) om) J <| Um J J <| Um J J <| Um J J <| aA (cI (((k - 1 + i2 : Nat) : Int)) (aO J J om) om) J <| aA (cH (j := k - 1 + i2) J J J J om om J) J <| aA (eC (f := d32) (us := us3) (j := k - 1 + i2) J J g0 (fun _ => rfl) J (by decide) om J) J <| Um J J <| Um J J <| aA (aK J (kL (us3.getD (k - 1 + i2) default) (vs.getD i2 default) c2 hu3 hv3 hc3) (by simp)) J <| Um J J <| aA (fB J J) J <| aA (fB J J) J <| aA (cH (j := k - 1 + i2) J J J J om om J) J <| bH (fG (f := d32) (us := us3) ((us3.getD (k - 1 + i2) default + vs.getD i2 default + c2) % 4294967296) J J J g0 (fun _ => rfl) J J om J) <| Ua J J <| Wn <| aF <| Ck [6,7,8,9,10,11,13,22,187,188,189] J <| aI (z := 2) J ?_
  refine aA (cI (((i2 + 1 : Nat) : Int)) (aO J J om) om) J <| Um J J <| Wn <| aG <| ⟨⟨i2 + 1, _, us3.set (k - 1 + i2) ((us3.getD (k - 1 + i2) default + vs.getD i2 default + c2) % 4294967296)⟩, ⟨rfl, congrArg some (by rw [List.length_set]), rfl, rfl, rfl, rfl, rfl, rfl, rfl, rfl, rfl, trivial⟩, ⟨g0, g1 (by decide) (g1 (by decide) g0), trivial⟩, ⟨om, by rw [List.length_set]; exact hl3, hd3.set _ om, om, kY he3 om, by rw [dF om]; exact ht3, by rw [dU om]; exact hp3, om⟩, by show vs.length - (i2 + 1) < vs.length - i2; omega⟩
 refine Wn <| aX J <| bA <| aS <| aR J ?_
 have hi' : i2 = vs.length := by omega
 subst hi'
 rw [List.take_of_length_le (Nat.le_refl _)] at he3
 have hu3 : us3.getD (k - 1 + vs.length) default < 4294967296 := bP hd3 om
 refine Rg 10 J <| Um J J <| Um J J <| Um J J <| aA (cI (((k - 1 + vs.length : Nat) : Int)) (aO J J om) om) J <| aA (cH (j := k - 1 + vs.length) J J J J om om J) J <| aA (eC (f := d32) (us := us3) (j := k - 1 + vs.length) J J g0 (fun _ => rfl) J (by decide) om J) J <| Um J J <| aA (cI ((((us3.getD (k - 1 + vs.length) default + c2) % 4294967296 : Nat) : Int)) (oAdd32 J J) om) J <| aA (cH (j := k - 1 + vs.length) J J J J om om J) J <| bH (fG (f := d32) (us := us3) ((us3.getD (k - 1 + vs.length) default + c2) % 4294967296) J J J g0 (fun _ => rfl) J J om J) <| Nk [6,7,8,9,10,11,13] J ?_
 have hlF : (us3.set (k - 1 + vs.length) ((us3.getD (k - 1 + vs.length) default + c2) % 4294967296)).length = us.length := by rw [List.length_set]; exact hl3
 have hdF : Dg 4294967296 (us3.set (k - 1 + vs.length) ((us3.getD (k - 1 + vs.length) default + c2) % 4294967296)) := hd3.set _ om
 have h4 := kX he3 om
 obtain ⟨hs4, hltF⟩ := rB (by decide) hV0 hdF om hlF hRB (by rw [dU om]; exact (gO hp3 om).trans hpT) (by rw [dF om]; exact ht3) hs2 h4 hG2 hq1p hqo hgt om
 have hUF := iO (qs := qs) (j := k - 1) om (by rw [show k - 1 + 1 = k by omega]; exact hU) hs4
 refine aI (z := 6) J <| Um J J <| Um J J <| Um J J <| aA (cI (((q1 - 1 : Nat) : Int)) (cN J J J) (by rw [IntKind.wrap_u32]; omega)) J <| aA (cH (j := k - 1) J J J J om om J) J <| bH (fG (f := d32) (us := qs) (q1 - 1) J J J (g1 (by decide) (g1 (by decide) g0)) (fun _ => rfl) J J om J) <| Wn <| aF <| aI (z := 3) J <| Um J J <| aA (cI (((k - 1 : Nat) : Int) - 1) (cE J J om) om) J <| Ua J J <| Wn <| aG <| ⟨⟨k - 1, (us3.set (k - 1 + vs.length) ((us3.getD (k - 1 + vs.length) default + c2) % 4294967296)), qs.set (k - 1) (q1 - 1)⟩, ⟨rfl, congrArg some (by rw [List.length_set]), rfl, rfl, congrArg some (by rw [List.length_set]), rfl, trivial⟩, ⟨g1 (by decide) g0, g0, trivial⟩, ⟨by rw [hlF]; omega, by rw [hlF]; exact hul, by rw [List.length_set]; exact hql0, hdF, hqd.set _ om, hUF, hltF, om⟩, by show k - 1 < k; omega⟩
end Go.Proofs.YtohfklpfeilcpaaGreat
