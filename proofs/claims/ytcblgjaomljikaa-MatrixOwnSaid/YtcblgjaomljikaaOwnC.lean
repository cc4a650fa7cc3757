/- Part C of the proof of matrixOwn_holds: what it rests on. No condition. -/
import Derived.Test.YtcblgjaomljikaaOwnB
import Derived.ChangeKeysEq
import Derived.Test.YtcblgjaomljikaaProg
set_option linter.unusedVariables false
set_option linter.unusedSimpArgs false
namespace Go.Ab
open Go.RowKit
section
variable {P : Program} {T : TT} {E : TypeId → Bool} {dst : Option Tmp} {ty : TypeId} {pos : String} {af : Array Edge} {g : Option (Nat × Bool)} {id : Nat} {e : Env} {h : Hp} {x y : Operand} {bt yt : TypeId}
theorem and1I {m : Nat} (hm : m < 9223372036854775808) : intBin .and .i64 (m : Int) 1 = some (.int .i64 ((m % 2 : Nat) : Int)) := by
 show some (Value.int .i64 (IntKind.i64.wrap ((BitVec.ofInt 64 (m : Int) &&& BitVec.ofInt 64 ((1 : Nat) : Int)).toNat : Int))) = _
 rw [dS, dS, BitVec.toNat_and, BitVec.toNat_ofNat, BitVec.toNat_ofNat, Nat.mod_eq_of_lt (show m < 2 ^ 64 by omega), Nat.mod_eq_of_lt (show 1 < 2 ^ 64 by decide), Nat.and_one_is_mod, IntWalk.i64_in _ om]
theorem oShrI {m s : Nat} {k' : IntKind} (hx : evE e x = some (.v (.int .i64 (m : Int)))) (hy : evE e y = some (.v (.int k' (s : Int)))) (hs : s ≤ 64) : OP P T E ⟨dst, .binOp .shr bt x y yt, ty, pos, af, g⟩ id e h (.v (.int .i64 ((m / 2 ^ s : Nat) : Int))) [] [] := oShift hx hy (.inr rfl) (by
 have h1 : ¬ ((s : Int) < 0) := by omega
 have h2 : min (s : Int).toNat IntKind.i64.bits = s := by simp [IntKind.bits]; omega
 simp only [shiftBin, if_neg h1, h2]
 rw [Int.fdiv_eq_ediv_of_nonneg _ (Int.pow_nonneg (by decide))]
 congr 2)
end
theorem mod_step (n i : Nat) : n % 2 ^ (i + 1) = n % 2 ^ i + 2 ^ i * (n / 2 ^ i % 2) := Nat.mod_pow_succ
theorem kW {n i : Nat} (h : i + 1 < blen n) : 0 < n / 2 ^ (i + 1) := by
 have h0 : n ≠ 0 := by rintro rfl; simp [blen] at h
 have h1 := (jU h0).1
 have h2 : 2 ^ (i + 1) ≤ 2 ^ (blen n - 1) := Nat.pow_le_pow_right (by decide) om
 exact Nat.div_pos (Nat.le_trans h2 h1) (Nat.pow_pos (by decide))
theorem blen_lt (n : Nat) : n < 2 ^ blen n := by
 by_cases h : n = 0
 ·subst h; decide
 ·exact (jU h).2
def powO (a : List M1) (n : Int) : Option (List (List NM)) := (pw (vM a) a.length n.toNat).mapM fun r => r.mapM outN
def powOk (a : List M1) (n : Int) : Bool := VM a && sqb a && (decide (0 ≤ n) && decide (n ≤ 1000))
def pow1 (a : List M1) (n : Int) : List M1 := if powOk a n = true then ((powO a n).getD []).map kM else []
def powe (a : List M1) (n : Int) : Int := if VM a = false then 1 else if sqb a = false then 2 else if (decide (0 ≤ n) && decide (n ≤ 1000)) = false then 6 else if (powO a n).isSome = true then 0 else 3
def lvPow (a : List M1) (n : Int) : LV := .tup [.sl (kd (pow1 a n).length) ((pow1 a n).map fM), .v (.int .i64 (powe a n))]
instance {a : List M1} {n : Int} : DC (lvPow a n) := ⟨.tup _ (by intro c hc; simp only [List.mem_cons, List.not_mem_nil, or_false] at hc; rcases hc with rfl | rfl; exact oV iM _ _; exact .v _)⟩
theorem lvPow_ok {a : List M1} {n : Int} (h1 : VM a = true) (h2 : sqb a = true) (h3 : 0 ≤ n) (h4 : n ≤ 1000) : lvPow a n = lvOM (powO a n) := by
 unfold lvPow pow1 powe powOk lvOM
 simp [h1, h2, h3, h4]
theorem lvPow_no1 {a : List M1} {n : Int} (h1 : VM a = false) : lvPow a n = .tup [.sl 0 [], .v (.int .i64 1)] := by unfold lvPow pow1 powe powOk; simp [h1, kd]
theorem lvPow_no2 {a : List M1} {n : Int} (h1 : VM a = true) (h2 : sqb a = false) : lvPow a n = .tup [.sl 0 [], .v (.int .i64 2)] := by unfold lvPow pow1 powe powOk; simp [h1, h2, kd]
theorem lvPow_no3 {a : List M1} {n : Int} (h1 : VM a = true) (h2 : sqb a = true) (h3 : n < 0 ∨ 1000 < n) : lvPow a n = .tup [.sl 0 [], .v (.int .i64 6)] := by
 have h4 : (decide (0 ≤ n) && decide (n ≤ 1000)) = false := by
  rcases h3 with h3 | h3
  ·rw [decide_eq_false om]; rfl
  ·rw [decide_eq_false (show ¬ n ≤ 1000 by omega), Bool.and_false]
 unfold lvPow pow1 powe powOk
 rw [h1, h2, h4]; rfl
theorem pow1_len {a : List M1} (hf : Few8 a) (n : Int) : (pow1 a n).length ≤ 70 ∧ ∀ r, r ∈ pow1 a n → r.2.length ≤ 70 := by
 unfold pow1
 split
 ·cases ho : powO a n with
  | none => simp
  | some M =>
   obtain ⟨k1, k2⟩ := eK ho
   rw [nU] at k1
   have hl := hf.ln
   refine ⟨by simp; omega, fun r hr => ?_⟩
   obtain ⟨m, hm, rfl⟩ := List.mem_map.1 (by simpa using hr)
   obtain ⟨x, hx, hxm⟩ := k2 m hm
   have h3 := (eK hxm).1
   have h4 := lS (vM a) a.length n.toNat x hx
   show m.length ≤ 70
   omega
 ·simp
theorem wdx_of {rows : List X1} {n : Nat} (hl : rows.length = n) (hw : ∀ r, r ∈ rows → r.2.length = n) : wdx rows = n := by
 unfold wdx
 split
 ·omega
 ·exact hw _ (bD om)
end Go.Ab
namespace Go.Ab
def skp (i a : Nat) : Nat := if a < i then a else a + 1
def sg : Nat → Rat
 | 0 => 1
 | i + 1 => -sg i
def det : Nat → (Nat → Nat → Rat) → Rat
 | 0, _ => 1
 | n + 1, M => sm (fun i => sg i * M i 0 * det n (fun a b => M (skp i a) (b + 1))) (n + 1)
def upd (M : Nat → Nat → Rat) (r : Nat) (U : Nat → Rat) : Nat → Nat → Rat := fun a b => if a = r then U b else M a b
theorem eZ (M : Nat → Nat → Rat) (r : Nat) (U : Nat → Rat) (b : Nat) : upd M r U r b = U b := if_pos rfl
theorem kN {M : Nat → Nat → Rat} {r a : Nat} {U : Nat → Rat} (h : a ≠ r) (b : Nat) : upd M r U a b = M a b := if_neg h
theorem eF : ∀ n {M N : Nat → Nat → Rat}, (∀ a b, a < n → b < n → M a b = N a b) → det n M = det n N
 | 0, _, _, _ => rfl
 | n + 1, M, N, h => by
  rw [det, det]
  refine cV _ fun i hi => ?_
  rw [h i 0 hi om, eF n fun a b ha hb => h (skp i a) (b + 1) (by unfold skp; split <;> omega) om]
theorem kQ : ∀ n (M : Nat → Nat → Rat) (r : Nat) (U V : Nat → Rat) (x y : Rat), r < n → det n (upd M r (fun b => x * U b + y * V b)) = x * det n (upd M r U) + y * det n (upd M r V)
 | 0, _, _, _, _, _, _, h => by omega
 | n + 1, M, r, U, V, x, y, hr => by
  rw [det, det, det, jI, jI, ← qQ]
  refine cV _ fun i hi => ?_
  by_cases e : i = r
  ·subst e
   have hm : ∀ W : Nat → Rat, (fun a b => upd M i W (skp i a) (b + 1)) = fun a b => M (skp i a) (b + 1) := by
    intro W
    funext a b
    exact kN (by unfold skp; split <;> omega) _
   rw [hm, hm, hm, eZ, eZ, eZ]
   grind
  ·have hm : ∀ W : Nat → Rat, (fun a b => upd M r W (skp i a) (b + 1)) = upd (fun a b => M (skp i a) (b + 1)) (if r < i then r else r - 1) (fun b => W (b + 1)) := by
    intro W
    funext a b
    show (if skp i a = r then W (b + 1) else M (skp i a) (b + 1)) = if a = (if r < i then r else r - 1) then W (b + 1) else M (skp i a) (b + 1)
    have h : (skp i a = r) ↔ (a = if r < i then r else r - 1) := by unfold skp; split <;> split <;> omega
    by_cases h1 : skp i a = r
    ·rw [if_pos h1, if_pos (h.1 h1)]
    ·rw [if_neg h1, if_neg (fun k => h1 (h.2 k))]
   rw [hm, hm, hm, kN e, kN e, kN e, kQ n _ _ (fun b => U (b + 1)) (fun b => V (b + 1)) x y (by split <;> omega)]
   grind
theorem sm_two {f : Nat → Rat} {r : Nat} (h : f r + f (r + 1) = 0) : ∀ n, r + 1 < n → (∀ i, i < n → i ≠ r → i ≠ r + 1 → f i = 0) → sm f n = 0
 | 0, hr, _ => by omega
 | n + 1, hr, h0 => by
  rw [sm]
  by_cases e : n = r + 1
  ·subst e
   rw [sm, show sm f r = 0 from (cV r fun i hi => h0 i om om om).trans (lB r), Rat.zero_add]
   exact h
  ·rw [sm_two h n om fun i hi => h0 i om, h0 n om om e, Rat.add_zero]
theorem oY : ∀ n {M : Nat → Nat → Rat} {r : Nat}, r + 1 < n → (∀ b, M r b = M (r + 1) b) → det n M = 0
 | 0, _, _, h, _ => by omega
 | n + 1, M, r, hr, h => by
  rw [det]
  refine sm_two (r := r) ?_ (n + 1) hr fun i hi h1 h2 => ?_
  ·have hm : (fun a b => M (skp r a) (b + 1)) = fun a b => M (skp (r + 1) a) (b + 1) := by
    funext a b
    unfold skp
    by_cases h3 : a < r
    ·rw [if_pos h3, if_pos om]
    ·rw [if_neg h3]
     by_cases h4 : a = r
     ·subst h4; rw [if_pos om]; exact (h _).symm
     ·rw [if_neg om]
   rw [hm, h 0, sg]
   grind
  ·have hz : det n (fun a b => M (skp i a) (b + 1)) = 0 := by
    by_cases h3 : i < r
    ·refine oY n (r := r - 1) om fun b => ?_
     unfold skp
     rw [if_neg om, if_neg om, show r - 1 + 1 = r by omega]
     exact h _
    ·refine oY n (r := r) om fun b => ?_
     unfold skp
     rw [if_pos om, if_pos om]
     exact h _
   rw [hz, Rat.mul_zero]
def swp (r s a : Nat) : Nat := if a = r then s else if a = s then r else a
theorem oT {n r s : Nat} (hr : r < n) (hs : s < n) (hrs : r ≠ s) (alt : ∀ M : Nat → Nat → Rat, (∀ b, M r b = M s b) → det n M = 0) (M : Nat → Nat → Rat) : det n (fun a b => M (swp r s a) b) = -det n M := by
 have two : ∀ U V : Nat → Rat, det n (upd (upd M r U) s V) + det n (upd (upd M r V) s U) = 0 := by
  intro U V
  have h0 := alt (upd (upd M r (fun b => 1 * U b + 1 * V b)) s (fun b => 1 * U b + 1 * V b)) fun b => by
   rw [eZ, kN hrs, eZ]
  have hc : ∀ A B : Nat → Rat, upd (upd M r A) s B = upd (upd M s B) r A := by
   intro A B
   funext a b
   unfold upd
   by_cases h1 : a = s
   ·rw [if_pos h1, if_neg om, if_pos h1]
   ·rw [if_neg h1, if_neg h1]
  rw [kQ n (upd M r _) s U V 1 1 hs, hc, hc, kQ n (upd M s U) r U V 1 1 hr, kQ n (upd M s V) r U V 1 1 hr, ← hc, ← hc, ← hc, ← hc] at h0
  have h1 := alt (upd (upd M r U) s U) fun b => by rw [eZ, kN hrs, eZ]
  have h2 := alt (upd (upd M r V) s V) fun b => by rw [eZ, kN hrs, eZ]
  rw [h1, h2] at h0
  grind
 have h3 := two (M r) (M s)
 have e1 : upd (upd M r (M r)) s (M s) = M := by
  funext a b
  unfold upd
  by_cases h1 : a = s
  ·rw [if_pos h1, h1]
  ·rw [if_neg h1]
   by_cases h2 : a = r
   ·rw [if_pos h2, h2]
   ·rw [if_neg h2]
 have e2 : upd (upd M r (M s)) s (M r) = fun a b => M (swp r s a) b := by
  funext a b
  unfold upd swp
  by_cases h1 : a = s
  ·rw [if_pos h1, if_neg (show ¬ a = r by omega), if_pos h1]
  ·rw [if_neg h1]
   by_cases h2 : a = r
   ·rw [if_pos h2, if_pos h2]
   ·rw [if_neg h2, if_neg h2, if_neg h1]
 rw [e1, e2] at h3
 grind
theorem nH {n : Nat} : ∀ d {M : Nat → Nat → Rat} {r : Nat}, r + d + 1 < n → (∀ b, M r b = M (r + d + 1) b) → det n M = 0
 | 0, M, r, hr, h => oY n hr h
 | d + 1, M, r, hr, h => by
  have h1 := oT (n := n) (r := r + d + 1) (s := r + d + 1 + 1) om om om (fun N hN => oY n (r := r + d + 1) om hN) M
  have h2 := @nH n d (fun a b => M (swp (r + d + 1) (r + d + 1 + 1) a) b) r om fun b => by
   unfold swp
   rw [if_neg om, if_neg om, if_pos rfl]
   exact h b
  rw [h2] at h1
  grind
theorem det_alt {n r s : Nat} (hr : r < n) (hs : s < n) (hrs : r ≠ s) {M : Nat → Nat → Rat} (h : ∀ b, M r b = M s b) : det n M = 0 := by
 rcases Nat.lt_or_ge r s with h1 | h1
 ·exact nH (s - r - 1) (r := r) om fun b => by rw [show r + (s - r - 1) + 1 = s by omega]; exact h b
 ·exact nH (r - s - 1) (r := s) om fun b => by rw [show s + (r - s - 1) + 1 = r by omega]; exact (h b).symm
structure RowF (n : Nat) (F : (Nat → Nat → Rat) → Rat) : Prop where
 congr : ∀ {M N : Nat → Nat → Rat}, (∀ a b, a < n → b < n → M a b = N a b) → F M = F N
 swap : ∀ (M : Nat → Nat → Rat) {r s : Nat}, r < n → s < n → r ≠ s → F (fun a b => M (swp r s a) b) = -F M
 scale : ∀ (M : Nat → Nat → Rat) {r : Nat} (x : Rat), r < n → F (upd M r (fun b => x * M r b)) = x * F M
 add : ∀ (M : Nat → Nat → Rat) {r s : Nat} (x : Rat), r < n → s < n → r ≠ s → F (upd M r (fun b => M r b + x * M s b)) = F M
theorem upd_self (M : Nat → Nat → Rat) (r : Nat) : upd M r (M r) = M := by
 funext a b
 unfold upd
 by_cases h : a = r
 ·rw [if_pos h, h]
 ·rw [if_neg h]
theorem jW (n : Nat) : RowF n (det n) where
 congr h := eF n h
 swap M {r s} hr hs hrs := oT hr hs hrs (fun N hN => det_alt hr hs hrs hN) M
 scale M {r} x hr := by
  have h := kQ n M r (M r) (M r) x 0 hr
  rw [upd_self] at h
  rw [show (fun b => x * M r b) = fun b => x * M r b + 0 * M r b by funext b; grind, h]
  grind
 add M {r s} x hr hs hrs := by
  have h := kQ n M r (M r) (M s) 1 x hr
  rw [upd_self, det_alt hr hs hrs (M := upd M r (M s)) (fun b => by rw [eZ, kN (Ne.symm hrs)])] at h
  rw [show (fun b => M r b + x * M s b) = fun b => 1 * M r b + x * M s b by funext b; grind, h]
  grind
def mulF (n : Nat) (M B : Nat → Nat → Rat) : Nat → Nat → Rat := fun a b => sm (fun t => M a t * B t b) n
theorem mulF_upd (n : Nat) (M B : Nat → Nat → Rat) (r : Nat) (U : Nat → Rat) : mulF n (upd M r U) B = upd (mulF n M B) r (fun b => sm (fun t => U t * B t b) n) := by
 funext a b
 unfold mulF upd
 by_cases h : a = r
 ·simp only [if_pos h]
 ·simp only [if_neg h]
theorem mul_rowF (n : Nat) (B : Nat → Nat → Rat) : RowF n (fun M => det n (mulF n M B)) where
 congr {M N} h := eF n fun a b ha hb => cV n fun t ht => by rw [h a t ha ht]
 swap M {r s} hr hs hrs := (jW n).swap (mulF n M B) hr hs hrs
 scale M {r} x hr := by
  show det n (mulF n (upd M r _) B) = _
  rw [mulF_upd, show (fun b => sm (fun t => x * M r t * B t b) n) = fun b => x * mulF n M B r b from funext fun b => by
   unfold mulF; rw [jI]; exact cV n fun t _ => Rat.mul_assoc _ _ _]
  exact (jW n).scale (mulF n M B) x hr
 add M {r s} x hr hs hrs := by
  show det n (mulF n (upd M r _) B) = _
  rw [mulF_upd, show (fun b => sm (fun t => (M r t + x * M s t) * B t b) n) = fun b => mulF n M B r b + x * mulF n M B s b from funext fun b => by
   unfold mulF; rw [jI, ← qQ]; exact cV n fun t _ => by grind]
  exact (jW n).add (mulF n M B) x hr hs hrs
def oneF : Nat → Nat → Rat := fun a b => if a = b then 1 else 0
theorem mV {f : Nat → Rat} {j : Nat} : ∀ n, j < n → (∀ i, i < n → i ≠ j → f i = 0) → sm f n = f j
 | 0, h, _ => by omega
 | n + 1, hj, h => by
  rw [sm]
  by_cases e : n = j
  ·subst e
   rw [show sm f n = 0 from (cV n fun i hi => h i om om).trans (lB n), Rat.zero_add]
  ·rw [mV n om fun i hi => h i om, h n om e, Rat.add_zero]
theorem det_one : ∀ n, det n oneF = 1
 | 0 => rfl
 | n + 1 => by
  rw [det, mV (j := 0) (n + 1) om fun i hi h0 => by rw [show oneF i 0 = 0 from if_neg h0, Rat.mul_zero, Rat.zero_mul]]
  have : (fun a b => oneF (skp 0 a) (b + 1)) = oneF := by
   funext a b
   have h1 : skp 0 a = a + 1 := if_neg om
   show (if skp 0 a = b + 1 then (1 : Rat) else 0) = if a = b then 1 else 0
   rw [h1]
   by_cases h : a = b
   ·rw [if_pos h, if_pos om]
   ·rw [if_neg h, if_neg om]
  rw [this, det_one n]
  show (1 : Rat) * (if (0 : Nat) = 0 then 1 else 0) * 1 = 1
  rw [if_pos rfl]; grind
open Go.RowKit
abbrev fm (R : List (List Rat)) : Nat → Nat → Rat := fun i j => ent R i j
theorem ent_swF {R : List (List Rat)} {i r a j : Nat} (hi : i < R.length) (hr : r < R.length) (ha : a < R.length) : ent (sw R i r) a j = ent R (swp i r a) j := by
 unfold ent sw swp
 rw [bP (by rw [List.length_set]; exact ha), bP ha]
 by_cases h1 : a = i
 ·rw [if_pos h1.symm, if_pos h1]
 ·rw [if_neg (Ne.symm h1), if_neg h1]
  by_cases h2 : a = r
  ·rw [if_pos h2.symm, if_pos h2]
  ·rw [if_neg (Ne.symm h2), if_neg h2]
theorem jY {R : List (List Rat)} {i r c a j : Nat} (ha : a < R.length) : ent (mid R i r c) a j = if a = r then 1 / ent (sw R i r) r c * ent (sw R i r) r j else ent (sw R i r) a j := by
 by_cases h : a = r
 ·rw [if_pos h, h]
  show (((((sw R i r).set r (rsc (1 / ent (sw R i r) r c) ((sw R i r).getD r default))) : List (List Rat))).getD r default).getD j default = _
  rw [bP (by rw [iI]; omega), if_pos rfl, mT]; rfl
 ·rw [if_neg h]
  show (((((sw R i r).set r (rsc (1 / ent (sw R i r) r c) ((sw R i r).getD r default))) : List (List Rat))).getD a default).getD j default = _
  rw [bP (by rw [iI]; exact ha), if_neg (Ne.symm h)]; rfl
theorem nJ {M : List (List Rat)} {w r c a j : Nat} (hw : Wid w M) (ha : a < M.length) (hj : j < w) : ent (elim M r c) a j = if a = r then ent M r j else ent M a j - ent M a c * ent M r j := by
 show ((elim M r c).getD a default).getD j default = _
 rw [nI ha]
 by_cases h : a = r
 ·subst h; rw [if_pos rfl, elr_self]; rfl
 ·rw [if_neg h]
  by_cases h0 : ent M a c = 0
  ·rw [mD (.inr h0), h0]
   show ent M a j = _
   grind
  ·rw [elr_pos h h0, mQ (by rw [hw.row ha]; exact hj), mT]
   show ent M a j + -ent M a c * ent M r j = _
   grind
structure Stp (A B : List (List Rat)) (w a r c : Nat) : Prop where
 len : B.length = A.length
 wid : Wid w B
 ha : a < A.length
 hr : r < A.length
 ne : ent A a c ≠ 0
 row : ∀ j, j < w → ent B r j = 1 / ent A a c * ent A a j
 oth : ∀ i j, i < A.length → i ≠ r → j < w → ent B i j = ent A (swp a r i) j - ent A (swp a r i) c * (1 / ent A a c * ent A a j)
theorem stp_of {A : List (List Rat)} {w a r c : Nat} (hw : Wid w A) (ha : a < A.length) (hr : r < A.length) (hc : c < w) (hne : ent A a c ≠ 0) : Stp A (elim (mid A a r c) r c) w a r c := by
 have hm : Wid w (mid A a r c) := hw.mid ha hr c
 have hml : (mid A a r c).length = A.length := mH _ _ _ _
 have hsr : ∀ j, ent (sw A a r) r j = ent A a j := fun j => jZ ha hr
 refine ⟨by rw [pV, hml], ?_, ha, hr, hne, fun j hj => ?_, fun i j hi hir hj => ?_⟩
 ·intro row hrow
  obtain ⟨k, hk, rfl⟩ := List.mem_map.1 hrow
  exact elr_len hm r c (List.mem_range.1 hk)
 ·rw [nJ hm om hj, if_pos rfl, jY hr, if_pos rfl, hsr, hsr]
 ·rw [nJ hm om hj, if_neg hir, jY hi, if_neg hir, jY hi, if_neg hir, jY hr, if_pos rfl, hsr, hsr, ent_swF ha hr hi, ent_swF ha hr hi]
structure St0 (R : List (List Rat)) (w c : Nat) : Prop where
 wid : Wid w (gjn R c).1
 led : (gjn R c).2.length ≤ R.length
theorem St0.all {R : List (List Rat)} {w : Nat} (hw : Wid w R) : ∀ c, c ≤ w → St0 R w c
 | 0, _ => ⟨hw, Nat.zero_le _⟩
 | c + 1, hc => by
  have h := St0.all hw c om
  obtain ⟨p1, p2, p3⟩ := gI (R := (gjn R c).1) (r := (gjn R c).2.length) (c := c) (by rw [cP]; exact h.led)
  by_cases e : pivot (gjn R c).1 (gjn R c).2.length c = (gjn R c).1.length
  ·rw [show St0 R w (c + 1) ↔ St0 R w c from ⟨fun _ => h, fun _ => ⟨by rw [nK e]; exact h.wid, by rw [nK e]; exact h.led⟩⟩]; exact h
  ·have hl := cP R c
   have hy := pB (a := pivot (gjn R c).1 (gjn R c).2.length c) rfl om
   have hs := stp_of (r := (gjn R c).2.length) (c := c) h.wid (show pivot (gjn R c).1 (gjn R c).2.length c < _ by omega) om om (p3 om)
   exact ⟨by rw [hy]; exact hs.wid, by rw [hy]; simp; omega⟩
theorem gjn_ind {R : List (List Rat)} {w : Nat} (hw : Wid w R) {P : Nat → List (List Rat) → List Nat → Prop} (h0 : P 0 R [])
  (hno : ∀ c S L, c < w → gjn R c = (S, L) → S.length = R.length → Wid w S → L.length ≤ R.length → P c S L → (∀ k, L.length ≤ k → k < R.length → ent S k c = 0) → P (c + 1) S L)
  (hyes : ∀ c S L B a, c < w → gjn R c = (S, L) → S.length = R.length → Wid w S → L.length ≤ a → P c S L → Stp S B w a L.length c → gjn R (c + 1) = (B, L ++ [c]) → pivot S L.length c = a → P (c + 1) B (L ++ [c])) : ∀ c, c ≤ w → P c (gjn R c).1 (gjn R c).2
 | 0, _ => h0
 | c + 1, hc => by
  have ih := gjn_ind hw h0 hno hyes c om
  have h := St0.all hw c om
  have hl := cP R c
  obtain ⟨p1, p2, p3⟩ := gI (R := (gjn R c).1) (r := (gjn R c).2.length) (c := c) (by rw [cP]; exact h.led)
  by_cases e : pivot (gjn R c).1 (gjn R c).2.length c = (gjn R c).1.length
  ·rw [nK e]
   exact hno c _ _ om rfl hl h.wid h.led ih fun k h1 h2 => qN e h1 om
  ·have hy := pB (a := pivot (gjn R c).1 (gjn R c).2.length c) rfl om
   have hs := stp_of (r := (gjn R c).2.length) (c := c) h.wid (show pivot (gjn R c).1 (gjn R c).2.length c < _ by omega) om om (p3 om)
   rw [hy]
   exact hyes c _ _ _ _ om rfl hl h.wid p1 ih hs hy rfl
theorem elim_F {n : Nat} {F : (Nat → Nat → Rat) → Rat} (hF : RowF n F) (M : Nat → Nat → Rat) (r c : Nat) (hr : r < n) : ∀ k, k ≤ n → F (fun a b => if a < k ∧ a ≠ r then M a b - M a c * M r b else M a b) = F M
 | 0, _ => hF.congr fun a b _ _ => if_neg om
 | k + 1, hk => by
  rw [← elim_F hF M r c hr k om]
  by_cases e : k = r
  ·refine hF.congr fun a b _ _ => ?_
   by_cases h : a < k ∧ a ≠ r
   ·rw [if_pos h, if_pos ⟨om, h.2⟩]
   ·rw [if_neg h, if_neg om]
  ·rw [← hF.add (fun a b => if a < k ∧ a ≠ r then M a b - M a c * M r b else M a b) (r := k) (s := r) (-(M k c)) om hr e]
   refine hF.congr fun a b _ _ => ?_
   unfold upd
   show (if a < k + 1 ∧ a ≠ r then _ else _) = if a = k then ((if k < k ∧ k ≠ r then M k b - M k c * M r b else M k b) + -M k c * (if r < k ∧ r ≠ r then M r b - M r c * M r b else M r b)) else (if a < k ∧ a ≠ r then M a b - M a c * M r b else M a b)
   by_cases h1 : a = k
   ·subst h1
    rw [if_pos ⟨om, e⟩, if_pos rfl, if_neg (show ¬ (a < a ∧ a ≠ r) by omega), if_neg (show ¬ (r < a ∧ r ≠ r) by omega)]
    grind
   ·rw [if_neg h1]
    by_cases h : a < k ∧ a ≠ r
    ·rw [if_pos h, if_pos ⟨om, h.2⟩]
    ·rw [if_neg h, if_neg om]
theorem gjn_F {n : Nat} {F : (Nat → Nat → Rat) → Rat} (hF : RowF n F) {A : List (List Rat)} (hl : A.length = n) (hw : Wid n A) : ∀ c, c ≤ n → F (fm A) = gjd A c * F (fm (gjn A c).1)
 | 0, _ => by rw [gjd, Rat.one_mul]; rfl
 | c + 1, hc => by
  rw [gjn_F hF hl hw c om]
  have h := St0.all hw c om
  have hgl := cP A c
  obtain ⟨p1, p2, p3⟩ := gI (R := (gjn A c).1) (r := (gjn A c).2.length) (c := c) (by rw [cP]; exact h.led)
  by_cases e : pivot (gjn A c).1 (gjn A c).2.length c = (gjn A c).1.length
  ·rw [gjd_no e, nK e]
  ·rw [pA rfl om, pB rfl om]
   have hne := p3 om
   have hwS := h.wid
   generalize pivot (gjn A c).1 (gjn A c).2.length c = a at *
   generalize (gjn A c).2.length = r at *
   generalize (gjn A c).1 = S at *
   generalize gjd A c = d
   have hm : Wid n (mid S a r c) := hwS.mid om om c
   have e1 : F (fm (elim (mid S a r c) r c)) = F (fm (mid S a r c)) := by
    rw [← elim_F hF (fm (mid S a r c)) r c om n (Nat.le_refl _)]
    refine hF.congr fun i j hi hj => ?_
    show ent _ i j = _
    rw [nJ hm (by rw [mH]; omega) hj]
    by_cases e2 : i = r
    ·rw [if_pos e2, if_neg om, e2]
    ·rw [if_neg e2, if_pos ⟨hi, e2⟩]
   have e2 : F (fm (mid S a r c)) = 1 / ent S a c * F (fm (sw S a r)) := by
    rw [← hF.scale (fm (sw S a r)) (r := r) (1 / ent S a c) om]
    refine hF.congr fun i j hi hj => ?_
    show ent _ i j = _
    rw [jY om, jZ om om]
    rfl
   have e3 : F (fm (sw S a r)) = if a ≠ r then -F (fm S) else F (fm S) := by
    by_cases e4 : a = r
    ·rw [if_neg om, e4, sw_same om]
    ·rw [if_pos e4, ← hF.swap (fm S) (r := a) (s := r) om om e4]
     exact hF.congr fun i j hi hj => ent_swF om om om
   rw [e1, e2, e3]
   split <;> grind
open Go.RowKit
structure RI (S : List (List Rat)) (L : List Nat) (c : Nat) : Prop where
 rk : L.length ≤ S.length
 piv : ∀ t, t < L.length → ∀ i, i < S.length → ent S i (L.getD t default) = if i = t then 1 else 0
 low : ∀ t, t < L.length → ∀ j, j < L.getD t default → ent S t j = 0
 zer : ∀ i, L.length ≤ i → i < S.length → ∀ j, j < c → ent S i j = 0
 mono : ∀ t u, t < u → u < L.length → L.getD t default < L.getD u default
 lt : ∀ t, t < L.length → L.getD t default < c
theorem lE {L : List Nat} {c t : Nat} (h : t < L.length) : (L ++ [c]).getD t default = L.getD t default := by
 simp only [List.getD_eq_getElem?_getD, List.getElem?_append_left h]
theorem mX {L : List Nat} {c : Nat} : (L ++ [c]).getD L.length default = c := by
 simp [List.getD_eq_getElem?_getD]
theorem nW {a r i : Nat} (h : i < r) (ha : r ≤ a) : swp a r i = i := by
 unfold swp; rw [if_neg om, if_neg om]
theorem swp_ge {a r i : Nat} (h : r ≤ i) (ha : r ≤ a) : r ≤ swp a r i := by
 unfold swp; split
 ·omega
 ·split <;> omega
theorem swp_len {a r i m : Nat} (h : i < m) (ha : a < m) (hr : r < m) : swp a r i < m := by
 unfold swp; split
 ·omega
 ·split <;> omega
theorem gjn_RI {R : List (List Rat)} {w : Nat} (hw : Wid w R) : ∀ c, c ≤ w → RI (gjn R c).1 (gjn R c).2 c :=
 gjn_ind hw (P := fun c S L => RI S L c)
  ⟨Nat.zero_le _, fun t ht => by simp at ht, fun t ht => by simp at ht, fun i _ _ j hj => by omega, fun t u _ hu => by simp at hu, fun t ht => by simp at ht⟩
  (fun c S L hc _ hl _ _ h hz => ⟨h.rk, h.piv, h.low, fun i h1 h2 j hj => by
   by_cases e : j = c
   ·rw [e]; exact hz i h1 om
   ·exact h.zer i h1 h2 j om, h.mono, fun t ht => by have := h.lt t ht; omega⟩)
  (fun c S L B a hc _ hl _ hla h hs _ _ => by
   have hBl := hs.len
   have hha := hs.ha
   have hp := hs.ne
   have hrow : ∀ j, j < c → ent B L.length j = 0 := fun j hj => by
    rw [hs.row j om, h.zer a hla hs.ha j hj, Rat.mul_zero]
   have hoth : ∀ i j, i < S.length → i ≠ L.length → j < c → ent B i j = ent S (swp a L.length i) j := fun i j hi hir hj => by
    rw [hs.oth i j hi hir om, h.zer a hla hs.ha j hj]; grind
   have hlo : ∀ i j, i < L.length → j < c → ent B i j = ent S i j := fun i j hi hj => by
    rw [hoth i j (by have := h.rk; omega) om hj, nW hi hla]
   have hhi : ∀ i j, L.length ≤ i → i < S.length → j < c → ent B i j = 0 := fun i j h1 h2 hj => by
    by_cases e : i = L.length
    ·rw [e]; exact hrow j hj
    ·rw [hoth i j h2 e hj]; exact h.zer _ (swp_ge h1 hla) (swp_len h2 hs.ha hs.hr) j hj
   have hc1 : ent B L.length c = 1 := by rw [hs.row c hc]; grind
   have hc0 : ∀ i, i < S.length → i ≠ L.length → ent B i c = 0 := fun i h1 h2 => by rw [hs.oth i c h1 h2 hc]; grind
   refine ⟨by simp; have := hs.hr; omega, fun t ht i hi => ?_, fun t ht j hj => ?_, fun i h1 h2 j hj => ?_, fun t u htu hu => ?_, fun t ht => ?_⟩
   ·rw [List.length_append, List.length_singleton] at ht
    by_cases e : t = L.length
    ·subst e
     rw [mX]
     by_cases e2 : i = L.length
     ·rw [e2, hc1, if_pos rfl]
     ·rw [hc0 i om e2, if_neg e2]
    ·rw [lE om]
     have hlt := h.lt t om
     by_cases e2 : i < L.length
     ·rw [hlo i _ e2 hlt]; exact h.piv t om i om
     ·rw [hhi i _ om om hlt, if_neg om]
   ·rw [List.length_append, List.length_singleton] at ht
    by_cases e : t = L.length
    ·subst e
     rw [mX] at hj; exact hrow j hj
    ·rw [lE om] at hj
     have hlt := h.lt t om
     rw [hlo t j om om]; exact h.low t om j hj
   ·rw [List.length_append, List.length_singleton] at h1
    by_cases e : j = c
    ·rw [e]; exact hc0 i om om
    ·exact hhi i j om om om
   ·rw [List.length_append, List.length_singleton] at hu
    rw [lE om]
    by_cases e : u = L.length
    ·subst e; rw [mX]; exact h.lt t htu
    ·rw [lE om]; exact h.mono t u htu om
   ·rw [List.length_append, List.length_singleton] at ht
    by_cases e : t = L.length
    ·subst e; rw [mX]; omega
    ·rw [lE om]; have := h.lt t om; omega)
def rd (R : List (List Rat)) (w : Nat) (v : Nat → Rat) (i : Nat) : Rat := sm (fun j => ent R i j * v j) w
theorem RI.ge {S : List (List Rat)} {L : List Nat} {c : Nat} (h : RI S L c) : ∀ t, t < L.length → t ≤ L.getD t default
 | 0, _ => Nat.zero_le _
 | t + 1, ht => by have := h.ge t om; have := h.mono t (t + 1) om ht; omega
theorem RI.le {S : List (List Rat)} {L : List Nat} {c : Nat} (h : RI S L c) : ∀ d t, t < L.length → L.length - 1 - t = d → L.getD t default + d < c
 | 0, t, ht, _ => by have := h.lt t ht; omega
 | d + 1, t, ht, hd => by have := h.le d (t + 1) om om; have := h.mono t (t + 1) om om; omega
theorem RI.unit {S : List (List Rat)} {L : List Nat} {c : Nat} (h : RI S L c) (hc : L.length = c) {i j : Nat} (hi : i < S.length) (hj : j < c) : ent S i j = if i = j then 1 else 0 := by
 have h1 := h.ge j om
 have h2 := h.le _ j om rfl
 have h3 := h.piv j om i hi
 rw [show L.getD j default = j by omega] at h3
 exact h3
theorem RowF.zero {n : Nat} {F : (Nat → Nat → Rat) → Rat} (hF : RowF n F) (M : Nat → Nat → Rat) {r : Nat} (hr : r < n) (h : ∀ b, b < n → M r b = 0) : F M = 0 := by
 have h1 := hF.scale M (r := r) 0 hr
 rw [Rat.zero_mul] at h1
 rw [← h1]
 refine hF.congr fun a b ha hb => ?_
 unfold upd
 by_cases e : a = r
 ·rw [if_pos e, e, h b hb]; exact (Rat.zero_mul _).symm
 ·rw [if_neg e]
def dtv (A : List (List Rat)) (n : Nat) : Rat := if (gjn A n).2.length < n then 0 else gjd A n
theorem gjn_end {n : Nat} {F : (Nat → Nat → Rat) → Rat} (hF : RowF n F) {A : List (List Rat)} (hl : A.length = n) (hw : Wid n A) : F (fm A) = dtv A n * F oneF := by
 have hR := gjn_RI hw n (Nat.le_refl _)
 have hgl := cP A n
 have h := gjn_F hF hl hw n (Nat.le_refl _)
 have hrk := hR.rk
 unfold dtv
 by_cases e : (gjn A n).2.length < n
 ·rw [if_pos e, h, hF.zero (fm (gjn A n).1) (r := n - 1) om (fun b hb => hR.zer (n - 1) om om b hb)]; grind
 ·rw [if_neg e, h]
  congr 1
  exact hF.congr fun a b ha hb => hR.unit om om hb
theorem det_dtv {n : Nat} {A : List (List Rat)} (hl : A.length = n) (hw : Wid n A) : det n (fm A) = dtv A n := by
 rw [gjn_end (jW n) hl hw, det_one, Rat.mul_one]
theorem det_mulF {n : Nat} {A : List (List Rat)} (hl : A.length = n) (hw : Wid n A) (B : Nat → Nat → Rat) : det n (mulF n (fm A) B) = dtv A n * det n B := by
 rw [gjn_end (mul_rowF n B) hl hw]
 congr 1
 refine eF n fun a b ha hb => ?_
 unfold mulF
 rw [mV n ha fun i hi hne => by rw [show oneF a i = 0 from if_neg (Ne.symm hne), Rat.zero_mul], show oneF a a = 1 from if_pos rfl, Rat.one_mul]
open Go.RowKit
def ev (w : Nat) (y : List Rat) : Nat → Rat := fun j => if j < w then y.getD j default else -1
def two (n : Nat) (x y : Nat → Rat) : Nat → Rat := fun j => if j < n then x j else y (j - n)
open Go.RowKit
theorem outN_some {q : Rat} {y : NM} (h : outN q = some y) : VN y ∧ nq y = q := by
 unfold outN at h
 split at h
 ·rename_i hc
  obtain ⟨⟨h1, h2⟩, h3⟩ := hc
  cases h
  have := q.den_pos
  refine ⟨⟨by show (1 : Int) ≤ (q.den : Int); omega, h3, h2, h1, ?_⟩, Rat.num_divInt_den q⟩
  show Int.gcd q.num (q.den : Int) = 1
  have := q.reduced
  unfold Nat.Coprime at this
  rw [Int.gcd, Int.natAbs_natCast]; exact this
 ·cases h
theorem VN.i64 {y : NM} (h : VN y) : I64 y.1 ∧ I64 y.2 := by
 obtain ⟨k1, k2, k3, k4, _⟩ := h
 unfold I64; omega
section
variable {P : Program} {T : TT} {E : TypeId → Bool} {N : Nat} {oa : Array Oper} {i b n z id : Nat} {e : Env} {h : Hp} {Q : Env → Hp → Prop} {K : Ex → Env → Hp → Nat → Prop} {t dst : Nat} {pos : String} {af : Array Edge} {l : List Oper} {x : Operand} {r : LV} {acc : List Rec} {c : Code} {o : Oper} {k : IntKind} {u : Int} {d : Delta} {R : List Nat}
theorem Um (hx : evE e x = some r) (hd : Nat.blt dst N = true) (q : WO P T E N oa l (i + 1) b ((dst, r) :: e) h Q) : WO P T E N oa (⟨some dst, .move x, t, pos, af, none⟩ :: l) i b e h Q := aA (cR hx) hd q
theorem Ua (hx : evE e x = some r) (hd : Nat.blt dst N = true) (q : WO P T E N oa l (i + 1) b ((dst, r) :: e) h Q) : WO P T E N oa (⟨some dst, .assign x, t, pos, af, none⟩ :: l) i b e h Q := aA (fV hx) hd q
theorem Dm (hx : evE e x = some r) (hd : Nat.blt dst N = true) (q : WD P T E N oa l (i + 1) b ((dst, r) :: e) h (⟨i, [], [], false⟩ :: acc) Q) : WD P T E N oa (⟨some dst, .move x, t, pos, af, none⟩ :: l) i b e h acc Q := aL (cR hx) hd q
theorem Wn (q : Q e h) : WO P T E N oa [] i b e h Q := cM q
theorem Nw (a : Env) (hs : subs a e) (q : WC P T E N c a h n K) : WO P T E N oa [] i b e h (fun e' m' => WC P T E N c e' m' n K) := cM (oX a hs q)
theorem Rg (z : Nat) (hz : oa.size = z) (q : WO P T E N oa oa.toList 0 n e h fun e' m' => WC P T E N c e' m' (n + z) K) : WC P T E N (.seq (.region id oa false) c) e h n K := WC.reg hz q
def pickE : List Nat → Env → Option Env
 | [], _ => some []
 | t :: ts, e => match e.get t, pickE ts e with
  | some v, some a => some ((t, v) :: a)
  | _, _ => none
theorem lQ : ∀ {ts : List Nat} {e a : Env}, pickE ts e = some a → subs a e
 | [], e, a, h => by simp only [pickE, Option.some.injEq] at h; subst h; trivial
 | t :: ts, e, a, h => by
  simp only [pickE] at h
  cases h1 : e.get t with
  | none => rw [h1] at h; cases h
  | some v =>
   cases h2 : pickE ts e with
   | none => rw [h1, h2] at h; cases h
   | some a' =>
    rw [h1, h2] at h; cases h
    exact ⟨h1, lQ h2⟩
theorem Nk {a : Env} (ts : List Nat) (hs : pickE ts e = some a) (q : WC P T E N c a h n K) : WO P T E N oa [] i b e h (fun e' m' => WC P T E N c e' m' n K) := cM (oX a (lQ hs) q)
theorem Ck {a : Env} (ts : List Nat) (hs : pickE ts e = some a) (q : WC P T E N c a h n K) : WC P T E N c e h n K := oX a (lQ hs) q
theorem K1 {op : Op} {g : Option (Nat × Bool)} (hg : guardE oa ⟨some dst, op, t, pos, af, g⟩ e = some false) (hd : Nat.blt dst N = true) (k : WO P T E N oa l (i + 1) b ((dst, .v undef) :: e) h Q) : WO P T E N oa (⟨some dst, op, t, pos, af, g⟩ :: l) i b e h Q := WO.K hg hd k
theorem gG {s : Nat} {y : Option Ob} (q : getH h s = y := by repeat (first | exact g0 | refine g1 om ?_)) : getH h s = y := q
theorem dD {p : Prop} (q : p := by first | exact dc | exact dc1 | (simp [-bG]; done) | simp) : p := q
theorem cI (v : Int) (q : OP P T E o id e h (.v (.int k u)) d R) (hv : u = v) : OP P T E o id e h (.v (.int k v)) d R := OP.castI q hv
end
theorem J {α : Sort _} {a : α} : a = a := rfl
theorem kR {p : Prop} (q : p := by kernel_rfl) : p := q
theorem cW {a b : Nat} (h : Nat.ble a b = true) : a ≤ b := Nat.le_of_ble_eq_true h
end Go.Ab
namespace Go.Ab
open Go.RowKit
structure GB (R : List (List Rat)) (cols β : Nat) : Prop where
 pos : 2 ≤ β
 bds : ∀ c, c < cols → BdL β (gjn R c).1
 dts : ∀ c, c < cols → Bd β (gjd R c)
structure GI3 (R : List (List Rat)) (w β cols c : Nat) : Prop where
 bds : c < cols → BdL β (gjn R c).1
 wid : Wid w (gjn R c).1
 led : (gjn R c).2.length ≤ R.length
 ldc : ∀ x, x ∈ (gjn R c).2 → x < c
theorem GB.all {R : List (List Rat)} {cols β w : Nat} (h : GB R cols β) (hw : Wid w R) (hcw : cols ≤ w) (c : Nat) (hc : c ≤ cols) : GI3 R w β cols c where
 bds hcc := h.bds c hcc
 wid := (St0.all hw c om).wid
 led := (St0.all hw c om).led
 ldc x hx := by
  obtain ⟨t, ht, rfl⟩ := List.mem_iff_getElem.1 hx
  have := (gjn_RI hw c om).lt t ht
  rw [List.getD_eq_getElem?_getD, List.getElem?_eq_getElem ht] at this
  exact this
open Go.RowKit
theorem gC {q sz : Nat} {el : TypeId} {us : List (List LV)} {h H : Hp} (hq : us ≠ [] → getH H q = some { cells := us.flatten, sz := sz, elem := el, st := 0 }) (hs : subsM h H) : subsM (outH q sz el us h) H := by
 cases us with
 | nil => exact hs
 | cons u us => exact ⟨hq (by simp), hs⟩
section
variable {P : Program} {T : TT} {E : TypeId → Bool} {N : Nat} {e : Env} {h : Hp} {K : Env → Hp → Prop}
variable {dst : Option Tmp} {ty : TypeId} {pos : String} {af : Array Edge} {g : Option (Nat × Bool)} {id : Nat} {x y : Operand} {bt : TypeId} {ti : TI}
end
end Go.Ab
namespace Go.Ab
open Go.RowKit
abbrev BR := Int × NM
abbrev CH := NM × (Nat × List BR)
abbrev ST := (Int × Int) × (Nat × List CH)
def brc (b : BR) : List LV := [.v (.int .i64 b.1), .v (.int .i64 b.2.1), .v (.int .i64 b.2.2)]
def chc (c : CH) : List LV := [.v (.int .i64 c.1.1), .v (.int .i64 c.1.2), .sl c.2.1 (c.2.2.map brc)]
def stc (s : ST) : List LV := [.v (.int .i64 s.1.1), .v (.int .i64 s.1.2), .sl s.2.1 (s.2.2.map chc)]
def lvC (c : CH) : LV := .agg (chc c)
def lvMo (k : Nat) (ss : List ST) : LV := .agg [.sl k (ss.map stc)]
theorem dbrc {bs : List BR} : ∀ row, row ∈ bs.map brc → ∀ c, c ∈ row → Data c := by
 intro row hr c hc
 obtain ⟨b, _, rfl⟩ := List.mem_map.1 hr
 simp only [brc, List.mem_cons, List.not_mem_nil, or_false] at hc
 rcases hc with rfl | rfl | rfl <;> exact .v _
theorem dchc1 (c : CH) : ∀ x, x ∈ chc c → Data x := by
 intro x hx
 simp only [chc, List.mem_cons, List.not_mem_nil, or_false] at hx
 rcases hx with rfl | rfl | rfl
 ·exact .v _
 ·exact .v _
 ·exact .sl _ _ fun row hr c hc => dbrc row hr c hc
theorem dchc {cs : List CH} : ∀ row, row ∈ cs.map chc → ∀ c, c ∈ row → Data c := by
 intro row hr c hc
 obtain ⟨b, _, rfl⟩ := List.mem_map.1 hr
 exact dchc1 b c hc
theorem dstc1 (s : ST) : ∀ x, x ∈ stc s → Data x := by
 intro x hx
 simp only [stc, List.mem_cons, List.not_mem_nil, or_false] at hx
 rcases hx with rfl | rfl | rfl
 ·exact .v _
 ·exact .v _
 ·exact .sl _ _ fun row hr c hc => dchc row hr c hc
theorem dstc {ss : List ST} : ∀ row, row ∈ ss.map stc → ∀ c, c ∈ row → Data c := by
 intro row hr c hc
 obtain ⟨b, _, rfl⟩ := List.mem_map.1 hr
 exact dstc1 b c hc
def psum (bs : List BR) : Nat → Rat
 | 0 => 0
 | i + 1 => psum bs i + nq (bs.getD i default).2
instance {c : CH} : DC (lvC c) := ⟨.agg _ (dchc1 c)⟩
instance {k : Nat} {ss : List ST} : DC (lvMo k ss) := ⟨.agg _ (by intro c hc; rw [List.mem_singleton] at hc; subst hc; exact .sl _ _ fun row hr c hc => dstc row hr c hc)⟩
open Go.RowKit
def ic (n : Int) : List LV := [.v (.int .i64 n)]
theorem dic {l : List Int} : ∀ row, row ∈ l.map ic → ∀ c, c ∈ row → Data c := by
 intro row hr c hc
 obtain ⟨b, _, rfl⟩ := List.mem_map.1 hr
 rw [ic, List.mem_singleton] at hc
 subst hc; exact .v _
open Go.RowKit
section
variable {P : Program} {T : TT} {E : TypeId → Bool} {e : Env} {h : Hp}
variable {dst : Option Tmp} {ty : TypeId} {pos : String} {af : Array Edge} {g : Option (Nat × Bool)} {id : Nat} {x y : Operand} {bt el : TypeId} {ti te : TI}
end
def sb (f : Nat → Bool) : List LV := (List.range 40).map fun i => .v (.bool (f i))
def lvS (f : Nat → Bool) : LV := .agg (sb f)
theorem data_sb (f : Nat → Bool) : ∀ c, c ∈ sb f → Data c := fun c hc => by
 obtain ⟨i, _, rfl⟩ := List.mem_map.1 hc
 exact .v _
instance {f : Nat → Bool} : DC (lvS f) := ⟨.agg _ (data_sb f)⟩
section
variable {P : Program} {T : TT} {E : TypeId → Bool} {e : Env} {h : Hp}
variable {dst : Option Tmp} {ty : TypeId} {pos : String} {af : Array Edge} {g : Option (Nat × Bool)} {id : Nat} {x y : Operand} {bt el : TypeId} {ti te : TI}
end
def inl (l : List Int) (i : Nat) (s : Nat) : Bool := (l.take i).any fun t => decide (t = s)
def inL (l : List Int) (s : Nat) : Bool := l.any fun t => decide (t = s)
end Go.Ab
namespace Go.Ab
open Go.RowKit
theorem mE {P : Program} {w : World} {e : TypeId} (he : P.underlying e = some .bool) (hp : P.plainKey e = true) (hc : P.cellsOf e = 1) (xs ys : Array Value) : ∀ is : List Nat,
  (∀ i, i ∈ is → ∃ p q, xs[i]? = some (.bool p) ∧ ys[i]? = some (.bool q)) →
  ∃ r : Bool, (Op.eqItems 9999 e 1 xs ys is).run P w = .ok r w ∧ (r = true ↔ ∀ i, i ∈ is → xs[i]? = ys[i]?)
 | [], _ => ⟨true, by simp [Op.eqItems], by simp⟩
 | i :: is, h => by
  obtain ⟨p, q, h1, h2⟩ := h i (by simp)
  obtain ⟨r, h3, h4⟩ := mE he hp hc xs ys is fun j hj => h j (by simp [hj])
  have p1 := run_part_plain (P := P) w hp (xs := xs) (off := i) h1
  have p2 := run_part_plain (P := P) w hp (xs := ys) (off := i) h2
  have p3 : (Op.equalIn 9999 e (.bool p) (.bool q)).run P w = .ok (p == q) w := run_equalIn_bool w 9998 _ _ _ he
  simp only [Op.eqItems, Nat.mul_one, Sem.run_bind, p1, p2, p3, Result.andThen_ok]
  cases hpq : (p == q)
  ·refine ⟨false, by simp, ⟨fun h => (by cases h), fun h => ?_⟩⟩
   have := h i (by simp)
   rw [h1, h2] at this
   simp at this
   rw [this] at hpq; simp at hpq
  ·refine ⟨r, by simpa using h3, ?_⟩
   have : p = q := by simpa using hpq
   subst this
   rw [h4]
   simp [h1, h2]
theorem eqOk_arr {P : Program} {t e : TypeId} {n : Nat} {i : TypeInfo} (hg : P.eqGuardType P.depth t = false) (ht : P.underlying t = some (.array n e)) (hi : P.info? e = some i) (he : P.underlying e = some .bool) (hp : P.plainKey e = true) (hce : P.cellsOf e = 1) (hc : P.cellsOf t = n) : EqOk P t := by
 refine ⟨hg, fun xs ys w h1 h2 h3 => ?_⟩
 unfold EqKind at h3
 rw [ht] at h3
 obtain ⟨r, h4, h5⟩ := mE (w := w) he hp hce xs ys (List.range n) fun i hi => by
  rw [List.mem_range] at hi
  have hx : i < xs.size := by omega
  have hy : i < ys.size := by omega
  obtain ⟨p, q, k1, k2⟩ := h3 i xs[i] ys[i] (Array.getElem?_eq_getElem hx) (Array.getElem?_eq_getElem hy)
  exact ⟨p, q, by rw [Array.getElem?_eq_getElem hx, k1], by rw [Array.getElem?_eq_getElem hy, k2]⟩
 refine ⟨r, ?_, h5.trans ⟨fun h => ?_, fun h => by rw [h]; simp⟩⟩
 ·rw [run_equalIn_array w 9999 xs ys ht hi, hce]; exact h4
 ·refine Array.ext h1 fun i hi hi' => ?_
  have := h i (List.mem_range.2 om)
  rw [Array.getElem?_eq_getElem hi, Array.getElem?_eq_getElem hi'] at this
  exact Option.some.inj this
def tab {α : Type} (n : Nat) (f : Nat → α) : List α := (List.range n).map f
def fset {α : Type} (f : Nat → α) (j : Nat) (a : α) : Nat → α := fun i => if i = j then a else f i
theorem fT {α : Type} (n : Nat) (f : Nat → α) : (tab n f).length = n := by simp [tab]
theorem tab_get {α : Type} [Inhabited α] {n j : Nat} (f : Nat → α) (h : j < n) : (tab n f).getD j default = f j := by
 rw [List.getD_eq_getElem?_getD, List.getElem?_eq_getElem (by rw [fT]; exact h)]
 simp [tab]
theorem tab_eq {α : Type} {n : Nat} {f g : Nat → α} (h : ∀ i, i < n → f i = g i) : tab n f = tab n g := List.map_congr_left fun i hi => h i (List.mem_range.1 hi)
def bc (b : Bool) : List LV := [.v (.bool b)]
theorem dbc (b : Bool) : ∀ c, c ∈ bc b → Data c := by intro c hc; rw [bc, List.mem_singleton] at hc; subst hc; exact .v _
def fl (n : Nat) (f : Nat → Bool) : List Int := ((List.range n).filter f).map fun (i : Nat) => (i : Int)
abbrev lvL (k : Nat) (l : List Int) : LV := .sl k (l.map ic)
abbrev lvF (k n : Nat) (f : Nat → Bool) : LV := .sl k ((tab n f).map bc)
abbrev lvG (k n : Nat) (g : Nat → Int) : LV := .sl k ((tab n g).map ic)
theorem dlvL (k : Nat) (l : List Int) : Data (lvL k l) := .sl _ _ dic
theorem dlvF (k n : Nat) (f : Nat → Bool) : Data (lvF k n f) := .sl _ _ (aU dbc)
instance {k : Nat} {l : List Int} : DC (lvL k l) := ⟨dlvL k l⟩
instance {k n : Nat} {f : Nat → Bool} : DC (lvF k n f) := ⟨dlvF k n f⟩
instance {k n : Nat} {f : Nat → Int} : DC (lvG k n f) := ⟨dlvL k _⟩
section
variable {P : Program} {T : TT} {E : TypeId → Bool} {e : Env} {h : Hp}
variable {dst : Option Tmp} {ty : TypeId} {pos : String} {af : Array Edge} {g : Option (Nat × Bool)} {id : Nat}
def Lent (h : Hp) (S : List Nat) : Prop := ∀ q, q ∈ S → ∃ o, getH h q = some o ∧ o.st ≠ 2
inductive SnapB (h : Hp) (S : List Nat) : List LV → List LV → Prop
 | nil : SnapB h S [] []
 | cons {l l' : LV} {ls ls' : List LV} : (∀ m, FitsM h m → Snap m (· ∈ S) l l') → SnapB h S ls ls' → SnapB h S (l :: ls) (l' :: ls')
theorem SnapB.snap {m : Mem} {S : List Nat} {d : Delta} {ls ls' : List LV} (hm : FitsM h m) (hk : keys d = S) (hw : SnapB h S ls ls') : SnapL m d ls ls' := by
 subst hk
 induction hw with
 | nil => exact ⟨rfl, by simp⟩
 | cons h1 _ ih =>
  refine ⟨by simp [ih.1], fun i l l' hl hl' => ?_⟩
  cases i with
  | zero => simp at hl hl'; subst hl; subst hl'; exact h1 m hm
  | succ i => simp at hl hl'; exact ih.2 i l l' hl hl'
theorem SnapB.data {S : List Nat} {l : LV} {ls ls' : List LV} (hl : Data l) (k : SnapB h S ls ls') : SnapB h S (l :: ls) (l :: ls') := .cons (fun m _ => .data _ hl) k
theorem SnapB.own {S : List Nat} {q sz len : Nat} {ob : Ob} {ls ls' : List LV} (ys : List (List LV)) (hlen : len = ys.length) (hq : getH h q = some ob) (h2 : ob.st ≠ 2) (hz : ob.sz = sz) (h0 : 0 < sz) (hS : q ∈ S) (hc : ob.cells = ys.flatten) (hl : ∀ row, row ∈ ys → row.length = sz) (hd : ∀ row, row ∈ ys → ∀ c, c ∈ row → Data c) (k : SnapB h S ls ls') :
  SnapB h S (.ref q sz 0 len :: ls) (.sl 1 ys :: ls') := .cons (fun m hm => by
   subst hlen
   obtain ⟨d, hk⟩ : ∃ d : Delta, keys d = S := ⟨S.map fun q => (q, ⟨[], 0, 0, 0⟩), by simp [keys, Function.comp_def]⟩
   subst hk
   exact lD hq h2 hz h0 hS hc hl hd m hm) k
theorem snapBox {S : List Nat} {q : Nat} {ob : Ob} {ds : List LV} {m : Mem} (hq : m q = some ob) (h2 : ob.st ≠ 2) (hS : q ∈ S) (hlen : ob.cells.length = ds.length) (ho : ∀ (i : Nat) (c d : LV), ob.cells[i]? = some c → ds[i]? = some d → d.one = c.one) (hd : ∀ (i : Nat) (c d : LV), ob.cells[i]? = some c → ds[i]? = some d → Snap m (· ∈ S) c d) :
  Snap m (· ∈ S) (.ptr q 0) (.ro ds) := .ptr q 0 ob ds hq hS h2 (by simpa using hlen) (by simpa using ho) (by simpa using hd)
theorem snapBoxD {S : List Nat} {q : Nat} {ob : Ob} {m : Mem} (hq : m q = some ob) (h2 : ob.st ≠ 2) (hS : q ∈ S) (hd : ∀ c, c ∈ ob.cells → Data c) : Snap m (· ∈ S) (.ptr q 0) (.ro ob.cells) :=
 snapBox hq h2 hS rfl (fun i c d hc hd => by rw [hc] at hd; cases hd; rfl) fun i c d hc hd' => by rw [hc] at hd'; cases hd'; exact .data _ (hd c (List.mem_of_getElem? hc))
end
end Go.Ab
namespace Go.Ab
open Go.RowKit
section
variable {P : Program} {T : TT} {E : TypeId → Bool} {e : Env} {h : Hp}
variable {dst : Option Tmp} {ty : TypeId} {pos : String} {af : Array Edge} {g : Option (Nat × Bool)} {id : Nat} {x y : Operand} {bt el : TypeId} {ti te : TI}
end
def wi (c : CH) (f : Nat → Bool) : Bool := c.2.2.all fun b => f b.1.toNat
def me (c : CH) (f : Nat → Bool) : Bool := c.2.2.any fun b => f b.1.toNat
def okc (f g : Nat → Bool) (c : CH) : Bool := wi c f && me c g
def alw (ss : List ST) (s : Nat) (p : Int) (f g : Nat → Bool) : Bool :=
 if (ss.getD s default).1.1 = p then (ss.getD s default).2.2.any (okc f g) else (ss.getD s default).2.2.all (okc f g)
structure WT (ss : List ST) : Prop where
 to : ∀ s, s ∈ ss → ∀ c, c ∈ s.2.2 → ∀ b, b ∈ c.2.2 → 0 ≤ b.1 ∧ b.1 < ss.length
 len : ss.length ≤ 40
end Go.Ab
namespace Go.Ab
open Go.RowKit
section
variable {P : Program} {T : TT} {E : TypeId → Bool} {e : Env} {h : Hp}
variable {dst : Option Tmp} {ty : TypeId} {pos : String} {af : Array Edge} {g : Option (Nat × Bool)} {id : Nat}
theorem SnapB.get {S : List Nat} {m : Mem} (hm : FitsM h m) {ls ls' : List LV} (hw : SnapB h S ls ls') : ls.length = ls'.length ∧ ∀ (i : Nat) (c d : LV), ls[i]? = some c → ls'[i]? = some d → Snap m (· ∈ S) c d := by
 induction hw with
 | nil => exact ⟨rfl, by simp⟩
 | cons h1 _ ih =>
  refine ⟨by simp [ih.1], fun i l l' hl hl' => ?_⟩
  cases i with
  | zero => simp at hl hl'; subst hl; subst hl'; exact h1 m hm
  | succ i => simp at hl hl'; exact ih.2 i l l' hl hl'
theorem SnapB.fn {S : List Nat} {f : Fn} {as0 as1 bs bs' ls ls' : List LV} (h1 : SnapB h S as0 as1) (h2 : SnapB h S bs bs') (k : SnapB h S ls ls') : SnapB h S (.fn f as0 bs :: ls) (.fn f as1 bs' :: ls') :=
 .cons (fun m hm => .fn f _ _ _ _ (h1.get hm).1 (h2.get hm).1 (h1.get hm).2 (h2.get hm).2) k
theorem SnapB.box {S : List Nat} {q : Nat} {ob : Ob} {ls ls' : List LV} (hq : getH h q = some ob) (hS : q ∈ S) (h2 : ob.st ≠ 2) (hd : ∀ c, c ∈ ob.cells → Data c) (k : SnapB h S ls ls') : SnapB h S (.ptr q 0 :: ls) (.ro ob.cells :: ls') :=
 .cons (fun m hm => snapBoxD (hm _ _ hq) h2 hS hd) k
theorem SnapB.app {S : List Nat} {as0 as1 bs bs' : List LV} (h1 : SnapB h S as0 as1) (h2 : SnapB h S bs bs') : SnapB h S (as0 ++ bs) (as1 ++ bs') := by
 induction h1 with
 | nil => exact h2
 | cons k _ ih => exact .cons k ih
theorem Lent.cons {q : Nat} {S : List Nat} {o : Ob} (hq : getH h q = some o) (h2 : o.st ≠ 2) (k : Lent h S) : Lent h (q :: S) := fun r hr => by
 rcases List.mem_cons.1 hr with rfl | hr
 ·exact ⟨o, hq, h2⟩
 ·exact k r hr
end
theorem d0 : ∀ c, c ∈ ([] : List LV) → Data c := by intro c hc; simp at hc
def pk (x : ST) (p : Int) (q : CH → Bool) : Int := if x.1.1 = p then fidx q x.2.2 else if x.2.2.any (fun c => !q c) then -1 else 0
end Go.Ab
namespace Go.Ab
open Go.RowKit
def gstep (ss : List ST) (p : Int) (ins old : Nat → Bool) (s : Nat) : Bool := old s || (decide (s < ss.length) && ins s && alw ss s p ins old)
def newc (ss : List ST) (p : Int) (ins old : Nat → Bool) (c : Nat → Int) (s : Nat) : Int :=
 if (!old s && decide (s < ss.length) && ins s && alw ss s p ins old && decide ((ss.getD s default).1.1 = p)) = true then pk (ss.getD s default) p (okc ins old) else c s
def gx (ss : List ST) (p : Int) (ins goal : Nat → Bool) : Nat → Nat → Bool
 | 0 => goal
 | k + 1 => gstep ss p ins (gx ss p ins goal k)
def gc (ss : List ST) (p : Int) (ins goal : Nat → Bool) : Nat → Nat → Int
 | 0 => fun _ => 0
 | k + 1 => newc ss p ins (gx ss p ins goal k) (gc ss p ins goal k)
section
variable {P : Program} {T : TT} {E : TypeId → Bool} {N : Nat} {oa : Array Oper} {l : List Oper} {i b n : Nat} {e : Env} {h : Hp} {Q : Env → Hp → Nat → Prop}
theorem jQ (a : Hp) (hs : Hp.le a h) (k : WN P T E N oa l i b e a n Q) : WN P T E N oa l i b e h n Q := fun hd s m hf hm => k hd s m hf fun t l hg => hm t l (hs t l hg)
theorem WN.weakM (a : Hp) (hs : subsM a h) (k : WN P T E N oa l i b e a n Q) : WN P T E N oa l i b e h n Q := jQ a hs.get k
end
end Go.Ab
namespace Go.Ab
open Go.RowKit
theorem WN.S0 {P : Program} {T : TT} {E : TypeId → Bool} {N : Nat} {oa : Array Oper} {i b n : Nat} {e : Env} {h : Hp} {Q : Env → Hp → Nat → Prop} {op : Op} {t : TypeId} {pos : String} {af : Array Edge} {l : List Oper} {r : LV} {d : Delta} {R : List Nat} (ho : OP P T E ⟨none, op, t, pos, af, none⟩ (b + i) e h r d R)
  (k : WN P T E N oa l (i + 1) b e (appH d h) n Q) : WN P T E N oa (⟨none, op, t, pos, af, none⟩ :: l) i b e h n Q := by
 intro hdr s m hs hm
 obtain ⟨hi, hl⟩ := eS hdr
 obtain ⟨rs, s', h1, h3⟩ := k hl _ _ hs (hm.app d)
 refine ⟨⟨i, keys d, R, false⟩ :: rs, s', ?_, h3⟩
 rw [List.length_cons, List.range'_succ]
 exact .did oa i _ b ⟨s, m, n⟩ s' rs _ r d R (by simpa using hi) rfl (ho s m (fun x l hx => dN hs hx) hm) h1
section
variable {ss : List ST} {p : Int} {g : Nat → Bool} (hg : ∀ s, g s = true → s < ss.length)
include hg
end
structure VM1 (ss : List ST) : Prop where
 wt : WT ss
 own : ∀ x, x ∈ ss → 0 ≤ x.1.1 ∧ x.1.1 ≤ 1
 cs : ∀ x, x ∈ ss → 1 ≤ x.2.2.length ∧ x.2.2.length ≤ 8
 bs : ∀ x, x ∈ ss → ∀ c, c ∈ x.2.2 → 1 ≤ c.2.2.length ∧ c.2.2.length ≤ 8
 pos : 1 ≤ ss.length
end Go.Ab
namespace Go.Ab
open Go.RowKit
section
variable {P : Program} {T : TT} {E : TypeId → Bool} {e : Env} {h : Hp}
variable {dst : Option Tmp} {ty : TypeId} {pos : String} {af : Array Edge} {g : Option (Nat × Bool)} {id : Nat} {x y lo hi : Operand} {bt el : TypeId} {ti te : TI} {k : Nat}
end
theorem qU {α : Type} {n : Nat} (f : Nat → α) : tab (n + 1) f = tab n f ++ [f n] := by simp [tab, List.range_succ]
def hit (bs : List BR) (t : Nat) : Bool := bs.any fun b => decide (b.1.toNat = t)
def nxt (ss : List ST) (s t : Nat) : Bool := (ss.getD s default).2.2.any fun c => hit c.2.2 t
def wst (k s : Nat) (g : Nat → Int) (t : Int) : Nat → Int := if g s < 0 ∧ g t.toNat = k then fset g s (k + 1) else g
def w3 (k s : Nat) (g : Nat → Int) (l : List Int) (i : Nat) : Nat → Int := (l.take i).foldl (wst k s) g
def w2 (ss : List ST) (k : Nat) (g : Nat → Int) : Nat → Nat → Int
 | 0 => g
 | j + 1 => w3 k j (w2 ss k g j) (fl ss.length (nxt ss j)) (fl ss.length (nxt ss j)).length
def winit (l : List Int) (s : Nat) : Int := if inL l s = true then 0 else -1
def w1 (ss : List ST) (l : List Int) : Nat → Nat → Int
 | 0 => winit l
 | k + 1 => w2 ss k (w1 ss l k) ss.length
def vSt (ss : List ST) (st : List Int) : Bool := decide (st.length = ss.length) && (List.range st.length).all fun i => decide (0 ≤ st.getD i default) && decide (st.getD i default < ((ss.getD i default).2.2.length : Int))
theorem tab_mem {α : Type} {n : Nat} {f : Nat → α} {x : α} : x ∈ tab n f ↔ ∃ i, i < n ∧ f i = x := by
 unfold tab
 rw [List.mem_map]
 exact ⟨fun ⟨i, h1, h2⟩ => ⟨i, List.mem_range.1 h1, h2⟩, fun ⟨i, h1, h2⟩ => ⟨i, List.mem_range.2 h1, h2⟩⟩
theorem vSt_at {ss : List ST} {st : List Int} (h : vSt ss st = true) {i : Nat} (hi : i < ss.length) : 0 ≤ st.getD i default ∧ st.getD i default < ((ss.getD i default).2.2.length : Int) := by
 unfold vSt at h
 rw [Bool.and_eq_true] at h
 have h1 := of_decide_eq_true h.1
 have h2 := List.all_eq_true.1 h.2 i (List.mem_range.2 om)
 rw [Bool.and_eq_true] at h2
 exact ⟨of_decide_eq_true h2.1, of_decide_eq_true h2.2⟩
end Go.Ab
namespace Go.Ab
open Go.RowKit
section
variable {P : Program} {T : TT} {E : TypeId → Bool} {e : Env} {h : Hp}
variable {dst : Option Tmp} {ty : TypeId} {pos : String} {af : Array Edge} {g : Option (Nat × Bool)} {id : Nat} {x y : Operand} {bt el : TypeId} {te : TI}
end
end Go.Ab
namespace Go.Ab
open Go.RowKit
end Go.Ab
namespace Go.Ab
open Go.RowKit
theorem HasC.i64 {T : TT} {t : TypeId} {cs : List LV} (h : HasC T t cs) (ht : dsc T t = some (.int .i64)) : ∃ z, cs = [.v (.int .i64 z)] ∧ I64 z := by
 cases h with
 | int _ k n h1 h2 h3 => rw [ht] at h1; cases h1; exact ⟨n, rfl, h2, h3⟩
 | bool _ b h1 => rw [ht] at h1; cases h1
 | nil _ e h1 => rw [ht] at h1; cases h1
 | sl _ e xs h1 => rw [ht] at h1; cases h1
 | st _ ti fs cs h1 h2 => unfold dsc at ht; rw [h1] at ht; simp only [Option.some.injEq] at ht; rw [h2] at ht; cases ht
open Go.RowKit
def Rk (k : Nat) (g g' : Nat → Int) : Prop := ∀ r, (0 ≤ g r → g' r = g r) ∧ (g r < 0 → g' r = g r ∨ g' r = k + 1)
theorem Rk.refl (k : Nat) (g : Nat → Int) : Rk k g g := fun r => ⟨fun _ => rfl, fun _ => .inl rfl⟩
theorem Rk.wst {k s : Nat} {g g' : Nat → Int} (h : Rk k g g') (t : Int) : Rk k g (wst k s g' t) := by
 unfold Go.Ab.wst
 by_cases hc : g' s < 0 ∧ g' t.toNat = k
 ·rw [if_pos hc]
  intro r
  unfold fset
  by_cases e : r = s
  ·subst e
   rw [if_pos rfl]
   refine ⟨fun h0 => ?_, fun _ => .inr rfl⟩
   have := (h r).1 h0
   omega
  ·rw [if_neg e]; exact h r
 ·rw [if_neg hc]; exact h
theorem Rk.fold {k s : Nat} {g : Nat → Int} : ∀ (L : List Int) {g' : Nat → Int}, Rk k g g' → Rk k g (L.foldl (Go.Ab.wst k s) g')
 | [], _, h => h
 | t :: L, _, h => Rk.fold L (h.wst t)
theorem Rk.w2 {ss : List ST} {k : Nat} {g : Nat → Int} : ∀ j, Rk k g (Go.Ab.w2 ss k g j)
 | 0 => .refl _ _
 | j + 1 => Rk.fold _ (Rk.w2 j)
section
variable {ss : List ST} {l : List Int}
end
end Go.Ab
namespace Go.Ab
open Go.RowKit
section
variable {ss : List ST} {p : Int} {g : Nat → Bool} (hn : ss.length ≤ 40) (hg : ∀ s, g s = true → s < ss.length)
include hn hg
end
def tos (c : CH) : List Int := c.2.2.map (·.1)
structure Alk (ss ss' : List ST) : Prop where
 len : ss.length = ss'.length
 own : ∀ s, s < ss.length → (ss.getD s default).1.1 = (ss'.getD s default).1.1
 cs : ∀ s, s < ss.length → (ss.getD s default).2.2.map tos = (ss'.getD s default).2.2.map tos
theorem wi_tos {c : CH} {f : Nat → Bool} : wi c f = (tos c).all fun t => f t.toNat := by unfold wi tos; rw [List.all_map]; rfl
theorem me_tos {c : CH} {f : Nat → Bool} : me c f = (tos c).any fun t => f t.toNat := by unfold me tos; rw [List.any_map]; rfl
theorem okc_tos {f g : Nat → Bool} : okc f g = (fun l : List Int => (l.all fun t => f t.toNat) && (l.any fun t => g t.toNat)) ∘ tos := by
 funext c; unfold okc; rw [wi_tos, me_tos]; rfl
theorem Alk.alw {ss ss' : List ST} (h : Alk ss ss') {s : Nat} (hs : s < ss.length) {p : Int} {f g : Nat → Bool} : Go.Ab.alw ss s p f g = Go.Ab.alw ss' s p f g := by
 unfold Go.Ab.alw
 rw [h.own s hs, okc_tos, ← List.any_map, ← List.all_map, h.cs s hs, List.any_map, List.all_map]
theorem Alk.gstep {ss ss' : List ST} (h : Alk ss ss') {p : Int} {ins old : Nat → Bool} : Go.Ab.gstep ss p ins old = Go.Ab.gstep ss' p ins old := by
 funext s
 unfold Go.Ab.gstep
 rw [← h.len]
 by_cases hs : s < ss.length
 ·rw [h.alw hs]
 ·rw [decide_eq_false hs]; rfl
theorem Alk.gx {ss ss' : List ST} (h : Alk ss ss') {p : Int} {ins g : Nat → Bool} : ∀ k, Go.Ab.gx ss p ins g k = Go.Ab.gx ss' p ins g k
 | 0 => rfl
 | k + 1 => by
  show Go.Ab.gstep ss p ins (Go.Ab.gx ss p ins g k) = Go.Ab.gstep ss' p ins (Go.Ab.gx ss' p ins g k)
  rw [h.gx k, h.gstep]
end Go.Ab
namespace Go.Ab
open Go.RowKit
section
variable {P : Program} {T : TT} {E : TypeId → Bool} {N : Nat} {e : Env} {h : Hp} {K : Env → Hp → Prop}
end
def KC (c : CH) : Prop := c.2.1 = 0 → c.2.2 = []
def KN (ss : List ST) : Prop := ∀ x, x ∈ ss → ∀ c, c ∈ x.2.2 → KC c
end Go.Ab
namespace Go.Ab
open Go.RowKit
section
variable {ss : List ST} {l : List Int} {p : Int} {L st : List Int} {b : Bool}
end
theorem KN.ne {ss : List ST} (h : KN ss) (hV : VM1 ss) : ∀ x, x ∈ ss → ∀ c, c ∈ x.2.2 → c.2.1 ≠ 0 := fun x hx c hc h0 => by
 have h1 := (hV.bs x hx c hc).1
 rw [h x hx c hc h0] at h1
 exact absurd h1 (by decide)
end Go.Ab
namespace Go.Ab
theorem sm_head {f : Nat → Rat} : ∀ n, (∀ i, 0 < i → i < n + 1 → f i = 0) → sm f (n + 1) = f 0
 | 0, _ => by show 0 + f 0 = f 0; rw [Rat.zero_add]
 | n + 1, h => by
  show sm f (n + 1) + f (n + 1) = f 0
  rw [sm_head n fun i h0 hi => h i h0 om, h (n + 1) om om, Rat.add_zero]
theorem det_zcol : ∀ n {M : Nat → Nat → Rat}, (∀ i, i ≤ n → M i n = 0) → det (n + 1) M = 0
 | 0, M, h => by
  show 0 + sg 0 * M 0 0 * 1 = 0
  rw [h 0 (Nat.le_refl _)]; grind
 | n + 1, M, h => by
  rw [det]
  refine (cV (g := fun _ => 0) _ fun i hi => ?_).trans (lB _)
  rw [det_zcol n fun a ha => h _ (by unfold skp; split <;> omega)]; grind
theorem det_last : ∀ n {M : Nat → Nat → Rat}, (∀ i, i < n → M i n = 0) → M n n = 1 → det (n + 1) M = det n M
 | 0, M, _, h => by
  show 0 + 1 * M 0 0 * 1 = 1
  rw [h]; grind
 | n + 1, M, h, h1 => by
  rw [det, sm, det_zcol n (M := fun a b => M (skp (n + 1) a) (b + 1)) fun a ha => h _ (by unfold skp; split <;> omega), det]
  rw [show sg (n + 1) * M (n + 1) 0 * (0 : Rat) = 0 by grind, Rat.add_zero]
  refine cV _ fun i hi => ?_
  rw [det_last n (M := fun a b => M (skp i a) (b + 1)) (fun a ha => h _ (by unfold skp; split <;> omega)) (by rw [show skp i n = n + 1 by unfold skp; split <;> omega]; exact h1)]
def colF (k : Nat) (x : Nat → Rat) : Nat → Nat → Rat := fun i b => if b = k then x i else if i = b then 1 else 0
theorem det_col : ∀ n {k : Nat} {x : Nat → Rat}, k < n → det n (colF k x) = x k
 | 0, _, _, h => absurd h om
 | n + 1, 0, x, _ => by
  rw [det, sm_head n fun i h0 hi => ?_]
  ·have e : det n (fun a b => colF 0 x (skp 0 a) (b + 1)) = det n oneF := eF n fun a b _ _ => by
    show (if b + 1 = 0 then x (skp 0 a) else if skp 0 a = b + 1 then 1 else 0) = if a = b then 1 else 0
    rw [show skp 0 a = a + 1 by unfold skp; rw [if_neg om], if_neg om]
    by_cases h : a = b
    ·rw [if_pos h, if_pos om]
    ·rw [if_neg h, if_neg om]
   rw [e, det_one]
   show 1 * (if 0 = 0 then x 0 else _) * 1 = x 0
   rw [if_pos rfl]; grind
  ·have e : det n (fun a b => colF 0 x (skp i a) (b + 1)) = 0 := (jW n).zero _ (r := 0) om fun b hb => by
    unfold colF skp
    rw [if_pos h0, if_neg om, if_neg om]
   rw [e]; grind
 | n + 1, k + 1, x, h => by
  rw [det, sm_head n fun i h0 hi => by rw [show colF (k + 1) x i 0 = 0 by unfold colF; rw [if_neg om, if_neg om]]; grind]
  have e : det n (fun a b => colF (k + 1) x (skp 0 a) (b + 1)) = det n (colF k fun a => x (a + 1)) := eF n fun a b _ _ => by
   unfold colF skp
   rw [if_neg (show ¬ a < 0 by omega)]
   by_cases h1 : b = k
   ·rw [if_pos h1, if_pos om]
   ·rw [if_neg h1, if_neg om]
    by_cases h2 : a = b
    ·rw [if_pos h2, if_pos om]
    ·rw [if_neg h2, if_neg om]
  rw [e, det_col n om, show colF (k + 1) x 0 0 = 1 by unfold colF; rw [if_neg om, if_pos rfl]]
  show 1 * 1 * x (k + 1) = _
  grind
def toL (n : Nat) (M : Nat → Nat → Rat) : List (List Rat) := (List.range n).map fun i => (List.range n).map fun j => M i j
theorem toL_ent {n : Nat} {M : Nat → Nat → Rat} {i j : Nat} (hi : i < n) (hj : j < n) : ent (toL n M) i j = M i j := by unfold ent toL; rw [eN hi, eN hj]
theorem toL_len (n : Nat) (M : Nat → Nat → Rat) : (toL n M).length = n := by simp [toL]
theorem toL_wid (n : Nat) (M : Nat → Nat → Rat) : Wid n (toL n M) := fun r hr => by
 obtain ⟨i, _, rfl⟩ := List.mem_map.1 hr
 simp
theorem det_mulFF (n : Nat) (M B : Nat → Nat → Rat) : det n (mulF n M B) = det n M * det n B := by
 have h1 : det n M = det n (fm (toL n M)) := eF n fun a b ha hb => (toL_ent ha hb).symm
 rw [h1, det_dtv (toL_len n M) (toL_wid n M), ← det_mulF (toL_len n M) (toL_wid n M)]
 refine eF n fun a b ha hb => ?_
 unfold mulF
 exact cV _ fun t ht => by rw [show fm (toL n M) a t = M a t from toL_ent ha ht]
structure PV (R S : List (List Rat)) (L : List Nat) (w : Nat) (g : Rat) (π : Nat → Nat) : Prop where
 rng : ∀ i, i < R.length → π i < R.length
 eq : ∀ i j, i < R.length → j < w → ent R (π i) j = sm (fun k => ent R (π i) (L.getD k default) * ent S k j) L.length + (if i < L.length then 0 else ent S i j)
 dt : g = det L.length (fun a b => ent R (π a) (L.getD b default)) ∨ g = -det L.length (fun a b => ent R (π a) (L.getD b default))
theorem swp_r (a r : Nat) : swp a r r = a := by
 unfold swp
 by_cases h : r = a
 ·rw [if_pos h, h]
 ·rw [if_neg h, if_pos rfl]
theorem PV.step {R S B : List (List Rat)} {L : List Nat} {w a c : Nat} {g : Rat} {π : Nat → Nat} (hSl : S.length = R.length) (hc : c < w) (ha : L.length ≤ a) (h : PV R S L w g π) (hs : Stp S B w a L.length c) :
  PV R B (L ++ [c]) w ((if a ≠ L.length then -g else g) * ent S a c) (fun i => π (swp a L.length i)) := by
 have haR : a < R.length := by have := hs.ha; omega
 have hrR : L.length < R.length := by have := hs.hr; omega
 have hsw : ∀ i, i < R.length → swp a L.length i < R.length := fun i hi => swp_len hi haR hrR
 have hLk : ∀ k, k < L.length → (L ++ [c]).getD k default = L.getD k default := fun k hk => lE hk
 have hLr : (L ++ [c]).getD L.length default = c := mX
 have hlen : (L ++ [c]).length = L.length + 1 := by simp
 refine ⟨fun i hi => h.rng _ (hsw i hi), fun i j hi hj => ?_, ?_⟩
 ·have e1 := h.eq (swp a L.length i) j (hsw i hi) hj
  have e2 := h.eq (swp a L.length i) c (hsw i hi) hc
  rw [hlen, sm, hLr]
  have e3 : sm (fun k => ent R (π (swp a L.length i)) ((L ++ [c]).getD k default) * ent B k j) L.length = sm (fun k => ent R (π (swp a L.length i)) (L.getD k default) * ent S k j) L.length + -(1 / ent S a c * ent S a j) * sm (fun k => ent R (π (swp a L.length i)) (L.getD k default) * ent S k c) L.length := by
   rw [jI, ← qQ]
   refine cV _ fun k hk => ?_
   rw [hLk k hk, hs.oth k j om om hj, nW hk ha]; grind
  have hBr := hs.row j hj
  have hne := hs.ne
  rw [e3, hBr]
  by_cases h1 : i < L.length
  ·rw [if_pos om]
   rw [nW h1 ha, if_pos h1] at e1 e2
   rw [nW h1 ha]
   rw [e1, e2]; grind
  ·rw [if_neg (show ¬ swp a L.length i < L.length by have := swp_ge (a := a) (r := L.length) (i := i) om ha; omega)] at e1 e2
   by_cases h2 : i = L.length
   ·rw [if_pos om]
    rw [h2, swp_r] at e1 e2 ⊢
    rw [e1, e2]
    grind
   ·rw [if_neg om, hs.oth i j om h2 hj, e1, e2]; grind
 ·have hdet : det (L.length + 1) (fun x b => ent R (π (swp a L.length x)) ((L ++ [c]).getD b default)) = det L.length (fun x b => ent R (π x) (L.getD b default)) * ent S a c := by
   have h1 : det (L.length + 1) (fun x b => if b = L.length then (if x = L.length then 1 else 0) else ent R (π (swp a L.length x)) (L.getD b default)) = det L.length (fun x b => ent R (π x) (L.getD b default)) := by
    rw [det_last L.length (fun i hi => by rw [if_pos rfl, if_neg om]) (by rw [if_pos rfl, if_pos rfl])]
    refine eF _ fun x b hx hb => ?_
    rw [if_neg om, nW hx ha]
   rw [← h1]
   have hcol := det_col (L.length + 1) (k := L.length) (x := fun k => if k = L.length then ent S a c else ent S k c) om
   rw [if_pos rfl] at hcol
   rw [← hcol, ← det_mulFF]
   refine eF _ fun x b hx hb => ?_
   unfold mulF colF
   by_cases e : b = L.length
   ·have e2 := h.eq (swp a L.length x) c (hsw x om) hc
    rw [e, hLr, sm, e2]
    have e4 : sm (fun t => (if t = L.length then (if x = L.length then (1 : Rat) else 0) else ent R (π (swp a L.length x)) (L.getD t default)) * (if L.length = L.length then (if t = L.length then ent S a c else ent S t c) else if t = L.length then 1 else 0)) L.length = sm (fun k => ent R (π (swp a L.length x)) (L.getD k default) * ent S k c) L.length := cV _ fun t ht => by
     rw [if_neg om, if_pos rfl, if_neg om]
    rw [e4, if_pos rfl]
    congr 1
    show _ = (if L.length = L.length then (if x = L.length then (1 : Rat) else 0) else _) * (if L.length = L.length then ent S a c else _)
    rw [if_pos rfl, if_pos rfl]
    by_cases hx2 : x = L.length
    ·rw [if_pos hx2, hx2, swp_r, if_neg om]; grind
    ·rw [if_neg hx2, nW om ha, if_pos om]; grind
   ·rw [hLk b om, mV (L.length + 1) hb fun i hi hne => by rw [if_neg e, if_neg hne]; grind]
    show _ = (if b = L.length then _ else ent R (π (swp a L.length x)) (L.getD b default)) * (if b = L.length then _ else if b = b then 1 else 0)
    rw [if_neg e, if_neg e, if_pos rfl]; grind
  rw [hlen, hdet]
  rcases h.dt with h2 | h2 <;> (rw [h2]; by_cases h3 : a = L.length)
  ·rw [if_neg (by simp [h3])]; exact .inl rfl
  ·rw [if_pos h3]; exact .inr (by grind)
  ·rw [if_neg (by simp [h3])]; exact .inr (by grind)
  ·rw [if_pos h3]; exact .inl (by grind)
theorem PV.all {R : List (List Rat)} {w : Nat} (hw : Wid w R) (c : Nat) (hc : c ≤ w) : ∃ π, PV R (gjn R c).1 (gjn R c).2 w (gjd R c) π := by
 refine gjn_ind (P := fun c S L => ∃ π, PV R S L w (gjd R c) π) hw ⟨id, fun i hi => hi, fun i j hi hj => by simp [sm, Rat.zero_add], .inl rfl⟩ (fun c S L hcw he hSl hwS hL ⟨π, h⟩ hz => ?_) (fun c S L B a hcw he hSl hwS ha ⟨π, h⟩ hs hn hp => ?_) c hc
 ·refine ⟨π, ?_⟩
  rw [gjd_no (by rw [he]; exact kH (by show L.length ≤ S.length; omega) (Nat.le_refl _) (fun k h1 h2 => hz k h1 (by have h2' : k < S.length := h2; omega)) (.inl rfl))]
  exact h
 ·refine ⟨fun i => π (swp a L.length i), ?_⟩
  rw [pA (a := a) (by rw [he]; exact hp) (by rw [he]; exact hs.ha), he]
  exact h.step hSl hcw ha hs
def IsI (C : Nat) (x : Rat) : Prop := ∃ z : Int, x = (z : Rat) ∧ z.natAbs ≤ C
theorem IsI.mul {C D : Nat} {x y : Rat} (hx : IsI C x) (hy : IsI D y) : IsI (C * D) (x * y) := by
 obtain ⟨a, rfl, h1⟩ := hx
 obtain ⟨b, rfl, h2⟩ := hy
 exact ⟨a * b, by rw [Rat.intCast_mul], by rw [Int.natAbs_mul]; exact Nat.mul_le_mul h1 h2⟩
theorem IsI.mono {C D : Nat} {x : Rat} (hx : IsI C x) (h : C ≤ D) : IsI D x := let ⟨a, h1, h2⟩ := hx; ⟨a, h1, Nat.le_trans h2 h⟩
theorem IsI.sm {C : Nat} {f : Nat → Rat} : ∀ n, (∀ i, i < n → IsI C (f i)) → IsI (n * C) (Go.Ab.sm f n)
 | 0, _ => ⟨0, rfl, by simp⟩
 | n + 1, h => by
  obtain ⟨a, h1, h2⟩ := IsI.sm n fun i hi => h i om
  obtain ⟨b, h3, h4⟩ := h n om
  refine ⟨a + b, by rw [Go.Ab.sm, h1, h3, Rat.intCast_add], ?_⟩
  have := Int.natAbs_add_le a b
  rw [Nat.succ_mul]; omega
open Go.RowKit
def mnF (bs : List BR) (v : Nat → Rat) : Nat → Rat
 | 0 => 0
 | i + 1 => mnF bs v i + nq (bs.getD i default).2 * v (bs.getD i default).1.toNat
def mn (c : CH) (v : Nat → Rat) : Rat := mnF c.2.2 v c.2.2.length
def yl (d : Rat) (c : CH) (v : Nat → Rat) : Rat := nq c.1 + d * mn c v
structure WB (n : Nat) (bs : List BR) : Prop where
 pos : ∀ i, i < bs.length → 0 < nq (bs.getD i default).2
 sum : psum bs bs.length = 1
 to : ∀ i, i < bs.length → (bs.getD i default).1.toNat < n
theorem mnF_sub (bs : List BR) (u v : Nat → Rat) : ∀ i, mnF bs v i - mnF bs u i = mnF bs (fun s => v s - u s) i
 | 0 => by unfold mnF; grind
 | i + 1 => by
  have ih := mnF_sub bs u v i
  unfold mnF
  rw [← ih]; grind
theorem mnF_le {n : Nat} {bs : List BR} (h : WB n bs) {v : Nat → Rat} {M : Rat} (hv : ∀ j, j < n → v j ≤ M) : ∀ i, i ≤ bs.length → mnF bs v i ≤ M * psum bs i
 | 0, _ => by unfold mnF psum; grind
 | i + 1, hi => by
  have ih := mnF_le h hv i om
  have hp := h.pos i om
  have hj := hv _ (h.to i om)
  have h2 : nq (bs.getD i default).2 * v (bs.getD i default).1.toNat ≤ nq (bs.getD i default).2 * M := Rat.mul_le_mul_of_nonneg_left hj (Rat.le_of_lt hp)
  unfold mnF psum
  grind
theorem argmax (f : Nat → Rat) : ∀ n, 0 < n → ∃ m, m < n ∧ ∀ i, i < n → f i ≤ f m
 | 0, h => absurd h om
 | 1, _ => ⟨0, om, fun i hi => (show i = 0 by omega) ▸ Rat.le_refl⟩
 | n + 2, _ => by
  obtain ⟨m, h1, h2⟩ := argmax f (n + 1) om
  by_cases h : f m ≤ f (n + 1)
  ·refine ⟨n + 1, om, fun i hi => ?_⟩
   by_cases e : i = n + 1
   ·rw [e]; exact Rat.le_refl
   ·exact Rat.le_trans (h2 i om) h
  ·refine ⟨m, om, fun i hi => ?_⟩
   by_cases e : i = n + 1
   ·rw [e]; grind
   ·exact h2 i om
theorem comp {n : Nat} {d : Rat} (hd0 : 0 ≤ d) (hd1 : d < 1) {u v : Nat → Rat} (h : ∀ i, i < n → ∃ bs, WB n bs ∧ v i - u i ≤ d * (mnF bs v bs.length - mnF bs u bs.length)) : ∀ i, i < n → v i ≤ u i := by
 intro i hi
 obtain ⟨m, hm, hmax⟩ := argmax (fun s => v s - u s) n om
 obtain ⟨bs, hb, hle⟩ := h m hm
 have h1 := mnF_le hb (v := fun s => v s - u s) hmax bs.length (Nat.le_refl _)
 rw [hb.sum, ← mnF_sub] at h1
 have h2 := hmax i hi
 by_cases hD : v m - u m ≤ 0
 ·grind
 ·exfalso
  have h3 := Rat.mul_le_mul_of_nonneg_left h1 hd0
  have h4 : 0 < (1 - d) * (v m - u m) := Rat.mul_pos (by grind) (by grind)
  grind
structure DM (ss : List ST) (d : Rat) : Prop where
 d0 : 0 < d
 d1 : d < 1
 pos : 1 ≤ ss.length
 cs : ∀ x, x ∈ ss → 1 ≤ x.2.2.length
 wb : ∀ x, x ∈ ss → ∀ c, c ∈ x.2.2 → WB ss.length c.2.2
abbrev ch (ss : List ST) (i k : Nat) : CH := (ss.getD i default).2.2.getD k default
def WV (ss : List ST) (d : Rat) (st : List Int) (v : Nat → Rat) : Prop := ∀ i, i < ss.length → v i = yl d (ch ss i (st.getD i default).toNat) v
section
variable {ss : List ST} {d : Rat} (h : DM ss d)
include h
theorem ch_wb {i k : Nat} (hi : i < ss.length) (hk : k < (ss.getD i default).2.2.length) : WB ss.length (ch ss i k).2.2 := h.wb _ (bD hi) _ (bD hk)
theorem st_wb {st : List Int} (hst : vSt ss st = true) {i : Nat} (hi : i < ss.length) : WB ss.length (ch ss i (st.getD i default).toNat).2.2 := by
 have := vSt_at hst hi
 exact ch_wb h hi om
theorem WV.le {st : List Int} (hst : vSt ss st = true) {u v : Nat → Rat} (hv : WV ss d st v) (hu : ∀ i, i < ss.length → yl d (ch ss i (st.getD i default).toNat) u ≤ u i) : ∀ i, i < ss.length → v i ≤ u i :=
 comp (Rat.le_of_lt h.d0) h.d1 fun i hi => ⟨_, st_wb h hst hi, by
  have h1 := hv i hi
  have h2 := hu i hi
  unfold yl mn at h1 h2
  grind⟩
theorem WV.ge {st : List Int} (hst : vSt ss st = true) {u v : Nat → Rat} (hv : WV ss d st v) (hu : ∀ i, i < ss.length → u i ≤ yl d (ch ss i (st.getD i default).toNat) u) : ∀ i, i < ss.length → u i ≤ v i :=
 comp (Rat.le_of_lt h.d0) h.d1 fun i hi => ⟨_, st_wb h hst hi, by
  have h1 := hv i hi
  have h2 := hu i hi
  unfold yl mn at h1 h2
  grind⟩
end
def Val (ss : List ST) (d : Rat) (v : Nat → Rat) : Prop := ∀ i, i < ss.length → (∃ k, k < (ss.getD i default).2.2.length ∧ v i = yl d (ch ss i k) v) ∧ ∀ k, k < (ss.getD i default).2.2.length → if (ss.getD i default).1.1 = 1 then v i ≤ yl d (ch ss i k) v else yl d (ch ss i k) v ≤ v i
section
variable {ss : List ST} {d : Rat} (h : DM ss d)
include h
end
section
variable {ss : List ST} {d : Rat} (h : DM ss d)
include h
end
end Go.Ab
namespace Go.Ab
open Go.RowKit
theorem sm_upd {f g : Nat → Rat} {t : Nat} : ∀ n, t < n → (∀ i, i < n → i ≠ t → f i = g i) → sm f n = sm g n + (f t - g t)
 | 0, h, _ => absurd h om
 | n + 1, h, he => by
  show sm f n + f n = sm g n + g n + (f t - g t)
  by_cases e : t = n
  ·subst e
   rw [cV t fun i hi => he i om om]; grind
  ·rw [sm_upd n om fun i hi hne => he i om hne, he n om (Ne.symm e)]; grind
theorem mC {a : List Rat} {t : Nat} {x : Rat} (ht : t < a.length) (v : List Rat) : dotR (a.set t x) v = dotR a v + (x - a.getD t default) * v.getD t default := by
 rw [jD, jD, List.length_set, sm_upd (t := t) a.length ht fun i hi hne => by rw [bP hi, if_neg (Ne.symm hne)]]
 rw [bP ht, if_pos rfl]; grind
theorem rJ (n : Nat) (v : List Rat) : dotR (List.replicate n 0) v = 0 := by
 rw [jD]
 refine (cV _ fun i hi => ?_).trans (lB _)
 rw [List.length_replicate] at hi
 rw [List.getD_eq_getElem?_getD, List.getElem?_replicate, if_pos hi]
 exact Rat.zero_mul _
open Go.RowKit
structure VB (n : Nat) (bs : List BR) : Prop where
 len : 1 ≤ bs.length ∧ bs.length ≤ 8
 to : ∀ i, i < bs.length → 0 ≤ (bs.getD i default).1 ∧ (bs.getD i default).1 < n
 inc : ∀ i j, i < j → j < bs.length → (bs.getD i default).1 < (bs.getD j default).1
 vn : ∀ i, i < bs.length → VN (bs.getD i default).2
 pos : ∀ i, i < bs.length → 0 < (bs.getD i default).2.1
 sum : psum bs bs.length = 1
theorem nq_pos {a : NM} (h : VN a) (h0 : 0 < a.1) : 0 < nq a := by
 have h2 : 0 < a.2 := by have := h.1; omega
 unfold nq
 rw [Rat.divInt_eq_div]
 have e1 : (0 : Rat) < (a.1 : Rat) := by exact_mod_cast h0
 have e2 : (0 : Rat) < (a.2 : Rat) := by exact_mod_cast h2
 generalize (a.1 : Rat) = p at *
 generalize (a.2 : Rat) = q at *
 apply Classical.byContradiction
 intro hn
 have h3 : 0 ≤ -(p / q) * q := Rat.mul_nonneg (by grind) (Rat.le_of_lt e2)
 have h4 : p / q * q = p := by grind
 grind
theorem VB.wb {n : Nat} {bs : List BR} (h : VB n bs) : WB n bs := ⟨fun i hi => nq_pos (h.vn i hi) (h.pos i hi), h.sum, fun i hi => by have := h.to i hi; omega⟩
def fn_ (v : List Rat) : Nat → Rat := fun s => v.getD s default
def RowOk (n : Nat) (d : Rat) (bs : List BR) (i : Nat) (row : List Rat) : Prop := row.length = n ∧ ∀ v : List Rat, dotR row v = v.getD i default - d * mnF bs (fn_ v) bs.length
def RowP (n : Nat) (d : Rat) (bs : List BR) (j : Nat) (row : List Rat) : Prop := row.length = n ∧ (∀ v : List Rat, dotR row v = -(d * mnF bs (fn_ v) j)) ∧ (∀ t, t < n → (∀ i, i < j → (bs.getD i default).1 ≠ t) → row.getD t default = 0) ∧ ∀ x, x ∈ row → Bd 4 x
theorem RowP.init (n : Nat) (d : Rat) (bs : List BR) : RowP n d bs 0 (List.replicate n 0) := by
 refine ⟨by simp, fun v => by rw [rJ]; unfold mnF; grind, fun t ht _ => by rw [List.getD_eq_getElem?_getD, List.getElem?_replicate, if_pos ht]; rfl, fun x hx => by rw [(List.mem_replicate.1 hx).2]; exact Bd0 (by decide)⟩
theorem RowP.step {n : Nat} {d : Rat} {bs : List BR} {j : Nat} {row : List Rat} (h : RowP n d bs j row) (hb : VB n bs) (hj : j < bs.length) (hd : Bd 2 d) : RowP n d bs (j + 1) (row.set (bs.getD j default).1.toNat (-(d * nq (bs.getD j default).2))) := by
 obtain ⟨h1, h2, h3, h4⟩ := h
 have ht := hb.to j hj
 have hz := h3 (bs.getD j default).1.toNat om fun i hi => by have := hb.inc i j hi hj; omega
 refine ⟨by rw [List.length_set]; exact h1, fun v => ?_, fun t htn hne => ?_, fun x hx => ?_⟩
 ·rw [mC om, h2, hz]
  show _ = -(d * (mnF bs (fn_ v) j + nq (bs.getD j default).2 * v.getD (bs.getD j default).1.toNat default))
  grind
 ·rw [bP om, if_neg (fun e => hne j om om)]
  exact h3 t htn fun i hi => hne i om
 ·rcases List.mem_or_eq_of_mem_set hx with h | h
  ·exact h4 x h
  ·rw [h]; exact (hd.mul (hb.vn j hj).bd).neg
theorem RowP.done {n : Nat} {d : Rat} {bs : List BR} {i : Nat} {row : List Rat} (h : RowP n d bs bs.length row) (hi : i < n) : RowOk n d bs i (row.set i (row.getD i default + 1)) ∧ ∀ x, x ∈ row.set i (row.getD i default + 1) → Bd 8 x := by
 obtain ⟨h1, h2, h3, h4⟩ := h
 refine ⟨⟨by rw [List.length_set]; exact h1, fun v => ?_⟩, fun x hx => ?_⟩
 ·rw [mC om, h2]; grind
 ·rcases List.mem_or_eq_of_mem_set hx with h | h
  ·exact (h4 x h).mono (by decide)
  ·rw [h]; exact ((mS (b := 4) (by decide) h4 i).add Bd1).mono (by decide)
def RowR (n : Nat) (d : Rat) (bs : List BR) (a j : Nat) (row : List Rat) : Prop := row.length = n ∧ (∀ v : List Rat, dotR row v = v.getD a default - d * mnF bs (fn_ v) j) ∧ (∀ t, t < n → (∀ i, i < j → (bs.getD i default).1 ≠ t) → Bd 1 (row.getD t default)) ∧ ∀ x, x ∈ row → Bd 8 x
theorem RowR.init {n : Nat} (d : Rat) (bs : List BR) {a : Nat} (ha : a < n) : RowR n d bs a 0 ((List.replicate n 0).set a 1) := by
 have hb : ∀ x, x ∈ (List.replicate n (0 : Rat)).set a 1 → Bd 1 x := fun x hx => by
  rcases List.mem_or_eq_of_mem_set hx with h | h
  ·rw [(List.mem_replicate.1 h).2]; exact Bd0 (by decide)
  ·rw [h]; exact Bd1
 refine ⟨by simp, fun v => ?_, fun t ht _ => mS (by decide) hb t, fun x hx => (hb x hx).mono (by decide)⟩
 rw [mC (by simpa using ha), rJ, List.getD_eq_getElem?_getD (l := List.replicate n 0), List.getElem?_replicate, if_pos ha]
 unfold mnF
 show 0 + (1 - (0 : Rat)) * _ = _
 grind
theorem RowR.step {n : Nat} {d : Rat} {bs : List BR} {a j : Nat} {row : List Rat} (h : RowR n d bs a j row) (hb : VB n bs) (hj : j < bs.length) (hd : Bd 2 d) : RowR n d bs a (j + 1) (row.set (bs.getD j default).1.toNat (row.getD (bs.getD j default).1.toNat default - d * nq (bs.getD j default).2)) := by
 obtain ⟨h1, h2, h3, h4⟩ := h
 have ht := hb.to j hj
 have hz := h3 (bs.getD j default).1.toNat om fun i hi => by have := hb.inc i j hi hj; omega
 refine ⟨by rw [List.length_set]; exact h1, fun v => ?_, fun t htn hne => ?_, fun x hx => ?_⟩
 ·rw [mC om, h2]
  show _ = v.getD a default - d * (mnF bs (fn_ v) j + nq (bs.getD j default).2 * v.getD (bs.getD j default).1.toNat default)
  grind
 ·rw [bP om, if_neg (fun e => hne j om om)]
  exact h3 t htn fun i hi => hne i om
 ·rcases List.mem_or_eq_of_mem_set hx with h | h
  ·exact h4 x h
  ·rw [h, Rat.sub_eq_add_neg]; exact (hz.add (hd.mul (hb.vn j hj).bd).neg).mono (by decide)
open Go.RowKit
section
variable {P : Program} {T : TT} {E : TypeId → Bool} {N : Nat} {oa : Array Oper} {i b : Nat} {e : Env} {h : Hp} {Q : Env → Hp → Nat → Prop}
theorem Fz.weakH {K : Env → Hp → Prop} (a : Hp) (hs : Hp.le a h) (k : Fz N e a K) : Fz N e h K := fun s m hf hm => k s m hf fun t l hg => hm t l (hs t l hg)
end
end Go.Ab
namespace Go.Ab
end Go.Ab
namespace Go.Ab
open Go.RowKit
theorem WN.B {P : Program} {T : TT} {E : TypeId → Bool} {N : Nat} {oa : Array Oper} {i b n : Nat} {e : Env} {h : Hp} {Q : Env → Hp → Nat → Prop} {l : List Oper} {dst : Tmp} {p : Bool} (h1 : p = true → WN P T E N oa l i b ((dst, .v (.bool true)) :: e) h n Q) (h2 : p = false → WN P T E N oa l i b ((dst, .v (.bool false)) :: e) h n Q) : WN P T E N oa l i b ((dst, .v (.bool p)) :: e) h n Q := by
 cases p
 ·exact h2 rfl
 ·exact h1 rfl
end Go.Ab
namespace Go.Ab
open Go.RowKit
def CO (D C : Nat) (x : Rat) : Prop := ∃ a : Int, x * (D : Rat) = (a : Rat) ∧ a.natAbs * 16 ≤ C
theorem CO.mean {D C t : Nat} {d : Rat} {bs : List BR} {v : Nat → Rat} (hc : ∀ b, b ∈ bs → CO D C (d * nq b.2)) (hv : ∀ j, QB D C 8 t (v j)) : ∀ i, i ≤ bs.length → ∃ z : Int, (d * mnF bs v i) * (D : Rat) ^ (t + 1) = (z : Rat) ∧ z.natAbs * 16 ≤ i * C ^ (t + 1)
 | 0, _ => ⟨0, by unfold mnF; rw [Rat.mul_zero, Rat.zero_mul]; rfl, by simp⟩
 | i + 1, hi => by
  obtain ⟨z, h1, h2⟩ := CO.mean hc hv i om
  obtain ⟨a, h3, h4⟩ := hc _ (bD (us := bs) (i := i) om)
  obtain ⟨q, h5, h6⟩ := hv (bs.getD i default).1.toNat
  refine ⟨z + a * q, ?_, ?_⟩
  ·have e : (d * mnF bs v (i + 1)) * (D : Rat) ^ (t + 1) = (d * mnF bs v i) * (D : Rat) ^ (t + 1) + (d * nq (bs.getD i default).2 * (D : Rat)) * (v (bs.getD i default).1.toNat * (D : Rat) ^ t) := by
    rw [show mnF bs v (i + 1) = mnF bs v i + nq (bs.getD i default).2 * v (bs.getD i default).1.toNat from rfl, Rat.pow_succ]
    generalize (D : Rat) ^ t = p
    grind
   rw [e, h1, h3, h5, Rat.intCast_add, Rat.intCast_mul]
  ·have h7 := Int.natAbs_add_le z (a * q)
   rw [Int.natAbs_mul] at h7
   have h8 : (a.natAbs * 16) * q.natAbs ≤ C * C ^ t := Nat.mul_le_mul h4 om
   rw [← Nat.pow_succ'] at h8
   replace h8 : _ ≤ C ^ (t + 1) := h8
   have h9 : (a.natAbs * 16) * q.natAbs = a.natAbs * q.natAbs * 16 := by rw [Nat.mul_right_comm]
   rw [h9] at h8
   rw [Nat.succ_mul]
   omega
theorem CO.step {D C t : Nat} {d : Rat} {c : CH} {v : Nat → Rat} (hr : CO D C (nq c.1)) (hc : ∀ b, b ∈ c.2.2 → CO D C (d * nq b.2)) (hv : ∀ j, QB D C 8 t (v j)) (hl : c.2.2.length ≤ 8) (hDC : D ≤ C) : QB D C 8 (t + 1) (yl d c v) := by
 obtain ⟨z, h1, h2⟩ := CO.mean hc hv c.2.2.length (Nat.le_refl _)
 obtain ⟨a, h3, h4⟩ := hr
 refine ⟨z + a * ((D ^ t : Nat) : Int), ?_, ?_⟩
 ·have e : yl d c v * (D : Rat) ^ (t + 1) = (d * mnF c.2.2 v c.2.2.length) * (D : Rat) ^ (t + 1) + (nq c.1 * (D : Rat)) * (D : Rat) ^ t := by
   unfold yl mn
   rw [Rat.pow_succ]
   generalize (D : Rat) ^ t = p
   grind
  rw [e, h1, h3, Rat.intCast_add, Rat.intCast_mul, Rat.intCast_natCast, Rat.natCast_pow]
 ·have h7 := Int.natAbs_add_le z (a * ((D ^ t : Nat) : Int))
  rw [Int.natAbs_mul, Int.natAbs_natCast] at h7
  have h8 : (a.natAbs * 16) * D ^ t ≤ C * C ^ t := Nat.mul_le_mul h4 (Nat.pow_le_pow_left hDC t)
  rw [← Nat.pow_succ'] at h8
  replace h8 : _ ≤ C ^ (t + 1) := h8
  have h9 : (a.natAbs * 16) * D ^ t = a.natAbs * D ^ t * 16 := by rw [Nat.mul_right_comm]
  rw [h9] at h8
  have h10 : c.2.2.length * C ^ (t + 1) ≤ 8 * C ^ (t + 1) := Nat.mul_le_mul_right _ hl
  omega
theorem CO.base {W : List Rat} (h : ∀ x, x ∈ W → Bd 4 x) (hl : W.length ≤ 2880) : ∃ D C e : Nat, e = 11525 ∧ 0 < D ∧ D ≤ C ∧ D ≤ 4294967296 ^ e ∧ C ≤ 4294967296 ^ e ∧ ∀ x, x ∈ W → CO D C x := by
 obtain ⟨a, ha⟩ : ∃ a : Nat, a = 11520 := ⟨_, rfl⟩
 have hD : dd W ≤ 4294967296 ^ a := by
  refine Nat.le_trans (dd_le (b := 4294967296 ^ 4) fun x hx => Nat.le_of_lt (h x hx).abs.2) ?_
  rw [← Nat.pow_mul]
  exact Nat.pow_le_pow_right (by decide) om
 refine ⟨dd W, 16 * (4294967296 ^ 4 * dd W), a + 5, om, dd_pos _, ?_, Nat.le_trans hD (Nat.pow_le_pow_right (by decide) om), ?_, fun x hx => ?_⟩
 ·have := dd_pos W
  have h2 : dd W ≤ 4294967296 ^ 4 * dd W := Nat.le_mul_of_pos_left _ (by decide)
  omega
 ·rw [Nat.add_comm, Nat.pow_add, show (4294967296 : Nat) ^ 5 = 4294967296 * 4294967296 ^ 4 by decide +kernel, Nat.mul_assoc]
  exact Nat.mul_le_mul (by decide) (Nat.mul_le_mul_left _ hD)
 ·obtain ⟨q, hq⟩ := dd_dvd hx
  have hb := (h x hx).abs.1
  have hdq : q ≤ dd W := by
   have := x.den_pos
   rw [hq]; exact Nat.le_mul_of_pos_left q this
  have hxd : x * (x.den : Rat) = (x.num : Rat) := by
   have h1 : x = (x.num : Rat) / ((x.den : Int) : Rat) := by rw [← Rat.divInt_eq_div, Rat.num_divInt_den]
   have h2 : ((x.den : Int) : Rat) ≠ 0 := by
    intro h0
    have : (x.den : Int) = 0 := by exact_mod_cast h0
    have := x.den_pos
    omega
   rw [← Rat.intCast_natCast]
   conv => lhs; lhs; rw [h1]
   exact Rat.div_mul_cancel h2
  refine ⟨x.num * (q : Int), ?_, ?_⟩
  ·rw [hq, Rat.natCast_mul, ← Rat.mul_assoc, hxd, Rat.intCast_mul, Rat.intCast_natCast]
  ·rw [Int.natAbs_mul, Int.natAbs_natCast, Nat.mul_comm _ 16]
   exact Nat.mul_le_mul_left 16 (Nat.mul_le_mul (Nat.le_of_lt hb) hdq)
end Go.Ab
namespace Go.Ab
end Go.Ab
namespace Go.Ab
end Go.Ab
namespace Go.Ab
open Go.RowKit
open Go.RowKit
theorem outs_all {v : List Rat} {o : List NM} (h : v.mapM outN = some o) : o.map nq = v ∧ ∀ a, a ∈ o → VN a := by
 induction v generalizing o with
 | nil => cases h; exact ⟨rfl, by simp⟩
 | cons x v ih =>
  rw [List.mapM_cons] at h
  cases h1 : outN x with
  | none => rw [h1] at h; cases h
  | some a =>
   cases h2 : v.mapM outN with
   | none => rw [h1, h2] at h; cases h
   | some u =>
    rw [h1, h2] at h; cases h
    obtain ⟨h3, h4⟩ := ih h2
    obtain ⟨h5, h6⟩ := outN_some h1
    exact ⟨by rw [List.map_cons, h3, h6], fun b hb => by rcases List.mem_cons.1 hb with rfl | hb; exact h5; exact h4 b hb⟩
end Go.Ab
namespace Go.Ab
open Go.RowKit
open Go.RowKit
section
variable {n : Nat} {r : Int} {f : NM} (hd : 0 < nq f ∧ nq f < 1)
include hd
end
theorem wrap_u8 {b : Int} (h : 0 ≤ b ∧ b ≤ 255) : IntKind.i64.wrap b = b := by
 have h1 : -9223372036854775808 ≤ b ∧ b ≤ 9223372036854775807 := by omega
 unfold IntKind.wrap
 simp [IntKind.bits, IntKind.signed]
 omega
end Go.Ab
namespace Go.Ab
open Go.RowKit
section
variable {P : Program} {T : TT} {E : TypeId → Bool} {N : Nat} {oa : Array Oper} {i b : Nat} {e : Env} {h : Hp} {Q : Env → Hp → Nat → Prop}
def Both (n : Nat) (h h' hh : Hp) : Prop := ∀ q o, getH hh q = some o → (q < n ∧ getH h q = some o) ∨ (n ≤ q ∧ getH h' q = some o)
theorem Both.cons {n : Nat} {h h' hh : Hp} {q : Nat} {o : Ob} (k : (q < n ∧ getH h q = some o) ∨ (n ≤ q ∧ getH h' q = some o)) (hb : Both n h h' hh) : Both n h h' ((q, o) :: hh) := fun r x hr => by
 simp only [getH] at hr
 split at hr
 ·rename_i hq; have := Nat.eq_of_beq_eq_true hq; subst this; cases hr; exact k
 ·exact hb r x hr
theorem Both.old {n : Nat} {h h' : Hp} (hl : ∀ q o, getH h q = some o → q < n) : Both n h h' h := fun q o hq => .inl ⟨hl q o hq, hq⟩
theorem Both.nil {n : Nat} {h h' : Hp} : Both n h h' [] := fun q o hq => by simp [getH] at hq
theorem WN.F {cal : Operand} {fn : Func} {f : FuncId} {c : Code} {args : Array Operand} {at_ : Array TypeId} {t : TypeId} {pos : String} {af : Array Edge} {l : List Oper} {dst : Tmp} {first cap ls as_ : List LV} {n : Nat} {Φ : LV → Hp → Nat → Prop} (d : Delta) (hv : evE e cal = some (.fn (.func f) first cap)) (ha : argsE e args.toList = some ls)
  (hs : SnapA h d (first ++ ls ++ cap) as_) (hz : ∀ p, p ∈ d → ∃ o, getH h p.1 = some o ∧ o.st ≠ 2 ∧ p.2 = { o with st := 1 }) (hf : P.funcs[f]? = some fn) (hb : fn.body = some c) (hn : (fn.name == "runtime.NumGoroutine") = false) (hl : as_.length ≤ fn.ntmps) (hd : Nat.blt dst N = true)
  (k : WC P T E fn.ntmps c (argsEnv 0 as_) [] n (fun x e' h' n' => (x = .normal ∨ x = .ret) ∧ ∃ ls', resE e' T h' fn.results.toList = some ls' ∧ Φ (resultLV ls') h' n'))
  (kk : ∀ r h' n', Φ r h' n' → ∃ hh, Both n (appH d h) h' hh ∧ WN P T E N oa l (i + 1) b ((dst, r) :: e) hh n' Q) :
  WN P T E N oa (⟨some dst, .call { callee := .value cal, args := args, argTypes := at_ }, t, pos, af, none⟩ :: l) i b e h n Q := by
 intro hdr s m hs' hm
 obtain ⟨hi, hl'⟩ := eS hdr
 obtain ⟨x, s', h1, e', h', h2, h3, hx, ls', hr, hΦ⟩ := k (frame fn as_) (fun _ => none) ⟨by simp [frame]; omega, fun t l ht => by
  obtain ⟨_, k⟩ := eH as_ 0 t l ht
  simp only [Nat.sub_zero] at k
  unfold frame
  rw [List.getElem?_append_left (List.getElem?_eq_some_iff.1 k).1]; exact k⟩ (fun k o hk => by simp [getH] at hk)
 have hg : Run P T E (.gcall f as_ (fun _ => none) n (resultLV ls') s'.m s'.n) := .gcall f fn c as_ _ n x s' ls' hf hb hn hl h1 hx (eO h2 h3 hr)
 obtain ⟨hh, hbo, hk⟩ := kk _ h' s'.n hΦ
 have hm2 := hm.app d
 obtain ⟨rs, s2, k1, k2⟩ := hk hl' _ (mix n (app d m) s'.m) (hs'.put hd (resultLV ls')) (fun q o hq => by
  rcases hbo q o hq with ⟨q1, q2⟩ | ⟨q1, q2⟩
  ·rw [gL q1]; exact hm2 q o q2
  ·rw [gK om]; exact h3 q o q2)
 refine ⟨⟨i, [], [], true⟩ :: rs, s2, ?_, k2⟩
 rw [List.length_cons, List.range'_succ]
 refine .gdid oa i _ b ⟨s, m, n⟩ s2 rs _ _ cal f first cap (resultLV ls') (mix n (app d m) s'.m) s'.n (by simpa using hi) rfl rfl rfl (dN hs' hv) ?_ k1
 rw [dU (fun x l hx => dN hs' hx) ha]
 exact .frame f _ as_ m s'.m n s'.n _ d (hs.snap hm) (fun p hp => by obtain ⟨o, k1, k2, k3⟩ := hz p hp; exact ⟨o, hm _ _ k1, k2, k3⟩) hg
end
def famH (a : Nat → Nat) (o : Nat → Option Ob) (h : Hp) : Nat → Hp
 | 0 => h
 | n + 1 => match o n with
  | some x => (a n, x) :: famH a o h n
  | none => famH a o h n
theorem dW {a : Nat → Nat} {o : Nat → Option Ob} {h : Hp} {q : Nat} : ∀ n, (∀ i, i < n → a i ≠ q) → getH (famH a o h n) q = getH h q
 | 0, _ => rfl
 | n + 1, hq => by
  have ih := dW (a := a) (o := o) (h := h) (q := q) n fun i hi => hq i om
  unfold famH
  split
  ·have : Nat.beq (a n) q = false := by
    cases hb : Nat.beq (a n) q with
    | false => rfl
    | true => exact absurd (Nat.eq_of_beq_eq_true hb) (hq n om)
   simp only [getH, this]; exact ih
  ·exact ih
theorem kA {a : Nat → Nat} {o : Nat → Option Ob} {h : Hp} {x : Ob} : ∀ n {i}, i < n → o i = some x → (∀ j, j < n → a j = a i → j = i) → getH (famH a o h n) (a i) = some x
 | 0, i, hi, _, _ => absurd hi om
 | n + 1, i, hi, hx, ha => by
  by_cases e : i = n
  ·subst e
   unfold famH
   rw [hx]
   exact g0
  ·have ih := kA (a := a) (o := o) (h := h) (x := x) n (i := i) om hx fun j hj => ha j om
   unfold famH
   split
   ·exact g1 (fun h => e (ha n om h).symm) ih
   ·exact ih
theorem lT {a : Nat → Nat} {o : Nat → Option Ob} {h H : Hp} : ∀ n, (∀ i, i < n → ∀ x, o i = some x → getH H (a i) = some x) → subsM h H → subsM (famH a o h n) H
 | 0, _, hs => hs
 | n + 1, hg, hs => by
  have ih := lT (a := a) (o := o) (h := h) (H := H) n (fun i hi => hg i om) hs
  unfold famH
  split
  ·rename_i x hx; exact ⟨hg n om x hx, ih⟩
  ·exact ih
theorem Both.fam {n : Nat} {h h' hh : Hp} {a : Nat → Nat} {o : Nat → Option Ob} : ∀ m, (∀ t, t < m → n ≤ a t ∧ ∀ x, o t = some x → getH h' (a t) = some x) → Both n h h' hh → Both n h h' (famH a o hh m)
 | 0, _, hb => hb
 | m + 1, hg, hb => by
  have ih := Both.fam (a := a) (o := o) m (fun t ht => hg t om) hb
  unfold famH
  split
  ·rename_i x hx; exact .cons (.inr ⟨(hg m om).1, (hg m om).2 x hx⟩) ih
  ·exact ih
end Go.Ab
namespace Go.Ab
open Go.RowKit
def obN (e : TypeId) (us : List NM) : Ob := { cells := (us.map mc).flatten, sz := 2, elem := e, st := 0 }
def opN (e : TypeId) (us : List NM) : Option Ob := match us with
 | [] => none
 | u :: us => some (obN e (u :: us))
theorem mK {e : TypeId} {us : List NM} {x : Ob} (h : opN e us = some x) : us ≠ [] ∧ x = obN e us := by
 cases us with
 | nil => cases h
 | cons u us => cases h; exact ⟨by simp, rfl⟩
theorem opN_ne {e : TypeId} {us : List NM} (h : us ≠ []) : opN e us = some (obN e us) := by
 cases us with
 | nil => exact absurd rfl h
 | cons u us => rfl
def rwC (a : Nat → Nat) (R : List (List NM)) : List (List LV) := tab R.length fun t => [outV (a t) 2 ((R.getD t []).map mc)]
theorem iE (a : Nat → Nat) (R : List (List NM)) : (rwC a R).length = R.length := fT _ _
theorem rwC_row {a : Nat → Nat} {R : List (List NM)} : ∀ row, row ∈ rwC a R → row.length = 1 := fun row hr => by
 obtain ⟨t, _, rfl⟩ := tab_mem.1 hr; rfl
theorem rwC_snoc {a : Nat → Nat} {R : List (List NM)} {o : List NM} {b i : Nat} (hl : R.length = i) : rwC (fun t => if t = i then b else a t) (R ++ [o]) = rwC a R ++ [[outV b 2 (o.map mc)]] := by
 unfold rwC
 rw [List.length_append, show R.length + [o].length = R.length + 1 from rfl, qU, hl]
 dsimp only
 rw [if_pos rfl]
 congr 1
 ·exact tab_eq fun t ht => by
   rw [if_neg (show ¬ t = i by omega)]
   simp only [List.getD_eq_getElem?_getD]
   rw [List.getElem?_append_left om]
 ·simp only [List.getD_eq_getElem?_getD]
  rw [List.getElem?_append_right om, hl, Nat.sub_self]; rfl
theorem getD_snoc {R : List (List NM)} {o : List NM} {t i : Nat} (hl : R.length = i) : (R ++ [o]).getD t [] = if t = i then o else R.getD t [] := by
 simp only [List.getD_eq_getElem?_getD]
 by_cases e : t = i
 ·rw [if_pos e, List.getElem?_append_right om, hl, e, Nat.sub_self]; rfl
 ·rw [if_neg e]
  by_cases h : t < i
  ·rw [List.getElem?_append_left om]
  ·rw [List.getElem?_eq_none (by rw [List.length_append]; show R.length + 1 ≤ t; omega), List.getElem?_eq_none om]
structure OwnM (h : Hp) (e1 e2 : TypeId) (lo hi q : Nat) (a : Nat → Nat) (R : List (List NM)) : Prop where
 ql : lo ≤ q
 qh : q < hi
 at_ : ∀ t, t < R.length → lo ≤ a t ∧ a t < hi ∧ a t ≠ q
 inj : ∀ s t, s < R.length → t < R.length → a s = a t → s = t
 top : R ≠ [] → getH h q = some { cells := (rwC a R).flatten, sz := 1, elem := e1, st := 0 }
 row : ∀ t, t < R.length → R.getD t [] ≠ [] → getH h (a t) = some (obN e2 (R.getD t []))
theorem OwnM.mono {h h' : Hp} {e1 e2 : TypeId} {lo hi lo' hi' q : Nat} {a : Nat → Nat} {R : List (List NM)} (k : OwnM h e1 e2 lo hi q a R) (hl : lo' ≤ lo) (hh : hi ≤ hi') (hg : ∀ r o, lo ≤ r → r < hi → getH h r = some o → getH h' r = some o) : OwnM h' e1 e2 lo' hi' q a R :=
 ⟨by have := k.ql; omega, by have := k.qh; omega, fun t ht => by have := k.at_ t ht; omega, k.inj, fun hr => hg _ _ k.ql k.qh (k.top hr), fun t ht hr => hg _ _ (k.at_ t ht).1 (k.at_ t ht).2.1 (k.row t ht hr)⟩
theorem OwnM.nil {h : Hp} {e1 e2 : TypeId} {lo hi q : Nat} {a : Nat → Nat} (h1 : lo ≤ q) (h2 : q < hi) : OwnM h e1 e2 lo hi q a [] :=
 ⟨h1, h2, fun t ht => absurd ht (by simp), fun s t hs => absurd hs (by simp), fun h => absurd rfl h, fun t ht => absurd ht (by simp)⟩
open Go.RowKit
def kd2 (n : Nat) : Nat := if n = 0 then 2 else 1
section
variable {P : Program} {T : TT} {E : TypeId → Bool} {N : Nat} {oa : Array Oper} {i b d : Nat} {e : Env} {h : Hp}
variable {ty : TypeId} {pos : String} {af : Array Edge} {x y : Operand} {bt xt el el2 el3 : TypeId} {te : TI} {l : List Oper}
theorem oApNil {dst : Option Tmp} {g : Option (Nat × Bool)} {id k : Nat} (hT : dsc T bt = some (.sl el)) (hT2 : dsc T xt = some (.sl el2)) (hE : T el = some te) (hx : evE e x = some (.sl 2 [])) (hy : evE e y = some (.sl k [])) (h0 : 0 < te.size) :
  OP P T E ⟨dst, .call { callee := .builtin .append, args := #[x, y], argTypes := #[bt, xt] }, ty, pos, af, g⟩ id e h (.sl 2 []) [] [] := .mk fun s m hs hm => ⟨by
 have e6 : flat m te.size (.sl k []) = some ([], 0) := mG h0 (by simp)
 have e7 : appendLV T bt xt (.sl 2 []) (.sl k []) m id = some (.sl 2 [], []) := by
  unfold appendLV
  simp only [hT, hT2, hE, e6]
  rfl
 simp only [aop, builtinLV, List.map_cons, List.map_nil, hs x _ hx, hs y _ hy, Array.getD_eq_getD_getElem?]
 exact e7, by simp [rds, hs x _ hx, hs y _ hy, idsOf]⟩
theorem oApSR {dst : Option Tmp} {g : Option (Nat × Bool)} {id q : Nat} {rows : List (List LV)} (hT : dsc T bt = some (.sl el)) (hT2 : dsc T xt = some (.sl el2)) (hE : T el = some te) (hx : evE e x = some (.sl 2 [])) (hy : evE e y = some (.ref q te.size 0 rows.length)) (h0 : 0 < te.size) (hrow : ∀ row, row ∈ rows → row.length = te.size) (hne : 0 < rows.length)
  (hq : getH h q = some { cells := rows.flatten, sz := te.size, elem := el3, st := 0 }) (hb : (2 * (0 + rows.length) + 256) * te.bytes ≤ 2 ^ 48) (hb2 : 0 + rows.length < 2 ^ 62) :
  OP P T E ⟨dst, .call { callee := .builtin .append, args := #[x, y], argTypes := #[bt, xt] }, ty, pos, af, g⟩ id e h (.ref id te.size 0 (0 + rows.length)) [(id, { cells := rows.flatten, sz := te.size, elem := el, st := 0 })] [q] := .mk fun s m hs hm => ⟨by
 have hne' : rows.length ≠ 0 := by omega
 have hl : rows.flatten.length = rows.length * te.size := fG hrow
 have e6 : flat m te.size (.ref q te.size 0 rows.length) = some (rows.flatten, rows.length) := by
  simp only [flat, hm _ _ hq]
  rw [if_pos ⟨h0, by decide, trivial, trivial, by rw [Nat.zero_add, hl]; exact Nat.le_refl _⟩, Nat.zero_mul, List.drop_zero, List.take_of_length_le (by rw [hl]; exact Nat.le_refl _)]
 have e7 : appendLV T bt xt (.sl 2 []) (.ref q te.size 0 rows.length) m id = some (.ref id te.size 0 (0 + rows.length), [(id, { cells := rows.flatten, sz := te.size, elem := el, st := 0 })]) := by
  unfold appendLV
  simp only [hT, hT2, hE, e6]
  rw [if_neg hne', if_pos ⟨.inr trivial, rfl, hb, hb2⟩]
  rfl
 simp only [aop, builtinLV, List.map_cons, List.map_nil, hs x _ hx, hs y _ hy, Array.getD_eq_getD_getElem?]
 exact e7, by simp [rds, hs x _ hx, hs y _ hy, idsOf]⟩
theorem WO.apC {q : Nat} {rows : List (List LV)} {Q : Env → Hp → Prop} (hT : dsc T bt = some (.sl el)) (hT2 : dsc T xt = some (.sl el2)) (hE : T el = some te) (hx : evE e x = some (.sl 2 [])) (hy : evE e y = some (outV q te.size rows)) (h0 : 0 < te.size) (hrow : ∀ row, row ∈ rows → row.length = te.size)
  (hg : rows ≠ [] → getH h q = some { cells := rows.flatten, sz := te.size, elem := el3, st := 0 }) (hb : (2 * (0 + rows.length) + 256) * te.bytes ≤ 2 ^ 48) (hb2 : 0 + rows.length < 2 ^ 62) (hd : Nat.blt d N = true)
  (kk : WO P T E N oa l (i + 1) b ((d, outK 2 (b + i) te.size rows) :: e) (outH (b + i) te.size el rows h) Q) :
  WO P T E N oa (⟨some d, .call { callee := .builtin .append, args := #[x, y], argTypes := #[bt, xt] }, ty, pos, af, none⟩ :: l) i b e h Q := by
 cases rows with
 | nil => exact aA (oApNil hT hT2 hE hx hy h0) hd kk
 | cons u us => exact bL (oApSR hT hT2 hE hx hy h0 hrow (by simp) (hg (by simp)) hb hb2) hd (by rw [Nat.zero_add]; exact kk)
theorem WO.apD {k : Nat} {rows : List (List LV)} {Q : Env → Hp → Prop} (hT : dsc T bt = some (.sl el)) (hT2 : dsc T xt = some (.sl el2)) (hE : T el = some te) (hx : evE e x = some (.sl 2 [])) (hy : evE e y = some (.sl k rows)) (h0 : 0 < te.size) (hrow : ∀ row, row ∈ rows → row.length = te.size)
  (hb : (2 * (0 + rows.length) + 256) * te.bytes ≤ 2 ^ 48) (hb2 : 0 + rows.length < 2 ^ 62) (hd : Nat.blt d N = true)
  (kk : WO P T E N oa l (i + 1) b ((d, outK 2 (b + i) te.size rows) :: e) (outH (b + i) te.size el rows h) Q) :
  WO P T E N oa (⟨some d, .call { callee := .builtin .append, args := #[x, y], argTypes := #[bt, xt] }, ty, pos, af, none⟩ :: l) i b e h Q := by
 cases rows with
 | nil => exact aA (oApNil hT hT2 hE hx hy h0) hd kk
 | cons u us => exact bL (oApS (xs := []) hT hT2 hE hx hy h0 (by simp) hrow (by simp) (by simpa using hb) (by simpa using hb2)) hd (by rw [List.length_nil, Nat.zero_add]; exact kk)
theorem Fz.env2 {K : Env → Hp → Prop} {q sz t : Nat} {us : List (List LV)} (a : Env) (hs : subs a e) (ht : e.get t = some (outK 2 q sz us)) (hq : us ≠ [] → ∀ r o, getH h r = some o → r ≠ q) (h0 : 0 < sz) (hl : ∀ row, row ∈ us → row.length = sz) (hd : ∀ row, row ∈ us → ∀ c, c ∈ row → Data c)
  (k : K ((t, .sl (kd2 us.length) us) :: a) h) : Fz N e (outH q sz el us h) K := by
 cases us with
 | nil => exact Fz.same ((t, .sl 2 []) :: a) h ⟨ht, hs⟩ (fun _ _ h => h) k
 | cons u us => exact Fz.env (t := t) (us := u :: us) a hs ht hq h0 hl hd k
end
end Go.Ab
namespace Go.Ab
open Go.RowKit
section
variable {P : Program} {T : TT} {E : TypeId → Bool} {N : Nat} {oa : Array Oper} {i b : Nat} {e : Env} {h : Hp}
end
def obI (e : TypeId) (us : List Int) : Ob := { cells := (us.map ic).flatten, sz := 1, elem := e, st := 0 }
theorem eqOk_nest {P : Program} {t : TypeId} {k1 k2 k3 : IntKind} {f1 f2 g1 g2 : Field} {i : TypeInfo} (hg : P.eqGuardType P.depth t = false) (ht : P.underlying t = some (.struct #[f1, f2])) (hs : P.stoodInHeld t = false) (hn1 : f1.name ≠ "_") (hn2 : f2.name ≠ "_") (he1 : P.underlying f1.type = some (.int k1)) (hp1 : P.plainKey f1.type = true)
  (ht2 : P.underlying f2.type = some (.struct #[g1, g2])) (hs2 : P.stoodInHeld f2.type = false) (hm1 : g1.name ≠ "_") (hm2 : g2.name ≠ "_") (he2 : P.underlying g1.type = some (.int k2)) (he3 : P.underlying g2.type = some (.int k3)) (hq1 : P.plainKey g1.type = true) (hq2 : P.plainKey g2.type = true)
  (hi : P.info? f2.type = some i) (hc2 : P.cellsOf f2.type = 2) (ho1 : f1.offset = 0) (ho2 : f2.offset = 1) (go1 : g1.offset = 0) (go2 : g2.offset = 1) (hc : P.cellsOf t = 3) : EqOk P t := by
 refine ⟨hg, fun xs ys w h1 h2 h3 => ?_⟩
 unfold EqKind at h3
 rw [ht] at h3
 have hf : P.fieldsOf t = #[f1, f2] := by simp [Program.fieldsOf, ht]
 have hf2 : P.fieldsOf f2.type = #[g1, g2] := by simp [Program.fieldsOf, ht2]
 obtain ⟨xs⟩ := xs
 obtain ⟨ys⟩ := ys
 rw [hc] at h2
 simp only [List.size_toArray] at h1 h2
 match xs, ys, h1, h2 with
 | [x1, x2, x3], [y1, y2, y3], _, _ =>
  obtain ⟨k, a, b, rfl, rfl⟩ := h3 0 x1 y1 rfl rfl
  obtain ⟨k', a', b', rfl, rfl⟩ := h3 1 x2 y2 rfl rfl
  obtain ⟨k'', a'', b'', rfl, rfl⟩ := h3 2 x3 y3 rfl rfl
  refine ⟨a == b && (a' == b' && a'' == b''), ?_, by simp⟩
  rw [run_equalIn_struct w 9999 t _ _ (by rw [hf]; exact ht) hs, hf]
  have p1 := run_part_plain (P := P) w hp1 (xs := ⟨[.int k a, .int k' a', .int k'' a'']⟩) (off := 0) (v := .int k a) rfl
  have p2 := run_part_plain (P := P) w hp1 (xs := ⟨[.int k b, .int k' b', .int k'' b'']⟩) (off := 0) (v := .int k b) rfl
  have p3 : ∀ c c' c'' : Value, (part f2.type ⟨[c, c', c'']⟩ 1).run P w = .ok (.agg #[c', c'']) w := fun c c' c'' => by
   simp [part, isAgg, run_underlying ht2, run_sizeOf w hi, hc2]
  have q1 : (Op.equalIn 9999 f1.type (.int k a) (.int k b)).run P w = .ok (a == b) w := run_equalIn_int w 9998 _ _ _ _ _ he1
  have q2 : (Op.equalIn 9999 f2.type (.agg #[.int k' a', .int k'' a'']) (.agg #[.int k' b', .int k'' b''])).run P w = .ok (a' == b' && a'' == b'') w := by
   rw [run_equalIn_struct w 9998 f2.type _ _ (by rw [hf2]; exact ht2) hs2, hf2]
   have r1 := run_part_plain (P := P) w hq1 (xs := ⟨[.int k' a', .int k'' a'']⟩) (off := 0) (v := .int k' a') rfl
   have r2 := run_part_plain (P := P) w hq1 (xs := ⟨[.int k' b', .int k'' b'']⟩) (off := 0) (v := .int k' b') rfl
   have r3 := run_part_plain (P := P) w hq2 (xs := ⟨[.int k' a', .int k'' a'']⟩) (off := 1) (v := .int k'' a'') rfl
   have r4 := run_part_plain (P := P) w hq2 (xs := ⟨[.int k' b', .int k'' b'']⟩) (off := 1) (v := .int k'' b'') rfl
   have s1 : (Op.equalIn 9998 g1.type (.int k' a') (.int k' b')).run P w = .ok (a' == b') w := run_equalIn_int w 9997 _ _ _ _ _ he2
   have s2 : (Op.equalIn 9998 g2.type (.int k'' a'') (.int k'' b'')).run P w = .ok (a'' == b'') w := run_equalIn_int w 9997 _ _ _ _ _ he3
   simp only [Op.eqFields, hm1, hm2, go1, go2, ne_eq, not_false_eq_true, if_true, Sem.run_bind, r1, r2, r3, r4, Result.andThen_ok, s1, s2]
   cases (a' == b')
   ·simp
   ·cases hb : (a'' == b'')
    ·simp [r3, r4, s2, s1, hb]
    ·simp [r3, r4, s2, s1, hb]
  simp only [Op.eqFields, hn1, hn2, ho1, ho2, ne_eq, not_false_eq_true, if_true, Sem.run_bind, p1, p2, p3, Result.andThen_ok, q1, q2]
  cases (a == b)
  ·simp
  ·cases hb : (a' == b' && a'' == b'')
   ·simp [p3, q2, q1, hb]
   ·simp [p3, q2, q1, hb]
end Go.Ab
namespace Go.Ab
open Go.RowKit
def Sml (l : List Int) : Prop := l.length ≤ 1000 ∧ ∀ a, a ∈ l → -1 ≤ a ∧ a ≤ 1000
theorem Sml.nil : Sml [] := ⟨by simp, by simp⟩
open Go.RowKit
section
variable {P : Program} {T : TT} {E : TypeId → Bool} {N : Nat} {oa : Array Oper} {i b : Nat} {e : Env} {h : Hp} {Q : Env → Hp → Nat → Prop}
theorem jM {fn : Func} {f : FuncId} {c : Code} {args : Array Operand} {at_ : Array TypeId} {t : TypeId} {pos : String} {af : Array Edge} {l : List Oper} {dst : Tmp} {ls : List LV} {n : Nat} {Φ : LV → Hp → Nat → Prop} (ha : argsE e args.toList = some ls) (hdl : AllData ls) (hf : P.funcs[f]? = some fn) (hb : fn.body = some c) (hn : (fn.name == "runtime.NumGoroutine") = false) (hl : ls.length ≤ fn.ntmps) (hd : Nat.blt dst N = true)
  (k : (∃ r, Run P T E (.call f ls r) ∧ Φ r [] n) ∨ WC P T E fn.ntmps c (argsEnv 0 ls) [] n (fun x e' h' n' => (x = .normal ∨ x = .ret) ∧ ∃ ls', resE e' T h' fn.results.toList = some ls' ∧ Φ (resultLV ls') h' n'))
  (kk : ∀ r h' n', Φ r h' n' → ∃ hh, Both n h h' hh ∧ WN P T E N oa l (i + 1) b ((dst, r) :: e) hh n' Q) :
  WN P T E N oa (⟨some dst, .call { callee := .value (.func f), args := args, argTypes := at_ }, t, pos, af, none⟩ :: l) i b e h n Q := by
 rcases k with ⟨r, hr, hΦ⟩ | k
 ·obtain ⟨hh, hbo, hk⟩ := kk r [] n hΦ
  refine bR (aE ha hr hdl) hd ?_
  intro hdr s m hs hm
  refine hk hdr s m hs fun q o hq => ?_
  rcases hbo q o hq with ⟨_, q2⟩ | ⟨_, q2⟩
  ·exact hm _ _ q2
  ·cases q2
 ·refine WN.F (first := []) (cap := []) (ls := ls) (as_ := ls) [] rfl ha ?_ (by intro p hp; cases hp) hf hb hn hl hd k ?_
  ·rw [List.nil_append, List.append_nil]
   exact iA hdl
  ·exact kk
end
def PhiN (e : TypeId) (lo n : Nat) (L : List NM) (er : Int) : LV → Hp → Nat → Prop := fun r h' n' => ∃ q, r = .tup [outV q 2 (L.map mc), .v (.int .i64 er)] ∧ n ≤ n' ∧ lo ≤ q ∧ q < n' ∧ (L ≠ [] → n ≤ q ∧ getH h' q = some (obN e L))
def PhiM (e1 e2 : TypeId) (lo n : Nat) (R : List (List NM)) (er : Int) : LV → Hp → Nat → Prop := fun r h' n' => ∃ (q : Nat) (a : Nat → Nat), r = .tup [outV q 1 (rwC a R), .v (.int .i64 er)] ∧ n ≤ n' ∧ OwnM h' e1 e2 lo n' q a R ∧ (R ≠ [] → OwnM h' e1 e2 n n' q a R)
def PhiB (e1 e2 : TypeId) (lo n : Nat) (L : List NM) (S : List Int) (er : Int) : LV → Hp → Nat → Prop := fun r h' n' => ∃ q1 q2, r = .tup [outV q1 2 (L.map mc), outV q2 1 (S.map ic), .v (.int .i64 er)] ∧ n ≤ n' ∧ (lo ≤ q1 ∧ q1 < n') ∧ (lo ≤ q2 ∧ q2 < n') ∧ q1 ≠ q2 ∧ (L ≠ [] → n ≤ q1 ∧ getH h' q1 = some (obN e1 L)) ∧ (S ≠ [] → n ≤ q2 ∧ getH h' q2 = some (obI e2 S))
theorem PhiN.data {e : TypeId} {lo n : Nat} {L : List NM} {er : Int} {r : LV} (hn : lo < n) (hL : L = []) (hr : r = .tup [.sl (kd L.length) (L.map mc), .v (.int .i64 er)]) : PhiN e lo n L er r [] n := by
 subst hL
 exact ⟨lo, hr, Nat.le_refl _, Nat.le_refl _, hn, fun h => absurd rfl h⟩
theorem PhiM.data {e1 e2 : TypeId} {lo n : Nat} {R : List (List NM)} {er : Int} {r : LV} (hn : lo < n) (hR : R = []) (hr : r = .tup [.sl (kd R.length) ((R.map kM).map fM), .v (.int .i64 er)]) : PhiM e1 e2 lo n R er r [] n := by
 subst hR
 exact ⟨lo, fun _ => 0, hr, Nat.le_refl _, .nil (Nat.le_refl _) hn, fun h => absurd rfl h⟩
theorem PhiB.data {e1 e2 : TypeId} {lo n : Nat} {L : List NM} {S : List Int} {er : Int} {r : LV} (hn : lo + 1 < n) (hL : L = []) (hS : S = []) (hr : r = .tup [.sl (kd L.length) (L.map mc), .sl (kd S.length) (S.map ic), .v (.int .i64 er)]) : PhiB e1 e2 lo n L S er r [] n := by
 subst hL; subst hS
 exact ⟨lo, lo + 1, hr, Nat.le_refl _, ⟨Nat.le_refl _, om⟩, ⟨om, hn⟩, om, fun h => absurd rfl h, fun h => absurd rfl h⟩
def oL {α : Type} (c : Prop) [Decidable c] (o : Option (List α)) : List α := if c then o.getD [] else []
def oE {α : Type} (c : Prop) [Decidable c] (o : Option (List α)) (er : Int) : Int := if c then if o.isSome = true then 0 else 3 else er
theorem oL_ne {α : Type} {c : Prop} [Decidable c] {o : Option (List α)} {er : Int} (h : oL c o ≠ []) : c ∧ ∃ l, o = some l ∧ l ≠ [] ∧ oL c o = l ∧ oE c o er = 0 := by
 unfold oL at h
 split at h
 ·rename_i hc
  cases o with
  | none => exact absurd rfl h
  | some l => exact ⟨hc, l, rfl, h, by unfold oL; rw [if_pos hc]; rfl, by unfold oE; rw [if_pos hc]; rfl⟩
 ·exact absurd rfl h
def cutH (n : Nat) : Hp → Hp
 | [] => []
 | (q, o) :: h => if n ≤ q then (q, o) :: cutH n h else cutH n h
theorem gW {n q : Nat} (hq : n ≤ q) : ∀ {h : Hp}, getH (cutH n h) q = getH h q
 | [] => rfl
 | (r, o) :: h => by
  unfold cutH
  split
  ·simp only [getH]; rw [gW hq (h := h)]
  ·have : Nat.beq r q = false := by
    cases hb : Nat.beq r q with
    | false => rfl
    | true => have := Nat.eq_of_beq_eq_true hb; omega
   simp only [getH, this]; exact gW hq
theorem nG {n q : Nat} {o : Ob} : ∀ {h : Hp}, getH (cutH n h) q = some o → n ≤ q ∧ getH h q = some o
 | [], hq => by simp [cutH, getH] at hq
 | (r, x) :: h, hq => by
  have key : n ≤ q := by
   clear nG
   revert hq
   induction ((r, x) :: h : Hp) with
   | nil => intro hq; simp [cutH, getH] at hq
   | cons p h ih =>
    intro hq
    obtain ⟨r, x⟩ := p
    unfold cutH at hq
    split at hq
    ·simp only [getH] at hq
     split at hq
     ·rename_i h1 hb; have := Nat.eq_of_beq_eq_true hb; omega
     ·exact ih hq
    ·exact ih hq
  exact ⟨key, by rw [gW key] at hq; exact hq⟩
theorem Both.cut {n : Nat} {h h' : Hp} : Both n h h' (cutH n h') := fun q o hq => .inr (nG hq)
theorem getH_app {a b : Hp} {q : Nat} : getH (a ++ b) q = match getH a q with | some o => some o | none => getH b q := by
 induction a with
 | nil => rfl
 | cons p a ih =>
  obtain ⟨r, o⟩ := p
  simp only [List.cons_append, getH]
  split
  ·rfl
  ·exact ih
theorem Both.all {n : Nat} {h h' : Hp} (hl : ∀ q o, getH h q = some o → q < n) : Both n h h' (cutH n h' ++ h) := fun q o hq => by
 rw [getH_app] at hq
 split at hq
 ·rename_i o' h1; cases hq; exact .inr (nG h1)
 ·exact .inl ⟨hl _ _ hq, hq⟩
theorem bothN {n q : Nat} {h h' hh : Hp} {e : TypeId} {L : List NM} (hg : L ≠ [] → n ≤ q ∧ getH h' q = some (obN e L)) (hb : Both n h h' hh) : Both n h h' (outH q 2 e (L.map mc) hh) := by
 cases L with
 | nil => exact hb
 | cons u us => exact .cons (.inr (hg (by simp))) hb
theorem PhiN.mk {e : TypeId} {lo n n' q : Nat} {L o : List NM} {er : Int} {h' : Hp} (hL : L = o) (hE : er = 0) (hne : o ≠ []) (h1 : n ≤ n') (h2 : lo ≤ n) (h3 : n ≤ q) (h4 : q < n') (hg : getH h' q = some (obN e o)) : PhiN e lo n L er (.tup [.ref q 2 0 o.length, .v (.int .i64 0)]) h' n' := by
 subst hL; subst hE
 refine ⟨q, ?_, h1, om, h4, fun _ => ⟨h3, hg⟩⟩
 rw [kY (fun h => hne (List.map_eq_nil_iff.1 h)), List.length_map]
theorem PhiN.to {e : TypeId} {lo lo' n n0 n' : Nat} {L o : List NM} {er : Int} {h' h2 : Hp} {r : LV} (k : PhiN e lo n o 0 r h' n') (hL : L = o) (hE : er = 0) (hn : n0 ≤ n) (hl : lo' ≤ lo) (hg : ∀ q x, n ≤ q → getH h' q = some x → getH h2 q = some x) : PhiN e lo' n0 L er r h2 n' := by
 subst hL; subst hE
 obtain ⟨q, rfl, h1, h2, h3, h4⟩ := k
 exact ⟨q, rfl, om, om, h3, fun h => ⟨by have := (h4 h).1; omega, hg _ _ (h4 h).1 (h4 h).2⟩⟩
theorem PhiM.to {e1 e2 : TypeId} {lo lo' n n0 n' : Nat} {L o : List (List NM)} {er : Int} {h' h2 : Hp} {r : LV} (k : PhiM e1 e2 lo n o 0 r h' n') (hL : L = o) (hE : er = 0) (hne : o ≠ []) (hn : n0 ≤ n) (hl : lo' ≤ n) (hg : ∀ q x, n ≤ q → getH h' q = some x → getH h2 q = some x) : PhiM e1 e2 lo' n0 L er r h2 n' := by
 subst hL; subst hE
 obtain ⟨q, a, rfl, h1, h2, h3⟩ := k
 have k := h3 hne
 exact ⟨q, a, rfl, om, k.mono hl (Nat.le_refl _) (fun r o hr _ h => hg r o hr h), fun _ => k.mono hn (Nat.le_refl _) (fun r o hr _ h => hg r o hr h)⟩
end Go.Ab
namespace Go.Ab
open Go.RowKit
section
variable {P : Program} {T : TT} {E : TypeId → Bool} {N : Nat} {oa : Array Oper} {i b n : Nat} {e : Env} {h : Hp}
theorem WN.O {l : List Oper} {Q : Env → Hp → Nat → Prop} (k : WO P T E N oa l i b e h (fun e' h' => Q e' h' n)) : WN P T E N oa l i b e h n Q := fun hd s m hs hm => by
 obtain ⟨rs, s', h1, h2, e', h', h3, h4, h5⟩ := k hd n s m hs hm
 exact ⟨rs, s', h1, e', h', h3, h4, by rw [h2]; exact h5⟩
theorem WC.regn1 {Q : Ex → Env → Hp → Nat → Prop} {rid m : Nat} {oa : Array Oper} {z : Nat} (hz : oa.size = z) (k : WN P T E N oa oa.toList 0 m e h (m + z) fun e' m' n' => Q .normal e' m' n') : WC P T E N (.region rid oa false) e h m Q := fun s mm hs hm => by
 obtain ⟨rs, s', h1, e', h', h3, h4, h5⟩ := k (by simp) s mm hs hm
 refine ⟨.normal, s', .region rid oa _ s' rs ?_, e', h', h3, h4, h5⟩
 rw [List.range_eq_range']
 subst hz
 simpa using h1
variable {dst : Option Tmp} {ty : TypeId} {pos : String} {af : Array Edge} {g : Option (Nat × Bool)} {id : Nat} {x : Operand} {bt : TypeId} {ti : TI}
theorem oLdF0 {us : List NM} {r j : Nat} {el : TypeId} (hx : evE e x = some (.ptr r ((0 + j) * 2 + 0))) (hE : T bt = some ti) (hr : getH h r = some { cells := (us.map mc).flatten, sz := 2, elem := el, st := 0 }) (hj : j < us.length) (hl : ∀ v cs, loadLV ti (.v (.int .i64 v) :: cs) = some (.v (.int .i64 v))) :
  OP P T E ⟨dst, .load bt x, ty, pos, af, g⟩ id e h (.v (.int .i64 (us.getD j default).1)) [] [r] := bF hx hE hr rfl (by
 rw [Nat.zero_add, Nat.add_zero, kS (f := mc) (sz := 2) (fun _ => rfl) us j hj]
 exact hl _ _)
end
def nrm : Hp → Hp
 | [] => []
 | (q, o) :: h => (q, o) :: (nrm h).filter fun p => !Nat.beq p.1 q
theorem oG {q r : Nat} (hr : r ≠ q) : ∀ {h : Hp}, getH (h.filter fun p => !Nat.beq p.1 q) r = getH h r
 | [] => rfl
 | (t, o) :: h => by
  have ih := oG hr (h := h)
  rw [List.filter_cons]
  cases ht : Nat.beq t q with
  | true =>
   have h1 := Nat.eq_of_beq_eq_true ht
   have h2 : Nat.beq t r = false := by
    cases hb : Nat.beq t r with
    | false => rfl
    | true => exact absurd ((Nat.eq_of_beq_eq_true hb).symm.trans h1) hr
   simp only [Bool.not_true, Bool.false_eq_true, if_false, getH, h2]
   exact ih
  | false =>
   simp only [Bool.not_false, if_true, getH]
   split
   ·rfl
   ·exact ih
theorem nrm_get {q : Nat} : ∀ {h : Hp}, getH (nrm h) q = getH h q
 | [] => rfl
 | (t, o) :: h => by
  unfold nrm
  simp only [getH]
  split
  ·rfl
  ·rename_i hb
   rw [oG (fun e => by rw [e, Nat.beq_refl] at hb; cases hb)]
   exact nrm_get (h := h)
theorem mem_nrm : ∀ {h : Hp} {p : Nat × Ob}, p ∈ nrm h → getH h p.1 = some p.2
 | [], p, hp => by cases hp
 | (t, o) :: h, p, hp => by
  unfold nrm at hp
  rcases List.mem_cons.1 hp with rfl | hp
  ·exact g0
  ·obtain ⟨h1, h2⟩ := List.mem_filter.1 hp
   refine g1 (fun e => ?_) (mem_nrm h1)
   rw [e, Nat.beq_refl] at h2
   cases h2
theorem subsM_of {a h : Hp} (k : ∀ p, p ∈ a → getH h p.1 = some p.2) : subsM a h := by
 induction a with
 | nil => trivial
 | cons p a ih => exact ⟨k p (List.mem_cons_self ..), ih fun p hp => k p (List.mem_cons_of_mem _ hp)⟩
theorem gB {a h : Hp} (k : ∀ q o, getH a q = some o → getH h q = some o) : subsM (nrm a) h := subsM_of fun p hp => k _ _ (mem_nrm hp)
def ffN (p : Nat × List NM) : List LV := [outV p.1 2 (p.2.map mc)]
def rwT (a : Nat → Nat) (R : List (List NM)) : List (Nat × List NM) := tab R.length fun t => (a t, R.getD t [])
theorem rwC_map (a : Nat → Nat) (R : List (List NM)) : rwC a R = (rwT a R).map ffN := by
 unfold rwC rwT tab
 rw [List.map_map]
 rfl
theorem rwT_len (a : Nat → Nat) (R : List (List NM)) : (rwT a R).length = R.length := fT _ _
theorem rwT_get {a : Nat → Nat} {R : List (List NM)} {i : Nat} (hi : i < R.length) : (rwT a R).getD i default = (a i, R.getD i []) := tab_get _ hi
def cp2 (L : List NM) : M1 := (kd2 L.length, L)
structure RdR (h : Hp) (e2 : TypeId) (a : Nat → Nat) (R : List (List NM)) : Prop where
 inj : ∀ s t, s < R.length → t < R.length → a s = a t → s = t
 row : ∀ t, t < R.length → R.getD t [] ≠ [] → getH h (a t) = some (obN e2 (R.getD t []))
structure RdM (h : Hp) (e1 e2 : TypeId) (q : Nat) (a : Nat → Nat) (R : List (List NM)) : Prop where
 ne : ∀ t, t < R.length → a t ≠ q
 top : R ≠ [] → getH h q = some { cells := (rwC a R).flatten, sz := 1, elem := e1, st := 0 }
 rd : RdR h e2 a R
theorem RdR.mono {h h' : Hp} {e2 : TypeId} {a : Nat → Nat} {R : List (List NM)} (k : RdR h e2 a R) (hg : ∀ t o, t < R.length → getH h (a t) = some o → getH h' (a t) = some o) : RdR h' e2 a R := ⟨k.inj, fun t ht hr => hg t _ ht (k.row t ht hr)⟩
theorem RdM.mono {h h' : Hp} {e1 e2 : TypeId} {q : Nat} {a : Nat → Nat} {R : List (List NM)} (k : RdM h e1 e2 q a R) (hq : ∀ o, getH h q = some o → getH h' q = some o) (hg : ∀ t o, t < R.length → getH h (a t) = some o → getH h' (a t) = some o) : RdM h' e1 e2 q a R := ⟨k.ne, fun hr => hq _ (k.top hr), k.rd.mono hg⟩
theorem iR {α : Type} {L : List α} {i : Nat} (h : i < L.length) : L ≠ [] := fun e => by rw [e] at h; exact absurd h (by simp)
end Go.Ab
namespace Go.Ab
open Go.RowKit
structure SmlN (L : List NM) : Prop where
  len : L.length ≤ 1000
  rng : ∀ t, t < L.length → -9223372036854775809 < (L.getD t default).1 ∧ (L.getD t default).1 < 9223372036854775807
theorem SmlN.nil : SmlN [] := ⟨by simp, fun t ht => absurd ht (by simp)⟩
structure SmlM (R : List (List NM)) : Prop where
  len : R.length ≤ 1000
  row : ∀ t, t < R.length → SmlN (R.getD t [])
theorem SmlM.nil : SmlM [] := ⟨by simp, fun t ht => absurd ht (by simp)⟩
def matH (e1 e2 : TypeId) (q : Nat) (a : Nat → Nat) (R : List (List NM)) (h : Hp) : Hp := famH a (fun t => opN e2 (R.getD t [])) (outH q 1 e1 (rwC a R) h) R.length
theorem rwC_nil {a : Nat → Nat} {R : List (List NM)} (h : R ≠ []) : rwC a R ≠ [] := fun h2 => h (List.eq_nil_of_length_eq_zero (by rw [← iE a R, h2]; rfl))
theorem bothM {n q : Nat} {a : Nat → Nat} {h h' hh : Hp} {e1 e2 : TypeId} {R : List (List NM)} {m : Nat} (hO : R ≠ [] → OwnM h' e1 e2 n m q a R) (hb : Both n h h' hh) : Both n h h' (matH e1 e2 q a R hh) := by
  cases R with
  | nil => exact hb
  | cons r rs =>
    have k := hO (by simp)
    refine .fam _ (fun t ht => ⟨(k.at_ t ht).1, fun x hx => ?_⟩) ?_
    · obtain ⟨h1, rfl⟩ := mK hx
      exact k.row t ht h1
    · rw [fA (rwC_nil (by simp))]
      exact .cons (.inr ⟨k.ql, k.top (by simp)⟩) hb
theorem cS {e1 e2 : TypeId} {q r : Nat} {a : Nat → Nat} {R : List (List NM)} {h : Hp} (ha : ∀ t, t < R.length → a t ≠ r) (hq : q ≠ r) : getH (matH e1 e2 q a R h) r = getH h r := (dW _ ha).trans (aM hq rfl)
theorem pG {h' : Hp} {e1 e2 : TypeId} {lo hi q : Nat} {a : Nat → Nat} {R : List (List NM)} {h : Hp} (k : OwnM h' e1 e2 lo hi q a R) : RdM (matH e1 e2 q a R h) e1 e2 q a R :=
  ⟨fun t ht => (k.at_ t ht).2.2, fun hr => by
    refine (dW _ fun t ht => (k.at_ t ht).2.2).trans ?_
    rw [fA (rwC_nil hr)]; exact g0,
   k.inj, fun t ht hr => kA _ ht (opN_ne hr) fun j hj e => k.inj j t hj ht e⟩
section
variable {P : Program} {T : TT} {E : TypeId → Bool} {N : Nat} {oa : Array Oper} {i b d n : Nat} {e : Env} {h : Hp}
variable {ty : TypeId} {pos : String} {af : Array Edge} {x y : Operand} {bt xt el el2 el3 : TypeId} {te : TI} {l : List Oper}
theorem WN.apC {q : Nat} {rows : List (List LV)} {Q : Env → Hp → Nat → Prop} (hT : dsc T bt = some (.sl el)) (hT2 : dsc T xt = some (.sl el2)) (hE : T el = some te) (hx : evE e x = some (.sl 2 [])) (hy : evE e y = some (outV q te.size rows)) (h0 : 0 < te.size) (hrow : ∀ row, row ∈ rows → row.length = te.size)
    (hg : rows ≠ [] → getH h q = some { cells := rows.flatten, sz := te.size, elem := el3, st := 0 }) (hb : (2 * (0 + rows.length) + 256) * te.bytes ≤ 2 ^ 48) (hb2 : 0 + rows.length < 2 ^ 62) (hd : Nat.blt d N = true)
    (kk : WN P T E N oa l (i + 1) b ((d, outK 2 (b + i) te.size rows) :: e) (outH (b + i) te.size el rows h) n Q) :
    WN P T E N oa (⟨some d, .call { callee := .builtin .append, args := #[x, y], argTypes := #[bt, xt] }, ty, pos, af, none⟩ :: l) i b e h n Q := by
  cases rows with
  | nil => exact bR (oApNil hT hT2 hE hx hy h0) hd kk
  | cons u us => exact WN.S (oApSR hT hT2 hE hx hy h0 hrow (by simp) (hg (by simp)) hb hb2) hd (by rw [Nat.zero_add]; exact kk)
end
end Go.Ab
namespace Go.Ab
open Go.RowKit
theorem ogN {q : Nat} {e : TypeId} {us : List NM} {h : Hp} (hu : us ≠ []) : getH (outH q 2 e (us.map mc) h) q = some (obN e us) := by
  rw [fA (fun h2 => hu (List.map_eq_nil_iff.1 h2))]; exact g0
end Go.Ab
namespace Go.Ab
open Go.RowKit
theorem kM_snd {R : List (List NM)} {t : Nat} (ht : t < R.length) : R.getD t [] ∈ R := by
 rw [List.getD_eq_getElem?_getD, List.getElem?_eq_getElem ht]
 exact List.getElem_mem ht
theorem pK {R : List (List NM)} {m : List M1} (e : m = R.map kM) (h1 : m.length ≤ 1000) (h2 : ∀ r, r ∈ m → r.2.length ≤ 1000) (hv : ∀ r, r ∈ R → ∀ a, a ∈ r → VN a) : SmlM R := by
 subst e
 refine ⟨by rw [List.length_map] at h1; exact h1, fun t ht => ⟨?_, fun s hs => ?_⟩⟩
 ·exact h2 (kM (R.getD t [])) (List.mem_map.2 ⟨_, kM_snd ht, rfl⟩)
 ·obtain ⟨k1, k2, k3, k4, k5⟩ := hv _ (kM_snd ht) _ (bD hs)
  omega
theorem vn_oL {c : Prop} [Decidable c] {v : List (List Rat)} : ∀ r, r ∈ oL c (v.mapM fun r => r.mapM outN) → ∀ a, a ∈ r → VN a := by
 unfold oL
 split
 ·cases hm : (v.mapM fun r => r.mapM outN) with
  | none => intro r hr; cases hr
  | some o =>
   intro r hr
   obtain ⟨x, _, h2⟩ := (eK hm).2 r hr
   exact (outs_all h2).2
 ·intro r hr; cases hr
def mulR (a b : List M1) : List (List NM) := oL (mulOk a b = true) (mulO a b)
theorem mulR_kM (a b : List M1) : mul1 a b = (mulR a b).map kM := by unfold mul1 mulR oL; split <;> rfl
theorem lvMul_eq (a b : List M1) : lvMul a b = .tup [.sl (kd (mulR a b).length) (((mulR a b).map kM).map fM), .v (.int .i64 (mule a b))] := by unfold lvMul; rw [mulR_kM, List.length_map]
theorem mulOk_f {a b : List M1} (h : mulOk a b = true) : VM a = true ∧ VM b = true ∧ (0 < a.length → wd a = b.length) := by
 unfold mulOk at h
 rw [Bool.and_eq_true, Bool.and_eq_true] at h
 refine ⟨h.1.1, h.1.2, fun hp => ?_⟩
 have h2 := h.2
 rw [decide_eq_true hp, Bool.true_and, Bool.not_eq_true', decide_eq_false_iff_not] at h2
 exact Classical.not_not.1 h2
theorem mule_0 {a b : List M1} {o : List (List NM)} (h : mulOk a b = true) (ho : mulO a b = some o) : mule a b = 0 := by
 obtain ⟨h1, h2, h3⟩ := mulOk_f h
 unfold mule
 rw [h1, h2, ho, if_neg (by decide), if_neg (by rintro ⟨k1, k2⟩; exact k2 (h3 k1))]; rfl
theorem smlM_mul {a b : List M1} (ha : a.length ≤ 1000) (hb : wd b ≤ 1000) : SmlM (mulR a b) := pK (mulR_kM a b) (by have := (mul1_len a b).1; omega) (fun r hr => by have := (mul1_len a b).2 r hr; omega) vn_oL
theorem app1_oL (a : List M1) (x : List NM) : app1 a x = oL (appOk a x = true) (appO a x) := rfl
theorem appOk_f {a : List M1} {x : List NM} (h : appOk a x = true) : VM a = true ∧ VV x = true ∧ (0 < a.length → wd a = x.length) := by
 unfold appOk at h
 rw [Bool.and_eq_true, Bool.and_eq_true] at h
 refine ⟨h.1.1, h.1.2, fun hp => ?_⟩
 have h2 := h.2
 rw [decide_eq_true hp, Bool.true_and, Bool.not_eq_true', decide_eq_false_iff_not] at h2
 exact Classical.not_not.1 h2
theorem appe_0 {a : List M1} {x : List NM} {o : List NM} (h : appOk a x = true) (ho : appO a x = some o) : appe a x = 0 := by
 obtain ⟨h1, h2, h3⟩ := appOk_f h
 unfold appe
 rw [h1, h2, ho, if_neg (by decide), if_neg (by rintro ⟨k1, k2⟩; exact k2 (h3 k1))]; rfl
theorem smlN_vn {L : List NM} (h : L.length ≤ 1000) (hv : ∀ a, a ∈ L → VN a) : SmlN L := ⟨h, fun s hs => by
 obtain ⟨k1, k2, k3, k4, k5⟩ := hv _ (bD hs)
 omega⟩
theorem vn_oL1 {c : Prop} [Decidable c] {v : List Rat} : ∀ a, a ∈ oL c (v.mapM outN) → VN a := by
 unfold oL
 split
 ·cases hm : v.mapM outN with
  | none => intro r hr; cases hr
  | some o => exact (outs_all hm).2
 ·intro r hr; cases hr
theorem smlN_app {a : List M1} {x : List NM} (ha : a.length ≤ 1000) : SmlN (app1 a x) := smlN_vn (by have := app1_len a x; omega) (by rw [app1_oL]; exact vn_oL1)
def powR (a : List M1) (n : Int) : List (List NM) := oL (powOk a n = true) (powO a n)
theorem powR_kM (a : List M1) (n : Int) : pow1 a n = (powR a n).map kM := by unfold pow1 powR oL; split <;> rfl
theorem lvPow_eq (a : List M1) (n : Int) : lvPow a n = .tup [.sl (kd (powR a n).length) (((powR a n).map kM).map fM), .v (.int .i64 (powe a n))] := by unfold lvPow; rw [powR_kM, List.length_map]
theorem powOk_f {a : List M1} {n : Int} (h : powOk a n = true) : VM a = true ∧ sqb a = true ∧ 0 ≤ n ∧ n ≤ 1000 := by
 unfold powOk at h
 rw [Bool.and_eq_true, Bool.and_eq_true, Bool.and_eq_true] at h
 exact ⟨h.1.1, h.1.2, of_decide_eq_true h.2.1, of_decide_eq_true h.2.2⟩
theorem powe_0 {a : List M1} {n : Int} {o : List (List NM)} (h : powOk a n = true) (ho : powO a n = some o) : powe a n = 0 := by
 obtain ⟨h1, h2, h3, h4⟩ := powOk_f h
 unfold powe
 rw [h1, h2, ho, if_neg (by decide), if_neg (by decide), decide_eq_true h3, decide_eq_true h4, if_neg (by decide)]; rfl
theorem smlM_pow {a : List M1} {n : Int} (hf : Few8 a) : SmlM (powR a n) := pK (powR_kM a n) (by have := (pow1_len hf n).1; omega) (fun r hr => by have := (pow1_len hf n).2 r hr; omega) vn_oL
def redR (a : List M1) : List (List NM) := oL (VM a = true) (redO a)
theorem redR_kM (a : List M1) : rl a = (redR a).map kM := by unfold rl redR oL; split <;> rfl
theorem lvRed_eq (a : List M1) : lvRed a = .tup [.sl (kd (redR a).length) (((redR a).map kM).map fM), .v (.int .i64 (re a))] := by unfold lvRed; rw [redR_kM, List.length_map]
theorem re_0 {a : List M1} {o : List (List NM)} (h : VM a = true) (ho : redO a = some o) : re a = 0 := by
 unfold re
 rw [if_pos h, ho]; rfl
theorem smlM_red {a : List M1} (hf : Few8 a) : SmlM (redR a) := pK (redR_kM a) (by have := (rl_len hf).1; omega) (fun r hr => by have := (rl_len hf).2 r hr; omega) vn_oL
theorem sll_oL (a : List M1) (b : List NM) : sll a b = oL (solOk a b = true) (solO a b) := rfl
theorem solOk_f {a : List M1} {b : List NM} (h : solOk a b = true) : VM a = true ∧ VV b = true ∧ a.length = b.length ∧ nosol (solS a b) (wd a) = false := by
 unfold solOk at h
 rw [Bool.and_eq_true, Bool.and_eq_true, Bool.and_eq_true, Bool.and_eq_true, Bool.not_eq_true'] at h
 exact ⟨h.1.1.1.1, h.1.1.1.2, of_decide_eq_true h.1.1.2, h.1.2⟩
theorem smlN_sol {a : List M1} {b : List NM} (ha : wd a ≤ 1000) : SmlN (sll a b) := smlN_vn (by have := sll_len a b; omega) (by rw [sll_oL]; exact vn_oL1)
def ivRR (a : List M1) : List (List NM) := oL (invOk a = true) (invO a)
theorem ivRR_kM (a : List M1) : inv1 a = (ivRR a).map kM := by unfold inv1 ivRR oL; split <;> rfl
theorem lvInv_eq (a : List M1) : lvInv a = .tup [.sl (kd (ivRR a).length) (((ivRR a).map kM).map fM), .v (.int .i64 (inve a))] := by unfold lvInv; rw [ivRR_kM, List.length_map]
theorem invOk_f {a : List M1} (h : invOk a = true) : VM a = true ∧ sqb a = true ∧ ¬ (invS a).2.length < a.length := by
 unfold invOk at h
 rw [Bool.and_eq_true, Bool.and_eq_true, Bool.not_eq_true', decide_eq_false_iff_not] at h
 exact ⟨h.1.1, h.1.2, h.2⟩
theorem inve_0 {a : List M1} {o : List (List NM)} (h : invOk a = true) (ho : invO a = some o) : inve a = 0 := by
 obtain ⟨h1, h2, h3⟩ := invOk_f h
 unfold inve
 rw [h1, h2, ho, if_neg (by decide), if_neg (by decide), if_neg h3]; rfl
theorem smlM_inv {a : List M1} (hf : Few8 a) : SmlM (ivRR a) := pK (ivRR_kM a) (by have := (inv1_len hf).1; omega) (fun r hr => by have := (inv1_len hf).2 r hr; omega) vn_oL
def PhiS (e : TypeId) (lo n : Nat) (k : Int) (L : List NM) (er : Int) : LV → Hp → Nat → Prop := fun r h' n' => ∃ q, r = .tup [.v (.int .i64 k), outV q 2 (L.map mc), .v (.int .i64 er)] ∧ n ≤ n' ∧ lo ≤ q ∧ q < n' ∧ (L ≠ [] → n ≤ q ∧ getH h' q = some (obN e L))
theorem PhiS.data {e : TypeId} {lo n : Nat} {k : Int} {L : List NM} {er : Int} {r : LV} (hn : lo < n) (hL : L = []) (hr : r = .tup [.v (.int .i64 k), .sl (kd L.length) (L.map mc), .v (.int .i64 er)]) : PhiS e lo n k L er r [] n := by
 subst hL
 exact ⟨lo, hr, Nat.le_refl _, Nat.le_refl _, hn, fun h => absurd rfl h⟩
end Go.Ab
set_option maxRecDepth 100000
namespace Go.Proofs.Ytcblgjaomljikaa
open Go.Ab Go.RowKit
def ti1 : TI := ⟨1, 8, [.nilFunc], .func⟩
def ti2 : TI := ⟨1, 8, [.int .i64 0], (.int .i64)⟩
def ti3 : TI := ⟨1, 8, [.int .i64 0], (.int .i64)⟩
def ti4 : TI := ⟨1, 1, [.bool false], .bool⟩
def ti5 : TI := ⟨1, 1, [.int .u8 0], (.int .u8)⟩
def ti6 : TI := ⟨1, 1, [.int .u8 0], (.int .u8)⟩
def ti7 : TI := ⟨4, 24, [.int .i64 0, .int .i64 0, .bool false, .int .u8 0], (.st [(0, 2), (1, 3), (2, 4), (3, 6)])⟩
def ti8 : TI := ⟨4, 24, [.int .i64 0, .int .i64 0, .bool false, .int .u8 0], (.st [(0, 2), (1, 3), (2, 4), (3, 6)])⟩
def ti9 : TI := ⟨1, 16, [.string ⟨#[]⟩], .str⟩
def ti10 : TI := ⟨1, 16, [.string ⟨#[]⟩], .str⟩
def ti11 : TI := ⟨1, 16, [.string ⟨#[]⟩], .str⟩
def ti12 : TI := ⟨1, 8, [.int .u64 0], (.int .u64)⟩
def ti13 : TI := ⟨2, 24, [.string ⟨#[]⟩, .int .u64 0], (.st [(0, 9), (1, 12)])⟩
def ti14 : TI := ⟨2, 24, [.string ⟨#[]⟩, .int .u64 0], (.st [(0, 9), (1, 12)])⟩
def ti21 : TI := ⟨1, 4, [.int .i32 0], (.int .i32)⟩
def ti22 : TI := ⟨1, 24, [.slice none 0 0], (.sl 3)⟩
def ti23 : TI := ⟨1, 8, [.nilFunc], .func⟩
def ti24 : TI := ⟨1, 24, [.slice none 0 0], (.sl 40)⟩
def ti25 : TI := ⟨1, 24, [.slice none 0 0], (.st [(0, 24)])⟩
def ti26 : TI := ⟨1, 24, [.slice none 0 0], (.st [(0, 24)])⟩
def ti27 : TI := ⟨2, 16, [.int .i64 0, .int .i64 0], (.st [(0, 3), (1, 3)])⟩
def ti28 : TI := ⟨2, 16, [.int .i64 0, .int .i64 0], (.st [(0, 3), (1, 3)])⟩
def ti29 : TI := ⟨1, 8, [.int .i64 0], (.int .i64)⟩
def ti31 : TI := ⟨1, 8, [.nilFunc], .func⟩
def ti32 : TI := ⟨1, 8, [.nilFunc], .func⟩
def ti33 : TI := ⟨3, 24, [.int .i64 0, .int .i64 0, .int .i64 0], (.st [(0, 3), (1, 28)])⟩
def ti34 : TI := ⟨3, 24, [.int .i64 0, .int .i64 0, .int .i64 0], (.st [(0, 3), (1, 28)])⟩
def ti35 : TI := ⟨1, 24, [.slice none 0 0], (.sl 34)⟩
def ti36 : TI := ⟨3, 40, [.int .i64 0, .int .i64 0, .slice none 0 0], (.st [(0, 28), (2, 35)])⟩
def ti37 : TI := ⟨3, 40, [.int .i64 0, .int .i64 0, .slice none 0 0], (.st [(0, 28), (2, 35)])⟩
def ti38 : TI := ⟨1, 24, [.slice none 0 0], (.sl 37)⟩
def ti39 : TI := ⟨3, 40, [.int .i64 0, .int .i64 0, .slice none 0 0], (.st [(0, 3), (1, 3), (2, 38)])⟩
def ti40 : TI := ⟨3, 40, [.int .i64 0, .int .i64 0, .slice none 0 0], (.st [(0, 3), (1, 3), (2, 38)])⟩
def ti41 : TI := ⟨1, 24, [.slice none 0 0], (.sl 28)⟩
def ti43 : TI := ⟨1, 8, [.nilFunc], .func⟩
def ti44 : TI := ⟨1, 8, [.nilFunc], .func⟩
def ti46 : TI := ⟨1, 8, [.nilFunc], .func⟩
def ti47 : TI := ⟨1, 8, [.nilFunc], .func⟩
def ti48 : TI := ⟨1, 8, [.nilFunc], .func⟩
def ti49 : TI := ⟨1, 8, [.nilFunc], .func⟩
def ti51 : TI := ⟨1, 8, [.nilFunc], .func⟩
def ti53 : TI := ⟨1, 8, [.nilFunc], .func⟩
def ti54 : TI := ⟨1, 24, [.slice none 0 0], (.sl 22)⟩
def ti55 : TI := ⟨1, 8, [.nilFunc], .func⟩
def ti56 : TI := ⟨1, 8, [.nilFunc], .func⟩
def ti57 : TI := ⟨1, 8, [.nilFunc], .func⟩
def ti58 : TI := ⟨1, 8, [.nilFunc], .func⟩
def ti59 : TI := ⟨1, 24, [.slice none 0 0], (.sl 41)⟩
def ti60 : TI := ⟨1, 8, [.nilFunc], .func⟩
def ti61 : TI := ⟨1, 8, [.nilFunc], .func⟩
def ti62 : TI := ⟨1, 8, [.nilFunc], .func⟩
def ti64 : TI := ⟨1, 8, [.nilFunc], .func⟩
def ti66 : TI := ⟨1, 8, [.nilFunc], .func⟩
def ti67 : TI := ⟨1, 8, [.nilFunc], .func⟩
def ti68 : TI := ⟨1, 8, [.nilFunc], .func⟩
def ti70 : TI := ⟨1, 8, [.nilFunc], .func⟩
def ti71 : TI := ⟨1, 8, [.nilFunc], .func⟩
def ti72 : TI := ⟨1, 8, [.nilFunc], .func⟩
def ti73 : TI := ⟨1, 8, [.nilFunc], .func⟩
def ti74 : TI := ⟨1, 8, [.nilFunc], .func⟩
def ti75 : TI := ⟨1, 8, [.nilFunc], .func⟩
def ti76 : TI := ⟨1, 8, [.nilFunc], .func⟩
def ti77 : TI := ⟨1, 8, [.nilFunc], .func⟩
def ti78 : TI := ⟨1, 8, [.nilFunc], .func⟩
def ti80 : TI := ⟨1, 8, [.nilFunc], .func⟩
def ti82 : TI := ⟨1, 8, [.nilFunc], .func⟩
def ti83 : TI := ⟨1, 8, [.nilFunc], .func⟩
def ti84 : TI := ⟨1, 8, [.nilFunc], .func⟩
def ti85 : TI := ⟨1, 8, [.nilFunc], .func⟩
def ti86 : TI := ⟨1, 8, [.nilFunc], .func⟩
def ti88 : TI := ⟨1, 8, [.nilFunc], .func⟩
def ti89 : TI := ⟨1, 8, [.nilFunc], .func⟩
def ti90 : TI := ⟨1, 8, [.nilFunc], .func⟩
def ti91 : TI := ⟨1, 8, [.nilFunc], .func⟩
def ti92 : TI := ⟨1, 8, [.nilFunc], .func⟩
def ti93 : TI := ⟨1, 8, [.nilFunc], .func⟩
def ti94 : TI := ⟨1, 8, [.nilFunc], .func⟩
def ti95 : TI := ⟨1, 8, [.nilFunc], .func⟩
def ti96 : TI := ⟨1, 8, [.nilFunc], .func⟩
def ti97 : TI := ⟨3, 40, [.int .i64 0, .bool false, .slice none 0 0], (.st [(0, 3), (1, 4), (2, 22)])⟩
def ti98 : TI := ⟨3, 40, [.int .i64 0, .bool false, .slice none 0 0], (.st [(0, 3), (1, 4), (2, 22)])⟩
def ti99 : TI := ⟨6, 80, [.int .i64 0, .bool false, .slice none 0 0, .int .i64 0, .bool false, .slice none 0 0], (.st [(0, 98), (3, 98)])⟩
def ti100 : TI := ⟨6, 80, [.int .i64 0, .bool false, .slice none 0 0, .int .i64 0, .bool false, .slice none 0 0], (.st [(0, 98), (3, 98)])⟩
def ti101 : TI := ⟨1, 8, [.nilFunc], .func⟩
def ti102 : TI := ⟨1, 8, [.nilFunc], .func⟩
def ti103 : TI := ⟨1, 8, [.nilFunc], .func⟩
def ti104 : TI := ⟨1, 8, [.nilFunc], .func⟩
def ti105 : TI := ⟨1, 8, [.nilFunc], .func⟩
def ti106 : TI := ⟨1, 8, [.nilFunc], .func⟩
def ti107 : TI := ⟨1, 8, [.nilFunc], .func⟩
def ti108 : TI := ⟨1, 24, [.slice none 0 0], (.sl 114)⟩
def ti109 : TI := ⟨1, 8, [.nilFunc], .func⟩
def ti110 : TI := ⟨1, 24, [.slice none 0 0], (.sl 189)⟩
def ti111 : TI := ⟨2, 32, [.int .i64 0, .slice none 0 0], (.st [(0, 3), (1, 110)])⟩
def ti112 : TI := ⟨2, 32, [.int .i64 0, .slice none 0 0], (.st [(0, 3), (1, 110)])⟩
def ti113 : TI := ⟨4, 64, [.int .i64 0, .slice none 0 0, .int .i64 0, .slice none 0 0], (.st [(0, 112), (2, 112)])⟩
def ti114 : TI := ⟨4, 64, [.int .i64 0, .slice none 0 0, .int .i64 0, .slice none 0 0], (.st [(0, 112), (2, 112)])⟩
def ti115 : TI := ⟨1, 8, [.nilFunc], .func⟩
def ti116 : TI := ⟨1, 8, [.nilFunc], .func⟩
def ti117 : TI := ⟨1, 8, [.nilFunc], .func⟩
def ti118 : TI := ⟨1, 24, [.slice none 0 0], (.sl 112)⟩
def ti119 : TI := ⟨1, 8, [.nilFunc], .func⟩
def ti121 : TI := ⟨1, 8, [.nilFunc], .func⟩
def ti122 : TI := ⟨1, 8, [.nilFunc], .func⟩
def ti123 : TI := ⟨1, 8, [.nilFunc], .func⟩
def ti124 : TI := ⟨1, 8, [.nilFunc], .func⟩
def ti125 : TI := ⟨1, 8, [.nilFunc], .func⟩
def ti126 : TI := ⟨1, 8, [.nilFunc], .func⟩
def ti127 : TI := ⟨1, 8, [.nilFunc], .func⟩
def ti129 : TI := ⟨40, 40, [.bool false, .bool false, .bool false, .bool false, .bool false, .bool false, .bool false, .bool false, .bool false, .bool false, .bool false, .bool false, .bool false, .bool false, .bool false, .bool false, .bool false, .bool false, .bool false, .bool false, .bool false, .bool false, .bool false, .bool false, .bool false, .bool false, .bool false, .bool false, .bool false, .bool false, .bool false, .bool false, .bool false, .bool false, .bool false, .bool false, .bool false, .bool false, .bool false, .bool false], (.arr 40 4)⟩
def ti130 : TI := ⟨40, 40, [.bool false, .bool false, .bool false, .bool false, .bool false, .bool false, .bool false, .bool false, .bool false, .bool false, .bool false, .bool false, .bool false, .bool false, .bool false, .bool false, .bool false, .bool false, .bool false, .bool false, .bool false, .bool false, .bool false, .bool false, .bool false, .bool false, .bool false, .bool false, .bool false, .bool false, .bool false, .bool false, .bool false, .bool false, .bool false, .bool false, .bool false, .bool false, .bool false, .bool false], (.arr 40 4)⟩
def ti131 : TI := ⟨1, 8, [.nilFunc], .func⟩
def ti132 : TI := ⟨1, 8, [.nilFunc], .func⟩
def ti133 : TI := ⟨1, 8, [.nilFunc], .func⟩
def ti134 : TI := ⟨1, 24, [.slice none 0 0], (.sl 59)⟩
def ti135 : TI := ⟨1, 8, [.nilFunc], .func⟩
def ti136 : TI := ⟨1, 8, [.nilFunc], .func⟩
def ti137 : TI := ⟨1, 8, [.nilFunc], .func⟩
def ti138 : TI := ⟨1, 8, [.nilFunc], .func⟩
def ti139 : TI := ⟨1, 8, [.nilFunc], .func⟩
def ti140 : TI := ⟨1, 24, [.slice none 0 0], (.sl 108)⟩
def ti141 : TI := ⟨1, 8, [.nilFunc], .func⟩
def ti142 : TI := ⟨1, 8, [.nilFunc], .func⟩
def ti143 : TI := ⟨1, 8, [.nilFunc], .func⟩
def ti144 : TI := ⟨1, 8, [.nilFunc], .func⟩
def ti145 : TI := ⟨1, 8, [.nilFunc], .func⟩
def ti146 : TI := ⟨1, 8, [.nilFunc], .func⟩
def ti147 : TI := ⟨1, 8, [.nilFunc], .func⟩
def ti148 : TI := ⟨1, 8, [.int .u64 0], (.int .u64)⟩
def ti150 : TI := ⟨1, 8, [.nilFunc], .func⟩
def ti152 : TI := ⟨1, 8, [.nilFunc], .func⟩
def ti153 : TI := ⟨1, 8, [.nilFunc], .func⟩
def ti154 : TI := ⟨1, 8, [.nilFunc], .func⟩
def ti155 : TI := ⟨1, 8, [.nilFunc], .func⟩
def ti156 : TI := ⟨1, 8, [.nilFunc], .func⟩
def ti157 : TI := ⟨1, 8, [.nilFunc], .func⟩
def ti158 : TI := ⟨8, 128, [.int .i64 0, .slice none 0 0, .int .i64 0, .slice none 0 0, .int .i64 0, .slice none 0 0, .int .i64 0, .slice none 0 0], (.st [(0, 114), (4, 114)])⟩
def ti159 : TI := ⟨8, 128, [.int .i64 0, .slice none 0 0, .int .i64 0, .slice none 0 0, .int .i64 0, .slice none 0 0, .int .i64 0, .slice none 0 0], (.st [(0, 114), (4, 114)])⟩
def ti160 : TI := ⟨1, 8, [.nilFunc], .func⟩
def ti162 : TI := ⟨2, 16, [.int .i64 0, .int .i64 0], (.st [(0, 3), (1, 3)])⟩
def ti163 : TI := ⟨2, 16, [.int .i64 0, .int .i64 0], (.st [(0, 3), (1, 3)])⟩
def ti164 : TI := ⟨1, 8, [.nilFunc], .func⟩
def ti166 : TI := ⟨1, 8, [.nilFunc], .func⟩
def ti167 : TI := ⟨1, 8, [.nilFunc], .func⟩
def ti168 : TI := ⟨1, 8, [.nilFunc], .func⟩
def ti169 : TI := ⟨1, 8, [.nilFunc], .func⟩
def ti171 : TI := ⟨1, 8, [.nilFunc], .func⟩
def ti172 : TI := ⟨1, 8, [.nilFunc], .func⟩
def ti173 : TI := ⟨1, 8, [.nilFunc], .func⟩
def ti174 : TI := ⟨1, 8, [.nilFunc], .func⟩
def ti175 : TI := ⟨1, 8, [.nilFunc], .func⟩
def ti176 : TI := ⟨1, 8, [.nilFunc], .func⟩
def ti177 : TI := ⟨1, 8, [.nilFunc], .func⟩
def ti178 : TI := ⟨1, 8, [.nilFunc], .func⟩
def ti179 : TI := ⟨1, 8, [.nilFunc], .func⟩
def ti181 : TI := ⟨1, 8, [.nilFunc], .func⟩
def ti182 : TI := ⟨1, 8, [.nilFunc], .func⟩
def ti183 : TI := ⟨1, 8, [.nilFunc], .func⟩
def ti184 : TI := ⟨1, 8, [.nilFunc], .func⟩
def ti186 : TI := ⟨1, 8, [.nilFunc], .func⟩
def ti187 : TI := ⟨1, 8, [.nilFunc], .func⟩
def ti188 : TI := ⟨1, 8, [.int .u64 0], (.int .u64)⟩
def ti189 : TI := ⟨1, 4, [.int .u32 0], (.int .u32)⟩
def ti191 : TI := ⟨1, 8, [.nilFunc], .func⟩
def ti192 : TI := ⟨1, 8, [.nilFunc], .func⟩
def ti193 : TI := ⟨1, 8, [.nilFunc], .func⟩
def ti194 : TI := ⟨1, 8, [.nilFunc], .func⟩
def ti196 : TI := ⟨1, 8, [.nilFunc], .func⟩
def ti197 : TI := ⟨1, 8, [.nilFunc], .func⟩
def ti199 : TI := ⟨1, 8, [.nilFunc], .func⟩
def ti200 : TI := ⟨1, 8, [.nilFunc], .func⟩
def ti201 : TI := ⟨1, 8, [.nilFunc], .func⟩
def ti202 : TI := ⟨1, 8, [.nilFunc], .func⟩
def ti203 : TI := ⟨1, 8, [.nilFunc], .func⟩
def ti204 : TI := ⟨1, 8, [.nilFunc], .func⟩
def ti205 : TI := ⟨1, 8, [.nilFunc], .func⟩
def ti206 : TI := ⟨1, 8, [.nilFunc], .func⟩
def ti207 : TI := ⟨1, 8, [.nilFunc], .func⟩
def ti208 : TI := ⟨1, 8, [.nilFunc], .func⟩
def ti210 : TI := ⟨1, 8, [.nilFunc], .func⟩
def ti211 : TI := ⟨1, 8, [.nilFunc], .func⟩
def ti212 : TI := ⟨1, 8, [.nilFunc], .func⟩
def ti213 : TI := ⟨1, 8, [.nilFunc], .func⟩
def ti214 : TI := ⟨1, 8, [.nilFunc], .func⟩
def ti215 : TI := ⟨1, 8, [.nilFunc], .func⟩
def ti216 : TI := ⟨1, 8, [.nilFunc], .func⟩
def ti217 : TI := ⟨1, 8, [.nilFunc], .func⟩
def ti218 : TI := ⟨1, 8, [.nilFunc], .func⟩
def ti219 : TI := ⟨1, 8, [.nilFunc], .func⟩
def ti220 : TI := ⟨1, 8, [.nilFunc], .func⟩
def ti221 : TI := ⟨1, 8, [.nilFunc], .func⟩
def ti222 : TI := ⟨1, 8, [.nilFunc], .func⟩
def ti223 : TI := ⟨1, 8, [.nilFunc], .func⟩
def ti224 : TI := ⟨1, 8, [.nilFunc], .func⟩
def ti225 : TI := ⟨1, 8, [.nilFunc], .func⟩
def ti226 : TI := ⟨1, 8, [.nilFunc], .func⟩
def ti227 : TI := ⟨1, 8, [.nilFunc], .func⟩
def ti228 : TI := ⟨1, 8, [.nilFunc], .func⟩
def ti229 : TI := ⟨1, 8, [.nilFunc], .func⟩
def ti230 : TI := ⟨1, 8, [.nilFunc], .func⟩
def ti231 : TI := ⟨1, 8, [.nilFunc], .func⟩
def ti232 : TI := ⟨1, 8, [.nilFunc], .func⟩
def ti233 : TI := ⟨1, 8, [.nilFunc], .func⟩
def ti234 : TI := ⟨1, 8, [.nilFunc], .func⟩
def ti236 : TI := ⟨1, 8, [.nilFunc], .func⟩
def ti237 : TI := ⟨1, 8, [.nilFunc], .func⟩
def ti238 : TI := ⟨1, 8, [.nilFunc], .func⟩
def ti239 : TI := ⟨1, 8, [.nilFunc], .func⟩
def ti240 : TI := ⟨1, 8, [.nilFunc], .func⟩
def ti242 : TI := ⟨1, 8, [.nilFunc], .func⟩
def ti244 : TI := ⟨1, 8, [.nilFunc], .func⟩
def ti245 : TI := ⟨1, 8, [.nilFunc], .func⟩
def ti246 : TI := ⟨1, 8, [.nilFunc], .func⟩
def ti247 : TI := ⟨1, 8, [.nilFunc], .func⟩
def ti248 : TI := ⟨1, 8, [.nilFunc], .func⟩
def ti249 : TI := ⟨1, 8, [.nilFunc], .func⟩
def ti250 : TI := ⟨1, 8, [.nilFunc], .func⟩
def ti251 : TI := ⟨1, 8, [.nilFunc], .func⟩
def ti252 : TI := ⟨1, 8, [.nilFunc], .func⟩
def ti253 : TI := ⟨1, 8, [.nilFunc], .func⟩
def ti255 : TI := ⟨1, 8, [.nilFunc], .func⟩
def ti257 : TI := ⟨1, 8, [.nilFunc], .func⟩
def ti258 : TI := ⟨1, 8, [.nilFunc], .func⟩
def ti262 : TI := ⟨1, 8, [.nilFunc], .func⟩
def ti268 : TI := ⟨1, 1, [.int .u8 0], (.int .u8)⟩
def ti269 : TI := ⟨1, 1, [.int .u8 0], (.int .u8)⟩
def ti270 : TI := ⟨1, 8, [.nilFunc], .func⟩
def ti272 : TI := ⟨1, 4, [.int .i32 0], (.int .i32)⟩
def ti273 : TI := ⟨1, 4, [.int .i32 0], (.int .i32)⟩
def ti276 : TI := ⟨1, 16, [.string ⟨#[]⟩], (.st [(0, 9)])⟩
def ti277 : TI := ⟨1, 16, [.string ⟨#[]⟩], (.st [(0, 9)])⟩
theorem tok1 : TypeOk Try.prog 1 ti1 := aB (z := (.nilFunc)) (by kernel_rfl) rfl Try.underlying1 ⟨_, _, _, rfl⟩ rfl (by decide)
theorem tok2 : TypeOk Try.prog 2 ti2 := aB (z := (.int .i64 0)) (by kernel_rfl) rfl Try.underlying2 rfl rfl (by decide)
theorem tok3 : TypeOk Try.prog 3 ti3 := aB (z := (.int .i64 0)) (by kernel_rfl) rfl Try.underlying3 rfl rfl (by decide)
theorem tok4 : TypeOk Try.prog 4 ti4 := aB (z := (.bool false)) (by kernel_rfl) rfl Try.underlying4 rfl rfl (by decide)
theorem tok5 : TypeOk Try.prog 5 ti5 := aB (z := (.int .u8 0)) (by kernel_rfl) rfl Try.underlying5 rfl rfl (by decide)
theorem tok6 : TypeOk Try.prog 6 ti6 := aB (z := (.int .u8 0)) (by kernel_rfl) rfl Try.underlying6 rfl rfl (by decide)
theorem tok7 : TypeOk Try.prog 7 ti7 := aB (z := (.agg #[.int .i64 0, .int .i64 0, .bool false, .int .u8 0])) (by kernel_rfl) rfl Try.underlying7 ⟨_, rfl, rfl⟩ rfl (by decide)
theorem tok8 : TypeOk Try.prog 8 ti8 := aB (z := (.agg #[.int .i64 0, .int .i64 0, .bool false, .int .u8 0])) (by kernel_rfl) rfl Try.underlying8 ⟨_, rfl, rfl⟩ rfl (by decide)
theorem tok9 : TypeOk Try.prog 9 ti9 := aB (z := (.string ⟨#[]⟩)) (by kernel_rfl) rfl Try.underlying9 rfl rfl (by decide)
theorem tok10 : TypeOk Try.prog 10 ti10 := aB (z := (.string ⟨#[]⟩)) (by kernel_rfl) rfl Try.underlying10 rfl rfl (by decide)
theorem tok11 : TypeOk Try.prog 11 ti11 := aB (z := (.string ⟨#[]⟩)) (by kernel_rfl) rfl Try.underlying11 rfl rfl (by decide)
theorem tok12 : TypeOk Try.prog 12 ti12 := aB (z := (.int .u64 0)) (by kernel_rfl) rfl Try.underlying12 rfl rfl (by decide)
theorem tok13 : TypeOk Try.prog 13 ti13 := aB (z := (.agg #[.string ⟨#[]⟩, .int .u64 0])) (by kernel_rfl) rfl Try.underlying13 ⟨_, rfl, rfl⟩ rfl (by decide)
theorem tok14 : TypeOk Try.prog 14 ti14 := aB (z := (.agg #[.string ⟨#[]⟩, .int .u64 0])) (by kernel_rfl) rfl Try.underlying14 ⟨_, rfl, rfl⟩ rfl (by decide)
theorem tok21 : TypeOk Try.prog 21 ti21 := aB (z := (.int .i32 0)) (by kernel_rfl) rfl Try.underlying21 rfl rfl (by decide)
theorem tok22 : TypeOk Try.prog 22 ti22 := aB (z := (.slice none 0 0)) (by kernel_rfl) rfl Try.underlying22 rfl rfl (by decide)
theorem tok23 : TypeOk Try.prog 23 ti23 := aB (z := (.nilFunc)) (by kernel_rfl) rfl Try.underlying23 ⟨_, _, _, rfl⟩ rfl (by decide)
theorem tok24 : TypeOk Try.prog 24 ti24 := aB (z := (.slice none 0 0)) (by kernel_rfl) rfl Try.underlying24 rfl rfl (by decide)
theorem tok25 : TypeOk Try.prog 25 ti25 := aB (z := (.agg #[.slice none 0 0])) (by kernel_rfl) rfl Try.underlying25 ⟨_, rfl, rfl⟩ rfl (by decide)
theorem tok26 : TypeOk Try.prog 26 ti26 := aB (z := (.agg #[.slice none 0 0])) (by kernel_rfl) rfl Try.underlying26 ⟨_, rfl, rfl⟩ rfl (by decide)
theorem tok27 : TypeOk Try.prog 27 ti27 := aB (z := (.agg #[.int .i64 0, .int .i64 0])) (by kernel_rfl) rfl Try.underlying27 ⟨_, rfl, rfl⟩ rfl (by decide)
theorem tok28 : TypeOk Try.prog 28 ti28 := aB (z := (.agg #[.int .i64 0, .int .i64 0])) (by kernel_rfl) rfl Try.underlying28 ⟨_, rfl, rfl⟩ rfl (by decide)
theorem tok29 : TypeOk Try.prog 29 ti29 := aB (z := (.int .i64 0)) (by kernel_rfl) rfl Try.underlying29 rfl rfl (by decide)
theorem tok31 : TypeOk Try.prog 31 ti31 := aB (z := (.nilFunc)) (by kernel_rfl) rfl Try.underlying31 ⟨_, _, _, rfl⟩ rfl (by decide)
theorem tok32 : TypeOk Try.prog 32 ti32 := aB (z := (.nilFunc)) (by kernel_rfl) rfl Try.underlying32 ⟨_, _, _, rfl⟩ rfl (by decide)
theorem tok33 : TypeOk Try.prog 33 ti33 := aB (z := (.agg #[.int .i64 0, .int .i64 0, .int .i64 0])) (by kernel_rfl) rfl Try.underlying33 ⟨_, rfl, rfl⟩ rfl (by decide)
theorem tok34 : TypeOk Try.prog 34 ti34 := aB (z := (.agg #[.int .i64 0, .int .i64 0, .int .i64 0])) (by kernel_rfl) rfl Try.underlying34 ⟨_, rfl, rfl⟩ rfl (by decide)
theorem tok35 : TypeOk Try.prog 35 ti35 := aB (z := (.slice none 0 0)) (by kernel_rfl) rfl Try.underlying35 rfl rfl (by decide)
theorem tok36 : TypeOk Try.prog 36 ti36 := aB (z := (.agg #[.int .i64 0, .int .i64 0, .slice none 0 0])) (by kernel_rfl) rfl Try.underlying36 ⟨_, rfl, rfl⟩ rfl (by decide)
theorem tok37 : TypeOk Try.prog 37 ti37 := aB (z := (.agg #[.int .i64 0, .int .i64 0, .slice none 0 0])) (by kernel_rfl) rfl Try.underlying37 ⟨_, rfl, rfl⟩ rfl (by decide)
theorem tok38 : TypeOk Try.prog 38 ti38 := aB (z := (.slice none 0 0)) (by kernel_rfl) rfl Try.underlying38 rfl rfl (by decide)
theorem tok39 : TypeOk Try.prog 39 ti39 := aB (z := (.agg #[.int .i64 0, .int .i64 0, .slice none 0 0])) (by kernel_rfl) rfl Try.underlying39 ⟨_, rfl, rfl⟩ rfl (by decide)
theorem tok40 : TypeOk Try.prog 40 ti40 := aB (z := (.agg #[.int .i64 0, .int .i64 0, .slice none 0 0])) (by kernel_rfl) rfl Try.underlying40 ⟨_, rfl, rfl⟩ rfl (by decide)
theorem tok41 : TypeOk Try.prog 41 ti41 := aB (z := (.slice none 0 0)) (by kernel_rfl) rfl Try.underlying41 rfl rfl (by decide)
theorem tok43 : TypeOk Try.prog 43 ti43 := aB (z := (.nilFunc)) (by kernel_rfl) rfl Try.underlying43 ⟨_, _, _, rfl⟩ rfl (by decide)
theorem tok44 : TypeOk Try.prog 44 ti44 := aB (z := (.nilFunc)) (by kernel_rfl) rfl Try.underlying44 ⟨_, _, _, rfl⟩ rfl (by decide)
theorem tok46 : TypeOk Try.prog 46 ti46 := aB (z := (.nilFunc)) (by kernel_rfl) rfl Try.underlying46 ⟨_, _, _, rfl⟩ rfl (by decide)
theorem tok47 : TypeOk Try.prog 47 ti47 := aB (z := (.nilFunc)) (by kernel_rfl) rfl Try.underlying47 ⟨_, _, _, rfl⟩ rfl (by decide)
theorem tok48 : TypeOk Try.prog 48 ti48 := aB (z := (.nilFunc)) (by kernel_rfl) rfl Try.underlying48 ⟨_, _, _, rfl⟩ rfl (by decide)
theorem tok49 : TypeOk Try.prog 49 ti49 := aB (z := (.nilFunc)) (by kernel_rfl) rfl Try.underlying49 ⟨_, _, _, rfl⟩ rfl (by decide)
theorem tok51 : TypeOk Try.prog 51 ti51 := aB (z := (.nilFunc)) (by kernel_rfl) rfl Try.underlying51 ⟨_, _, _, rfl⟩ rfl (by decide)
theorem tok53 : TypeOk Try.prog 53 ti53 := aB (z := (.nilFunc)) (by kernel_rfl) rfl Try.underlying53 ⟨_, _, _, rfl⟩ rfl (by decide)
theorem tok54 : TypeOk Try.prog 54 ti54 := aB (z := (.slice none 0 0)) (by kernel_rfl) rfl Try.underlying54 rfl rfl (by decide)
theorem tok55 : TypeOk Try.prog 55 ti55 := aB (z := (.nilFunc)) (by kernel_rfl) rfl Try.underlying55 ⟨_, _, _, rfl⟩ rfl (by decide)
theorem tok56 : TypeOk Try.prog 56 ti56 := aB (z := (.nilFunc)) (by kernel_rfl) rfl Try.underlying56 ⟨_, _, _, rfl⟩ rfl (by decide)
theorem tok57 : TypeOk Try.prog 57 ti57 := aB (z := (.nilFunc)) (by kernel_rfl) rfl Try.underlying57 ⟨_, _, _, rfl⟩ rfl (by decide)
theorem tok58 : TypeOk Try.prog 58 ti58 := aB (z := (.nilFunc)) (by kernel_rfl) rfl Try.underlying58 ⟨_, _, _, rfl⟩ rfl (by decide)
theorem tok59 : TypeOk Try.prog 59 ti59 := aB (z := (.slice none 0 0)) (by kernel_rfl) rfl Try.underlying59 rfl rfl (by decide)
theorem tok60 : TypeOk Try.prog 60 ti60 := aB (z := (.nilFunc)) (by kernel_rfl) rfl Try.underlying60 ⟨_, _, _, rfl⟩ rfl (by decide)
theorem tok61 : TypeOk Try.prog 61 ti61 := aB (z := (.nilFunc)) (by kernel_rfl) rfl Try.underlying61 ⟨_, _, _, rfl⟩ rfl (by decide)
theorem tok62 : TypeOk Try.prog 62 ti62 := aB (z := (.nilFunc)) (by kernel_rfl) rfl Try.underlying62 ⟨_, _, _, rfl⟩ rfl (by decide)
theorem tok64 : TypeOk Try.prog 64 ti64 := aB (z := (.nilFunc)) (by kernel_rfl) rfl Try.underlying64 ⟨_, _, _, rfl⟩ rfl (by decide)
theorem tok66 : TypeOk Try.prog 66 ti66 := aB (z := (.nilFunc)) (by kernel_rfl) rfl Try.underlying66 ⟨_, _, _, rfl⟩ rfl (by decide)
theorem tok67 : TypeOk Try.prog 67 ti67 := aB (z := (.nilFunc)) (by kernel_rfl) rfl Try.underlying67 ⟨_, _, _, rfl⟩ rfl (by decide)
theorem tok68 : TypeOk Try.prog 68 ti68 := aB (z := (.nilFunc)) (by kernel_rfl) rfl Try.underlying68 ⟨_, _, _, rfl⟩ rfl (by decide)
theorem tok70 : TypeOk Try.prog 70 ti70 := aB (z := (.nilFunc)) (by kernel_rfl) rfl Try.underlying70 ⟨_, _, _, rfl⟩ rfl (by decide)
theorem tok71 : TypeOk Try.prog 71 ti71 := aB (z := (.nilFunc)) (by kernel_rfl) rfl Try.underlying71 ⟨_, _, _, rfl⟩ rfl (by decide)
theorem tok72 : TypeOk Try.prog 72 ti72 := aB (z := (.nilFunc)) (by kernel_rfl) rfl Try.underlying72 ⟨_, _, _, rfl⟩ rfl (by decide)
theorem tok73 : TypeOk Try.prog 73 ti73 := aB (z := (.nilFunc)) (by kernel_rfl) rfl Try.underlying73 ⟨_, _, _, rfl⟩ rfl (by decide)
theorem tok74 : TypeOk Try.prog 74 ti74 := aB (z := (.nilFunc)) (by kernel_rfl) rfl Try.underlying74 ⟨_, _, _, rfl⟩ rfl (by decide)
theorem tok75 : TypeOk Try.prog 75 ti75 := aB (z := (.nilFunc)) (by kernel_rfl) rfl Try.underlying75 ⟨_, _, _, rfl⟩ rfl (by decide)
theorem tok76 : TypeOk Try.prog 76 ti76 := aB (z := (.nilFunc)) (by kernel_rfl) rfl Try.underlying76 ⟨_, _, _, rfl⟩ rfl (by decide)
theorem tok77 : TypeOk Try.prog 77 ti77 := aB (z := (.nilFunc)) (by kernel_rfl) rfl Try.underlying77 ⟨_, _, _, rfl⟩ rfl (by decide)
theorem tok78 : TypeOk Try.prog 78 ti78 := aB (z := (.nilFunc)) (by kernel_rfl) rfl Try.underlying78 ⟨_, _, _, rfl⟩ rfl (by decide)
theorem tok80 : TypeOk Try.prog 80 ti80 := aB (z := (.nilFunc)) (by kernel_rfl) rfl Try.underlying80 ⟨_, _, _, rfl⟩ rfl (by decide)
theorem tok82 : TypeOk Try.prog 82 ti82 := aB (z := (.nilFunc)) (by kernel_rfl) rfl Try.underlying82 ⟨_, _, _, rfl⟩ rfl (by decide)
theorem tok83 : TypeOk Try.prog 83 ti83 := aB (z := (.nilFunc)) (by kernel_rfl) rfl Try.underlying83 ⟨_, _, _, rfl⟩ rfl (by decide)
theorem tok84 : TypeOk Try.prog 84 ti84 := aB (z := (.nilFunc)) (by kernel_rfl) rfl Try.underlying84 ⟨_, _, _, rfl⟩ rfl (by decide)
theorem tok85 : TypeOk Try.prog 85 ti85 := aB (z := (.nilFunc)) (by kernel_rfl) rfl Try.underlying85 ⟨_, _, _, rfl⟩ rfl (by decide)
theorem tok86 : TypeOk Try.prog 86 ti86 := aB (z := (.nilFunc)) (by kernel_rfl) rfl Try.underlying86 ⟨_, _, _, rfl⟩ rfl (by decide)
theorem tok88 : TypeOk Try.prog 88 ti88 := aB (z := (.nilFunc)) (by kernel_rfl) rfl Try.underlying88 ⟨_, _, _, rfl⟩ rfl (by decide)
theorem tok89 : TypeOk Try.prog 89 ti89 := aB (z := (.nilFunc)) (by kernel_rfl) rfl Try.underlying89 ⟨_, _, _, rfl⟩ rfl (by decide)
theorem tok90 : TypeOk Try.prog 90 ti90 := aB (z := (.nilFunc)) (by kernel_rfl) rfl Try.underlying90 ⟨_, _, _, rfl⟩ rfl (by decide)
theorem tok91 : TypeOk Try.prog 91 ti91 := aB (z := (.nilFunc)) (by kernel_rfl) rfl Try.underlying91 ⟨_, _, _, rfl⟩ rfl (by decide)
theorem tok92 : TypeOk Try.prog 92 ti92 := aB (z := (.nilFunc)) (by kernel_rfl) rfl Try.underlying92 ⟨_, _, _, rfl⟩ rfl (by decide)
theorem tok93 : TypeOk Try.prog 93 ti93 := aB (z := (.nilFunc)) (by kernel_rfl) rfl Try.underlying93 ⟨_, _, _, rfl⟩ rfl (by decide)
theorem tok94 : TypeOk Try.prog 94 ti94 := aB (z := (.nilFunc)) (by kernel_rfl) rfl Try.underlying94 ⟨_, _, _, rfl⟩ rfl (by decide)
theorem tok95 : TypeOk Try.prog 95 ti95 := aB (z := (.nilFunc)) (by kernel_rfl) rfl Try.underlying95 ⟨_, _, _, rfl⟩ rfl (by decide)
theorem tok96 : TypeOk Try.prog 96 ti96 := aB (z := (.nilFunc)) (by kernel_rfl) rfl Try.underlying96 ⟨_, _, _, rfl⟩ rfl (by decide)
theorem tok97 : TypeOk Try.prog 97 ti97 := aB (z := (.agg #[.int .i64 0, .bool false, .slice none 0 0])) (by kernel_rfl) rfl Try.underlying97 ⟨_, rfl, rfl⟩ rfl (by decide)
theorem tok98 : TypeOk Try.prog 98 ti98 := aB (z := (.agg #[.int .i64 0, .bool false, .slice none 0 0])) (by kernel_rfl) rfl Try.underlying98 ⟨_, rfl, rfl⟩ rfl (by decide)
theorem tok99 : TypeOk Try.prog 99 ti99 := aB (z := (.agg #[.int .i64 0, .bool false, .slice none 0 0, .int .i64 0, .bool false, .slice none 0 0])) (by kernel_rfl) rfl Try.underlying99 ⟨_, rfl, rfl⟩ rfl (by decide)
theorem tok100 : TypeOk Try.prog 100 ti100 := aB (z := (.agg #[.int .i64 0, .bool false, .slice none 0 0, .int .i64 0, .bool false, .slice none 0 0])) (by kernel_rfl) rfl Try.underlying100 ⟨_, rfl, rfl⟩ rfl (by decide)
theorem tok101 : TypeOk Try.prog 101 ti101 := aB (z := (.nilFunc)) (by kernel_rfl) rfl Try.underlying101 ⟨_, _, _, rfl⟩ rfl (by decide)
theorem tok102 : TypeOk Try.prog 102 ti102 := aB (z := (.nilFunc)) (by kernel_rfl) rfl Try.underlying102 ⟨_, _, _, rfl⟩ rfl (by decide)
theorem tok103 : TypeOk Try.prog 103 ti103 := aB (z := (.nilFunc)) (by kernel_rfl) rfl Try.underlying103 ⟨_, _, _, rfl⟩ rfl (by decide)
theorem tok104 : TypeOk Try.prog 104 ti104 := aB (z := (.nilFunc)) (by kernel_rfl) rfl Try.underlying104 ⟨_, _, _, rfl⟩ rfl (by decide)
theorem tok105 : TypeOk Try.prog 105 ti105 := aB (z := (.nilFunc)) (by kernel_rfl) rfl Try.underlying105 ⟨_, _, _, rfl⟩ rfl (by decide)
theorem tok106 : TypeOk Try.prog 106 ti106 := aB (z := (.nilFunc)) (by kernel_rfl) rfl Try.underlying106 ⟨_, _, _, rfl⟩ rfl (by decide)
theorem tok107 : TypeOk Try.prog 107 ti107 := aB (z := (.nilFunc)) (by kernel_rfl) rfl Try.underlying107 ⟨_, _, _, rfl⟩ rfl (by decide)
theorem tok108 : TypeOk Try.prog 108 ti108 := aB (z := (.slice none 0 0)) (by kernel_rfl) rfl Try.underlying108 rfl rfl (by decide)
theorem tok109 : TypeOk Try.prog 109 ti109 := aB (z := (.nilFunc)) (by kernel_rfl) rfl Try.underlying109 ⟨_, _, _, rfl⟩ rfl (by decide)
theorem tok110 : TypeOk Try.prog 110 ti110 := aB (z := (.slice none 0 0)) (by kernel_rfl) rfl Try.underlying110 rfl rfl (by decide)
theorem tok111 : TypeOk Try.prog 111 ti111 := aB (z := (.agg #[.int .i64 0, .slice none 0 0])) (by kernel_rfl) rfl Try.underlying111 ⟨_, rfl, rfl⟩ rfl (by decide)
theorem tok112 : TypeOk Try.prog 112 ti112 := aB (z := (.agg #[.int .i64 0, .slice none 0 0])) (by kernel_rfl) rfl Try.underlying112 ⟨_, rfl, rfl⟩ rfl (by decide)
theorem tok113 : TypeOk Try.prog 113 ti113 := aB (z := (.agg #[.int .i64 0, .slice none 0 0, .int .i64 0, .slice none 0 0])) (by kernel_rfl) rfl Try.underlying113 ⟨_, rfl, rfl⟩ rfl (by decide)
theorem tok114 : TypeOk Try.prog 114 ti114 := aB (z := (.agg #[.int .i64 0, .slice none 0 0, .int .i64 0, .slice none 0 0])) (by kernel_rfl) rfl Try.underlying114 ⟨_, rfl, rfl⟩ rfl (by decide)
theorem tok115 : TypeOk Try.prog 115 ti115 := aB (z := (.nilFunc)) (by kernel_rfl) rfl Try.underlying115 ⟨_, _, _, rfl⟩ rfl (by decide)
theorem tok116 : TypeOk Try.prog 116 ti116 := aB (z := (.nilFunc)) (by kernel_rfl) rfl Try.underlying116 ⟨_, _, _, rfl⟩ rfl (by decide)
theorem tok117 : TypeOk Try.prog 117 ti117 := aB (z := (.nilFunc)) (by kernel_rfl) rfl Try.underlying117 ⟨_, _, _, rfl⟩ rfl (by decide)
theorem tok118 : TypeOk Try.prog 118 ti118 := aB (z := (.slice none 0 0)) (by kernel_rfl) rfl Try.underlying118 rfl rfl (by decide)
theorem tok119 : TypeOk Try.prog 119 ti119 := aB (z := (.nilFunc)) (by kernel_rfl) rfl Try.underlying119 ⟨_, _, _, rfl⟩ rfl (by decide)
theorem tok121 : TypeOk Try.prog 121 ti121 := aB (z := (.nilFunc)) (by kernel_rfl) rfl Try.underlying121 ⟨_, _, _, rfl⟩ rfl (by decide)
theorem tok122 : TypeOk Try.prog 122 ti122 := aB (z := (.nilFunc)) (by kernel_rfl) rfl Try.underlying122 ⟨_, _, _, rfl⟩ rfl (by decide)
theorem tok123 : TypeOk Try.prog 123 ti123 := aB (z := (.nilFunc)) (by kernel_rfl) rfl Try.underlying123 ⟨_, _, _, rfl⟩ rfl (by decide)
theorem tok124 : TypeOk Try.prog 124 ti124 := aB (z := (.nilFunc)) (by kernel_rfl) rfl Try.underlying124 ⟨_, _, _, rfl⟩ rfl (by decide)
theorem tok125 : TypeOk Try.prog 125 ti125 := aB (z := (.nilFunc)) (by kernel_rfl) rfl Try.underlying125 ⟨_, _, _, rfl⟩ rfl (by decide)
theorem tok126 : TypeOk Try.prog 126 ti126 := aB (z := (.nilFunc)) (by kernel_rfl) rfl Try.underlying126 ⟨_, _, _, rfl⟩ rfl (by decide)
theorem tok127 : TypeOk Try.prog 127 ti127 := aB (z := (.nilFunc)) (by kernel_rfl) rfl Try.underlying127 ⟨_, _, _, rfl⟩ rfl (by decide)
theorem tok129 : TypeOk Try.prog 129 ti129 := aB (z := (.agg #[.bool false, .bool false, .bool false, .bool false, .bool false, .bool false, .bool false, .bool false, .bool false, .bool false, .bool false, .bool false, .bool false, .bool false, .bool false, .bool false, .bool false, .bool false, .bool false, .bool false, .bool false, .bool false, .bool false, .bool false, .bool false, .bool false, .bool false, .bool false, .bool false, .bool false, .bool false, .bool false, .bool false, .bool false, .bool false, .bool false, .bool false, .bool false, .bool false, .bool false])) (by kernel_rfl) rfl Try.underlying129 rfl rfl (by decide)
theorem tok130 : TypeOk Try.prog 130 ti130 := aB (z := (.agg #[.bool false, .bool false, .bool false, .bool false, .bool false, .bool false, .bool false, .bool false, .bool false, .bool false, .bool false, .bool false, .bool false, .bool false, .bool false, .bool false, .bool false, .bool false, .bool false, .bool false, .bool false, .bool false, .bool false, .bool false, .bool false, .bool false, .bool false, .bool false, .bool false, .bool false, .bool false, .bool false, .bool false, .bool false, .bool false, .bool false, .bool false, .bool false, .bool false, .bool false])) (by kernel_rfl) rfl Try.underlying130 rfl rfl (by decide)
theorem tok131 : TypeOk Try.prog 131 ti131 := aB (z := (.nilFunc)) (by kernel_rfl) rfl Try.underlying131 ⟨_, _, _, rfl⟩ rfl (by decide)
theorem tok132 : TypeOk Try.prog 132 ti132 := aB (z := (.nilFunc)) (by kernel_rfl) rfl Try.underlying132 ⟨_, _, _, rfl⟩ rfl (by decide)
theorem tok133 : TypeOk Try.prog 133 ti133 := aB (z := (.nilFunc)) (by kernel_rfl) rfl Try.underlying133 ⟨_, _, _, rfl⟩ rfl (by decide)
theorem tok134 : TypeOk Try.prog 134 ti134 := aB (z := (.slice none 0 0)) (by kernel_rfl) rfl Try.underlying134 rfl rfl (by decide)
theorem tok135 : TypeOk Try.prog 135 ti135 := aB (z := (.nilFunc)) (by kernel_rfl) rfl Try.underlying135 ⟨_, _, _, rfl⟩ rfl (by decide)
theorem tok136 : TypeOk Try.prog 136 ti136 := aB (z := (.nilFunc)) (by kernel_rfl) rfl Try.underlying136 ⟨_, _, _, rfl⟩ rfl (by decide)
theorem tok137 : TypeOk Try.prog 137 ti137 := aB (z := (.nilFunc)) (by kernel_rfl) rfl Try.underlying137 ⟨_, _, _, rfl⟩ rfl (by decide)
theorem tok138 : TypeOk Try.prog 138 ti138 := aB (z := (.nilFunc)) (by kernel_rfl) rfl Try.underlying138 ⟨_, _, _, rfl⟩ rfl (by decide)
theorem tok139 : TypeOk Try.prog 139 ti139 := aB (z := (.nilFunc)) (by kernel_rfl) rfl Try.underlying139 ⟨_, _, _, rfl⟩ rfl (by decide)
theorem tok140 : TypeOk Try.prog 140 ti140 := aB (z := (.slice none 0 0)) (by kernel_rfl) rfl Try.underlying140 rfl rfl (by decide)
theorem tok141 : TypeOk Try.prog 141 ti141 := aB (z := (.nilFunc)) (by kernel_rfl) rfl Try.underlying141 ⟨_, _, _, rfl⟩ rfl (by decide)
theorem tok142 : TypeOk Try.prog 142 ti142 := aB (z := (.nilFunc)) (by kernel_rfl) rfl Try.underlying142 ⟨_, _, _, rfl⟩ rfl (by decide)
theorem tok143 : TypeOk Try.prog 143 ti143 := aB (z := (.nilFunc)) (by kernel_rfl) rfl Try.underlying143 ⟨_, _, _, rfl⟩ rfl (by decide)
theorem tok144 : TypeOk Try.prog 144 ti144 := aB (z := (.nilFunc)) (by kernel_rfl) rfl Try.underlying144 ⟨_, _, _, rfl⟩ rfl (by decide)
theorem tok145 : TypeOk Try.prog 145 ti145 := aB (z := (.nilFunc)) (by kernel_rfl) rfl Try.underlying145 ⟨_, _, _, rfl⟩ rfl (by decide)
theorem tok146 : TypeOk Try.prog 146 ti146 := aB (z := (.nilFunc)) (by kernel_rfl) rfl Try.underlying146 ⟨_, _, _, rfl⟩ rfl (by decide)
theorem tok147 : TypeOk Try.prog 147 ti147 := aB (z := (.nilFunc)) (by kernel_rfl) rfl Try.underlying147 ⟨_, _, _, rfl⟩ rfl (by decide)
theorem tok148 : TypeOk Try.prog 148 ti148 := aB (z := (.int .u64 0)) (by kernel_rfl) rfl Try.underlying148 rfl rfl (by decide)
theorem tok150 : TypeOk Try.prog 150 ti150 := aB (z := (.nilFunc)) (by kernel_rfl) rfl Try.underlying150 ⟨_, _, _, rfl⟩ rfl (by decide)
theorem tok152 : TypeOk Try.prog 152 ti152 := aB (z := (.nilFunc)) (by kernel_rfl) rfl Try.underlying152 ⟨_, _, _, rfl⟩ rfl (by decide)
theorem tok153 : TypeOk Try.prog 153 ti153 := aB (z := (.nilFunc)) (by kernel_rfl) rfl Try.underlying153 ⟨_, _, _, rfl⟩ rfl (by decide)
theorem tok154 : TypeOk Try.prog 154 ti154 := aB (z := (.nilFunc)) (by kernel_rfl) rfl Try.underlying154 ⟨_, _, _, rfl⟩ rfl (by decide)
theorem tok155 : TypeOk Try.prog 155 ti155 := aB (z := (.nilFunc)) (by kernel_rfl) rfl Try.underlying155 ⟨_, _, _, rfl⟩ rfl (by decide)
theorem tok156 : TypeOk Try.prog 156 ti156 := aB (z := (.nilFunc)) (by kernel_rfl) rfl Try.underlying156 ⟨_, _, _, rfl⟩ rfl (by decide)
theorem tok157 : TypeOk Try.prog 157 ti157 := aB (z := (.nilFunc)) (by kernel_rfl) rfl Try.underlying157 ⟨_, _, _, rfl⟩ rfl (by decide)
theorem tok158 : TypeOk Try.prog 158 ti158 := aB (z := (.agg #[.int .i64 0, .slice none 0 0, .int .i64 0, .slice none 0 0, .int .i64 0, .slice none 0 0, .int .i64 0, .slice none 0 0])) (by kernel_rfl) rfl Try.underlying158 ⟨_, rfl, rfl⟩ rfl (by decide)
theorem tok159 : TypeOk Try.prog 159 ti159 := aB (z := (.agg #[.int .i64 0, .slice none 0 0, .int .i64 0, .slice none 0 0, .int .i64 0, .slice none 0 0, .int .i64 0, .slice none 0 0])) (by kernel_rfl) rfl Try.underlying159 ⟨_, rfl, rfl⟩ rfl (by decide)
theorem tok160 : TypeOk Try.prog 160 ti160 := aB (z := (.nilFunc)) (by kernel_rfl) rfl Try.underlying160 ⟨_, _, _, rfl⟩ rfl (by decide)
theorem tok162 : TypeOk Try.prog 162 ti162 := aB (z := (.agg #[.int .i64 0, .int .i64 0])) (by kernel_rfl) rfl Try.underlying162 ⟨_, rfl, rfl⟩ rfl (by decide)
theorem tok163 : TypeOk Try.prog 163 ti163 := aB (z := (.agg #[.int .i64 0, .int .i64 0])) (by kernel_rfl) rfl Try.underlying163 ⟨_, rfl, rfl⟩ rfl (by decide)
theorem tok164 : TypeOk Try.prog 164 ti164 := aB (z := (.nilFunc)) (by kernel_rfl) rfl Try.underlying164 ⟨_, _, _, rfl⟩ rfl (by decide)
theorem tok166 : TypeOk Try.prog 166 ti166 := aB (z := (.nilFunc)) (by kernel_rfl) rfl Try.underlying166 ⟨_, _, _, rfl⟩ rfl (by decide)
theorem tok167 : TypeOk Try.prog 167 ti167 := aB (z := (.nilFunc)) (by kernel_rfl) rfl Try.underlying167 ⟨_, _, _, rfl⟩ rfl (by decide)
theorem tok168 : TypeOk Try.prog 168 ti168 := aB (z := (.nilFunc)) (by kernel_rfl) rfl Try.underlying168 ⟨_, _, _, rfl⟩ rfl (by decide)
theorem tok169 : TypeOk Try.prog 169 ti169 := aB (z := (.nilFunc)) (by kernel_rfl) rfl Try.underlying169 ⟨_, _, _, rfl⟩ rfl (by decide)
theorem tok171 : TypeOk Try.prog 171 ti171 := aB (z := (.nilFunc)) (by kernel_rfl) rfl Try.underlying171 ⟨_, _, _, rfl⟩ rfl (by decide)
theorem tok172 : TypeOk Try.prog 172 ti172 := aB (z := (.nilFunc)) (by kernel_rfl) rfl Try.underlying172 ⟨_, _, _, rfl⟩ rfl (by decide)
theorem tok173 : TypeOk Try.prog 173 ti173 := aB (z := (.nilFunc)) (by kernel_rfl) rfl Try.underlying173 ⟨_, _, _, rfl⟩ rfl (by decide)
theorem tok174 : TypeOk Try.prog 174 ti174 := aB (z := (.nilFunc)) (by kernel_rfl) rfl Try.underlying174 ⟨_, _, _, rfl⟩ rfl (by decide)
theorem tok175 : TypeOk Try.prog 175 ti175 := aB (z := (.nilFunc)) (by kernel_rfl) rfl Try.underlying175 ⟨_, _, _, rfl⟩ rfl (by decide)
theorem tok176 : TypeOk Try.prog 176 ti176 := aB (z := (.nilFunc)) (by kernel_rfl) rfl Try.underlying176 ⟨_, _, _, rfl⟩ rfl (by decide)
theorem tok177 : TypeOk Try.prog 177 ti177 := aB (z := (.nilFunc)) (by kernel_rfl) rfl Try.underlying177 ⟨_, _, _, rfl⟩ rfl (by decide)
theorem tok178 : TypeOk Try.prog 178 ti178 := aB (z := (.nilFunc)) (by kernel_rfl) rfl Try.underlying178 ⟨_, _, _, rfl⟩ rfl (by decide)
theorem tok179 : TypeOk Try.prog 179 ti179 := aB (z := (.nilFunc)) (by kernel_rfl) rfl Try.underlying179 ⟨_, _, _, rfl⟩ rfl (by decide)
theorem tok181 : TypeOk Try.prog 181 ti181 := aB (z := (.nilFunc)) (by kernel_rfl) rfl Try.underlying181 ⟨_, _, _, rfl⟩ rfl (by decide)
theorem tok182 : TypeOk Try.prog 182 ti182 := aB (z := (.nilFunc)) (by kernel_rfl) rfl Try.underlying182 ⟨_, _, _, rfl⟩ rfl (by decide)
theorem tok183 : TypeOk Try.prog 183 ti183 := aB (z := (.nilFunc)) (by kernel_rfl) rfl Try.underlying183 ⟨_, _, _, rfl⟩ rfl (by decide)
theorem tok184 : TypeOk Try.prog 184 ti184 := aB (z := (.nilFunc)) (by kernel_rfl) rfl Try.underlying184 ⟨_, _, _, rfl⟩ rfl (by decide)
theorem tok186 : TypeOk Try.prog 186 ti186 := aB (z := (.nilFunc)) (by kernel_rfl) rfl Try.underlying186 ⟨_, _, _, rfl⟩ rfl (by decide)
theorem tok187 : TypeOk Try.prog 187 ti187 := aB (z := (.nilFunc)) (by kernel_rfl) rfl Try.underlying187 ⟨_, _, _, rfl⟩ rfl (by decide)
theorem tok188 : TypeOk Try.prog 188 ti188 := aB (z := (.int .u64 0)) (by kernel_rfl) rfl Try.underlying188 rfl rfl (by decide)
theorem tok189 : TypeOk Try.prog 189 ti189 := aB (z := (.int .u32 0)) (by kernel_rfl) rfl Try.underlying189 rfl rfl (by decide)
theorem tok191 : TypeOk Try.prog 191 ti191 := aB (z := (.nilFunc)) (by kernel_rfl) rfl Try.underlying191 ⟨_, _, _, rfl⟩ rfl (by decide)
theorem tok192 : TypeOk Try.prog 192 ti192 := aB (z := (.nilFunc)) (by kernel_rfl) rfl Try.underlying192 ⟨_, _, _, rfl⟩ rfl (by decide)
theorem tok193 : TypeOk Try.prog 193 ti193 := aB (z := (.nilFunc)) (by kernel_rfl) rfl Try.underlying193 ⟨_, _, _, rfl⟩ rfl (by decide)
theorem tok194 : TypeOk Try.prog 194 ti194 := aB (z := (.nilFunc)) (by kernel_rfl) rfl Try.underlying194 ⟨_, _, _, rfl⟩ rfl (by decide)
theorem tok196 : TypeOk Try.prog 196 ti196 := aB (z := (.nilFunc)) (by kernel_rfl) rfl Try.underlying196 ⟨_, _, _, rfl⟩ rfl (by decide)
theorem tok197 : TypeOk Try.prog 197 ti197 := aB (z := (.nilFunc)) (by kernel_rfl) rfl Try.underlying197 ⟨_, _, _, rfl⟩ rfl (by decide)
theorem tok199 : TypeOk Try.prog 199 ti199 := aB (z := (.nilFunc)) (by kernel_rfl) rfl Try.underlying199 ⟨_, _, _, rfl⟩ rfl (by decide)
theorem tok200 : TypeOk Try.prog 200 ti200 := aB (z := (.nilFunc)) (by kernel_rfl) rfl Try.underlying200 ⟨_, _, _, rfl⟩ rfl (by decide)
theorem tok201 : TypeOk Try.prog 201 ti201 := aB (z := (.nilFunc)) (by kernel_rfl) rfl Try.underlying201 ⟨_, _, _, rfl⟩ rfl (by decide)
theorem tok202 : TypeOk Try.prog 202 ti202 := aB (z := (.nilFunc)) (by kernel_rfl) rfl Try.underlying202 ⟨_, _, _, rfl⟩ rfl (by decide)
theorem tok203 : TypeOk Try.prog 203 ti203 := aB (z := (.nilFunc)) (by kernel_rfl) rfl Try.underlying203 ⟨_, _, _, rfl⟩ rfl (by decide)
theorem tok204 : TypeOk Try.prog 204 ti204 := aB (z := (.nilFunc)) (by kernel_rfl) rfl Try.underlying204 ⟨_, _, _, rfl⟩ rfl (by decide)
theorem tok205 : TypeOk Try.prog 205 ti205 := aB (z := (.nilFunc)) (by kernel_rfl) rfl Try.underlying205 ⟨_, _, _, rfl⟩ rfl (by decide)
theorem tok206 : TypeOk Try.prog 206 ti206 := aB (z := (.nilFunc)) (by kernel_rfl) rfl Try.underlying206 ⟨_, _, _, rfl⟩ rfl (by decide)
theorem tok207 : TypeOk Try.prog 207 ti207 := aB (z := (.nilFunc)) (by kernel_rfl) rfl Try.underlying207 ⟨_, _, _, rfl⟩ rfl (by decide)
theorem tok208 : TypeOk Try.prog 208 ti208 := aB (z := (.nilFunc)) (by kernel_rfl) rfl Try.underlying208 ⟨_, _, _, rfl⟩ rfl (by decide)
theorem tok210 : TypeOk Try.prog 210 ti210 := aB (z := (.nilFunc)) (by kernel_rfl) rfl Try.underlying210 ⟨_, _, _, rfl⟩ rfl (by decide)
theorem tok211 : TypeOk Try.prog 211 ti211 := aB (z := (.nilFunc)) (by kernel_rfl) rfl Try.underlying211 ⟨_, _, _, rfl⟩ rfl (by decide)
theorem tok212 : TypeOk Try.prog 212 ti212 := aB (z := (.nilFunc)) (by kernel_rfl) rfl Try.underlying212 ⟨_, _, _, rfl⟩ rfl (by decide)
theorem tok213 : TypeOk Try.prog 213 ti213 := aB (z := (.nilFunc)) (by kernel_rfl) rfl Try.underlying213 ⟨_, _, _, rfl⟩ rfl (by decide)
theorem tok214 : TypeOk Try.prog 214 ti214 := aB (z := (.nilFunc)) (by kernel_rfl) rfl Try.underlying214 ⟨_, _, _, rfl⟩ rfl (by decide)
theorem tok215 : TypeOk Try.prog 215 ti215 := aB (z := (.nilFunc)) (by kernel_rfl) rfl Try.underlying215 ⟨_, _, _, rfl⟩ rfl (by decide)
theorem tok216 : TypeOk Try.prog 216 ti216 := aB (z := (.nilFunc)) (by kernel_rfl) rfl Try.underlying216 ⟨_, _, _, rfl⟩ rfl (by decide)
theorem tok217 : TypeOk Try.prog 217 ti217 := aB (z := (.nilFunc)) (by kernel_rfl) rfl Try.underlying217 ⟨_, _, _, rfl⟩ rfl (by decide)
theorem tok218 : TypeOk Try.prog 218 ti218 := aB (z := (.nilFunc)) (by kernel_rfl) rfl Try.underlying218 ⟨_, _, _, rfl⟩ rfl (by decide)
theorem tok219 : TypeOk Try.prog 219 ti219 := aB (z := (.nilFunc)) (by kernel_rfl) rfl Try.underlying219 ⟨_, _, _, rfl⟩ rfl (by decide)
theorem tok220 : TypeOk Try.prog 220 ti220 := aB (z := (.nilFunc)) (by kernel_rfl) rfl Try.underlying220 ⟨_, _, _, rfl⟩ rfl (by decide)
theorem tok221 : TypeOk Try.prog 221 ti221 := aB (z := (.nilFunc)) (by kernel_rfl) rfl Try.underlying221 ⟨_, _, _, rfl⟩ rfl (by decide)
theorem tok222 : TypeOk Try.prog 222 ti222 := aB (z := (.nilFunc)) (by kernel_rfl) rfl Try.underlying222 ⟨_, _, _, rfl⟩ rfl (by decide)
theorem tok223 : TypeOk Try.prog 223 ti223 := aB (z := (.nilFunc)) (by kernel_rfl) rfl Try.underlying223 ⟨_, _, _, rfl⟩ rfl (by decide)
theorem tok224 : TypeOk Try.prog 224 ti224 := aB (z := (.nilFunc)) (by kernel_rfl) rfl Try.underlying224 ⟨_, _, _, rfl⟩ rfl (by decide)
theorem tok225 : TypeOk Try.prog 225 ti225 := aB (z := (.nilFunc)) (by kernel_rfl) rfl Try.underlying225 ⟨_, _, _, rfl⟩ rfl (by decide)
theorem tok226 : TypeOk Try.prog 226 ti226 := aB (z := (.nilFunc)) (by kernel_rfl) rfl Try.underlying226 ⟨_, _, _, rfl⟩ rfl (by decide)
theorem tok227 : TypeOk Try.prog 227 ti227 := aB (z := (.nilFunc)) (by kernel_rfl) rfl Try.underlying227 ⟨_, _, _, rfl⟩ rfl (by decide)
theorem tok228 : TypeOk Try.prog 228 ti228 := aB (z := (.nilFunc)) (by kernel_rfl) rfl Try.underlying228 ⟨_, _, _, rfl⟩ rfl (by decide)
theorem tok229 : TypeOk Try.prog 229 ti229 := aB (z := (.nilFunc)) (by kernel_rfl) rfl Try.underlying229 ⟨_, _, _, rfl⟩ rfl (by decide)
theorem tok230 : TypeOk Try.prog 230 ti230 := aB (z := (.nilFunc)) (by kernel_rfl) rfl Try.underlying230 ⟨_, _, _, rfl⟩ rfl (by decide)
theorem tok231 : TypeOk Try.prog 231 ti231 := aB (z := (.nilFunc)) (by kernel_rfl) rfl Try.underlying231 ⟨_, _, _, rfl⟩ rfl (by decide)
theorem tok232 : TypeOk Try.prog 232 ti232 := aB (z := (.nilFunc)) (by kernel_rfl) rfl Try.underlying232 ⟨_, _, _, rfl⟩ rfl (by decide)
theorem tok233 : TypeOk Try.prog 233 ti233 := aB (z := (.nilFunc)) (by kernel_rfl) rfl Try.underlying233 ⟨_, _, _, rfl⟩ rfl (by decide)
theorem tok234 : TypeOk Try.prog 234 ti234 := aB (z := (.nilFunc)) (by kernel_rfl) rfl Try.underlying234 ⟨_, _, _, rfl⟩ rfl (by decide)
theorem tok236 : TypeOk Try.prog 236 ti236 := aB (z := (.nilFunc)) (by kernel_rfl) rfl Try.underlying236 ⟨_, _, _, rfl⟩ rfl (by decide)
theorem tok237 : TypeOk Try.prog 237 ti237 := aB (z := (.nilFunc)) (by kernel_rfl) rfl Try.underlying237 ⟨_, _, _, rfl⟩ rfl (by decide)
theorem tok238 : TypeOk Try.prog 238 ti238 := aB (z := (.nilFunc)) (by kernel_rfl) rfl Try.underlying238 ⟨_, _, _, rfl⟩ rfl (by decide)
theorem tok239 : TypeOk Try.prog 239 ti239 := aB (z := (.nilFunc)) (by kernel_rfl) rfl Try.underlying239 ⟨_, _, _, rfl⟩ rfl (by decide)
theorem tok240 : TypeOk Try.prog 240 ti240 := aB (z := (.nilFunc)) (by kernel_rfl) rfl Try.underlying240 ⟨_, _, _, rfl⟩ rfl (by decide)
theorem tok242 : TypeOk Try.prog 242 ti242 := aB (z := (.nilFunc)) (by kernel_rfl) rfl Try.underlying242 ⟨_, _, _, rfl⟩ rfl (by decide)
theorem tok244 : TypeOk Try.prog 244 ti244 := aB (z := (.nilFunc)) (by kernel_rfl) rfl Try.underlying244 ⟨_, _, _, rfl⟩ rfl (by decide)
theorem tok245 : TypeOk Try.prog 245 ti245 := aB (z := (.nilFunc)) (by kernel_rfl) rfl Try.underlying245 ⟨_, _, _, rfl⟩ rfl (by decide)
theorem tok246 : TypeOk Try.prog 246 ti246 := aB (z := (.nilFunc)) (by kernel_rfl) rfl Try.underlying246 ⟨_, _, _, rfl⟩ rfl (by decide)
theorem tok247 : TypeOk Try.prog 247 ti247 := aB (z := (.nilFunc)) (by kernel_rfl) rfl Try.underlying247 ⟨_, _, _, rfl⟩ rfl (by decide)
theorem tok248 : TypeOk Try.prog 248 ti248 := aB (z := (.nilFunc)) (by kernel_rfl) rfl Try.underlying248 ⟨_, _, _, rfl⟩ rfl (by decide)
theorem tok249 : TypeOk Try.prog 249 ti249 := aB (z := (.nilFunc)) (by kernel_rfl) rfl Try.underlying249 ⟨_, _, _, rfl⟩ rfl (by decide)
theorem tok250 : TypeOk Try.prog 250 ti250 := aB (z := (.nilFunc)) (by kernel_rfl) rfl Try.underlying250 ⟨_, _, _, rfl⟩ rfl (by decide)
theorem tok251 : TypeOk Try.prog 251 ti251 := aB (z := (.nilFunc)) (by kernel_rfl) rfl Try.underlying251 ⟨_, _, _, rfl⟩ rfl (by decide)
theorem tok252 : TypeOk Try.prog 252 ti252 := aB (z := (.nilFunc)) (by kernel_rfl) rfl Try.underlying252 ⟨_, _, _, rfl⟩ rfl (by decide)
theorem tok253 : TypeOk Try.prog 253 ti253 := aB (z := (.nilFunc)) (by kernel_rfl) rfl Try.underlying253 ⟨_, _, _, rfl⟩ rfl (by decide)
theorem tok255 : TypeOk Try.prog 255 ti255 := aB (z := (.nilFunc)) (by kernel_rfl) rfl Try.underlying255 ⟨_, _, _, rfl⟩ rfl (by decide)
theorem tok257 : TypeOk Try.prog 257 ti257 := aB (z := (.nilFunc)) (by kernel_rfl) rfl Try.underlying257 ⟨_, _, _, rfl⟩ rfl (by decide)
theorem tok258 : TypeOk Try.prog 258 ti258 := aB (z := (.nilFunc)) (by kernel_rfl) rfl Try.underlying258 ⟨_, _, _, rfl⟩ rfl (by decide)
theorem tok262 : TypeOk Try.prog 262 ti262 := aB (z := (.nilFunc)) (by kernel_rfl) rfl Try.underlying262 ⟨_, _, _, rfl⟩ rfl (by decide)
theorem tok268 : TypeOk Try.prog 268 ti268 := aB (z := (.int .u8 0)) (by kernel_rfl) rfl Try.underlying268 rfl rfl (by decide)
theorem tok269 : TypeOk Try.prog 269 ti269 := aB (z := (.int .u8 0)) (by kernel_rfl) rfl Try.underlying269 rfl rfl (by decide)
theorem tok270 : TypeOk Try.prog 270 ti270 := aB (z := (.nilFunc)) (by kernel_rfl) rfl Try.underlying270 ⟨_, _, _, rfl⟩ rfl (by decide)
theorem tok272 : TypeOk Try.prog 272 ti272 := aB (z := (.int .i32 0)) (by kernel_rfl) rfl Try.underlying272 rfl rfl (by decide)
theorem tok273 : TypeOk Try.prog 273 ti273 := aB (z := (.int .i32 0)) (by kernel_rfl) rfl Try.underlying273 rfl rfl (by decide)
theorem tok276 : TypeOk Try.prog 276 ti276 := aB (z := (.agg #[.string ⟨#[]⟩])) (by kernel_rfl) rfl Try.underlying276 ⟨_, rfl, rfl⟩ rfl (by decide)
theorem tok277 : TypeOk Try.prog 277 ti277 := aB (z := (.agg #[.string ⟨#[]⟩])) (by kernel_rfl) rfl Try.underlying277 ⟨_, rfl, rfl⟩ rfl (by decide)
def tbl : List (Nat × TI) := [(1, ti1), (2, ti2), (3, ti3), (4, ti4), (5, ti5), (6, ti6), (7, ti7), (8, ti8), (9, ti9), (10, ti10), (11, ti11), (12, ti12), (13, ti13), (14, ti14), (21, ti21), (22, ti22), (23, ti23), (24, ti24), (25, ti25), (26, ti26), (27, ti27), (28, ti28), (29, ti29), (31, ti31), (32, ti32), (33, ti33), (34, ti34), (35, ti35), (36, ti36), (37, ti37), (38, ti38), (39, ti39), (40, ti40), (41, ti41), (43, ti43), (44, ti44), (46, ti46), (47, ti47), (48, ti48), (49, ti49), (51, ti51), (53, ti53), (54, ti54), (55, ti55), (56, ti56), (57, ti57), (58, ti58), (59, ti59), (60, ti60), (61, ti61), (62, ti62), (64, ti64), (66, ti66), (67, ti67), (68, ti68), (70, ti70), (71, ti71), (72, ti72), (73, ti73), (74, ti74), (75, ti75), (76, ti76), (77, ti77), (78, ti78), (80, ti80), (82, ti82), (83, ti83), (84, ti84), (85, ti85), (86, ti86), (88, ti88), (89, ti89), (90, ti90), (91, ti91), (92, ti92), (93, ti93), (94, ti94), (95, ti95), (96, ti96), (97, ti97), (98, ti98), (99, ti99), (100, ti100), (101, ti101), (102, ti102), (103, ti103), (104, ti104), (105, ti105), (106, ti106), (107, ti107), (108, ti108), (109, ti109), (110, ti110), (111, ti111), (112, ti112), (113, ti113), (114, ti114), (115, ti115), (116, ti116), (117, ti117), (118, ti118), (119, ti119), (121, ti121), (122, ti122), (123, ti123), (124, ti124), (125, ti125), (126, ti126), (127, ti127), (129, ti129), (130, ti130), (131, ti131), (132, ti132), (133, ti133), (134, ti134), (135, ti135), (136, ti136), (137, ti137), (138, ti138), (139, ti139), (140, ti140), (141, ti141), (142, ti142), (143, ti143), (144, ti144), (145, ti145), (146, ti146), (147, ti147), (148, ti148), (150, ti150), (152, ti152), (153, ti153), (154, ti154), (155, ti155), (156, ti156), (157, ti157), (158, ti158), (159, ti159), (160, ti160), (162, ti162), (163, ti163), (164, ti164), (166, ti166), (167, ti167), (168, ti168), (169, ti169), (171, ti171), (172, ti172), (173, ti173), (174, ti174), (175, ti175), (176, ti176), (177, ti177), (178, ti178), (179, ti179), (181, ti181), (182, ti182), (183, ti183), (184, ti184), (186, ti186), (187, ti187), (188, ti188), (189, ti189), (191, ti191), (192, ti192), (193, ti193), (194, ti194), (196, ti196), (197, ti197), (199, ti199), (200, ti200), (201, ti201), (202, ti202), (203, ti203), (204, ti204), (205, ti205), (206, ti206), (207, ti207), (208, ti208), (210, ti210), (211, ti211), (212, ti212), (213, ti213), (214, ti214), (215, ti215), (216, ti216), (217, ti217), (218, ti218), (219, ti219), (220, ti220), (221, ti221), (222, ti222), (223, ti223), (224, ti224), (225, ti225), (226, ti226), (227, ti227), (228, ti228), (229, ti229), (230, ti230), (231, ti231), (232, ti232), (233, ti233), (234, ti234), (236, ti236), (237, ti237), (238, ti238), (239, ti239), (240, ti240), (242, ti242), (244, ti244), (245, ti245), (246, ti246), (247, ti247), (248, ti248), (249, ti249), (250, ti250), (251, ti251), (252, ti252), (253, ti253), (255, ti255), (257, ti257), (258, ti258), (262, ti262), (268, ti268), (269, ti269), (270, ti270), (272, ti272), (273, ti273), (276, ti276), (277, ti277)]
def T : TT := getT tbl
theorem typesOk : TypesOk Try.prog T := qY (by simp only [tbl, List.forall_mem_cons]; exact ⟨tok1, tok2, tok3, tok4, tok5, tok6, tok7, tok8, tok9, tok10, tok11, tok12, tok13, tok14, tok21, tok22, tok23, tok24, tok25, tok26, tok27, tok28, tok29, tok31, tok32, tok33, tok34, tok35, tok36, tok37, tok38, tok39, tok40, tok41, tok43, tok44, tok46, tok47, tok48, tok49, tok51, tok53, tok54, tok55, tok56, tok57, tok58, tok59, tok60, tok61, tok62, tok64, tok66, tok67, tok68, tok70, tok71, tok72, tok73, tok74, tok75, tok76, tok77, tok78, tok80, tok82, tok83, tok84, tok85, tok86, tok88, tok89, tok90, tok91, tok92, tok93, tok94, tok95, tok96, tok97, tok98, tok99, tok100, tok101, tok102, tok103, tok104, tok105, tok106, tok107, tok108, tok109, tok110, tok111, tok112, tok113, tok114, tok115, tok116, tok117, tok118, tok119, tok121, tok122, tok123, tok124, tok125, tok126, tok127, tok129, tok130, tok131, tok132, tok133, tok134, tok135, tok136, tok137, tok138, tok139, tok140, tok141, tok142, tok143, tok144, tok145, tok146, tok147, tok148, tok150, tok152, tok153, tok154, tok155, tok156, tok157, tok158, tok159, tok160, tok162, tok163, tok164, tok166, tok167, tok168, tok169, tok171, tok172, tok173, tok174, tok175, tok176, tok177, tok178, tok179, tok181, tok182, tok183, tok184, tok186, tok187, tok188, tok189, tok191, tok192, tok193, tok194, tok196, tok197, tok199, tok200, tok201, tok202, tok203, tok204, tok205, tok206, tok207, tok208, tok210, tok211, tok212, tok213, tok214, tok215, tok216, tok217, tok218, tok219, tok220, tok221, tok222, tok223, tok224, tok225, tok226, tok227, tok228, tok229, tok230, tok231, tok232, tok233, tok234, tok236, tok237, tok238, tok239, tok240, tok242, tok244, tok245, tok246, tok247, tok248, tok249, tok250, tok251, tok252, tok253, tok255, tok257, tok258, tok262, tok268, tok269, tok270, tok272, tok273, tok276, tok277, by simp⟩)
end Go.Proofs.Ytcblgjaomljikaa
namespace Go.Proofs.Ytcblgjaomljikaa
open Go.Ab Go.RowKit
abbrev E0 : TypeId → Bool := fun t => Nat.beq t 28 || Nat.beq t 130 || Nat.beq t 34
theorem kL (k : Nat) (ds : List Nat) (hk : k ≤ 2) (hl : ds.length < 4611686018427387904) : Run Try.prog T E0 (.call 191 [.sl k (ds.map d32)] (.sl (if k = 0 then 0 else 1) ((trim ds).map d32))) := by
 refine bC Try.func191 J J (cW J) <| Rg 1 J <| Ua J J <| Wn <| aG <| aY (α := Nat × (List Nat)) (fun ⟨k1, es⟩ => [(0, .sl k1 (es.map d32))]) (fun ⟨k1, es⟩ => []) (fun ⟨k1, es⟩ n => (k1 = k ∨ k = 2 ∧ k1 = 1) ∧ trim es = trim ds ∧ es.length < 4611686018427387904) (fun ⟨k1, es⟩ => es.length) (k, ds) ⟨J, trivial⟩ trivial ⟨.inl J, rfl, hl⟩ ?_
 rintro ⟨k1, es⟩ n hF
 change WC _ _ _ _ _ (_ :: _) ([]) n _
 obtain ⟨hk1, hds, hel⟩ := hF
 refine aC <| Rg 12 J <| Um J J <| aA (aX J J) J <| aA (fU J J) J <| aW (fun h5 => ?_) (fun h5 => ?_)
 rotate_left
 ·refine Um J J <| K1 J J <| K1 J J <| K1 J J <| K1 J J <| K1 J J <| K1 J J <| K1 J J <| aA (cD J J) J <| Wn <| aR J <| aT <| aP <| aN J <| Rg 2 J <| Um J J <| Ua J J <| Nk [2] J <| aK <| postW (n := 0) (.inr J) J ?_ (by simp)
  have ht : trim es = es := trim_done om
  rw [← hds, ht]
  rcases hk1 with rfl | ⟨rfl, rfl⟩
  ·have : k1 = 0 ∨ k1 = 1 ∨ k1 = 2 := by omega
   rcases this with rfl | rfl | rfl
   ·exact .same _
   ·exact .same _
   ·exact .two _
  ·exact .same _
 refine Um J J <| aJ J (cR J) J <| aJ J (cR J) J <| aJ J (aX J J) J <| aJ J (dK J J om) J <| aJ J (bY (j := es.length - 1) J J J J om om J) J <| aJ J (dQ J J J) J <| aJ J (fR J J) J <| aW (fun h13 => ?_) (fun h13 => ?_)
 ·refine aA (cG J J) J <| Wn <| aV J <| aF <| eQ <| aI (z := 6) J <| Um J J <| Um J J <| aA (aX J J) J <| aA (dK J J om) J <| aA (oSlH (j := es.length - 1) J J J gJ J om (by simp)) J <| Ua J J <| Wn <| eX <| aH <| ⟨⟨if k1 = 2 then 1 else k1, es.take (es.length - 1)⟩, ⟨congrArg some ?_, trivial⟩, trivial, ⟨?_, ?_, ?_⟩, ?_⟩
  ·have h9 : es.length - 1 < es.length := by omega
   simp [h9]
  ·split <;> omega
  ·rw [trim_step om om]; exact hds
  ·simp; omega
  ·simp; omega
 refine aA (cG J J) J <| Wn <| aR J <| aT <| aP <| aN J <| Rg 2 J <| Um J J <| Ua J J <| Nk [2] J <| aK <| postW (n := 0) (.inr J) J ?_ (by simp)
 have ht : trim es = es := trim_done om
 rw [← hds, ht]
 rcases hk1 with rfl | ⟨rfl, rfl⟩
 ·have : k1 = 0 ∨ k1 = 1 ∨ k1 = 2 := by omega
  rcases this with rfl | rfl | rfl
  ·exact .same _
  ·exact .same _
  ·exact .two _
 ·exact .same _
theorem iV (v : Int) : Run Try.prog T E0 (.call 145 [lvI v] (.v (.int .i64 v.sign))) := by
 refine bC Try.func145 J J (cW J) <| Rg 2 J <| bL (kE J J) J <| Ua J J <| Wn <| aG <| Rg 4 J <| aA (cO J J J J J) J <| aA (bF J J J J J) J <| aA (fU J J) J <| aW (fun h6 => ?_) (fun h6 => ?_)
 ·refine Ua J J <| Wn <| bI J <| Rg 1 J <| Ua J J <| Wn <| aK <| aO <| post (n := 0) (.inr J) J (congrArg (fun z => LV.v (.int .i64 z)) ?_) (by simp)
  exact (Int.sign_eq_one_of_pos ((ia_pos v).1 h6)).symm
 refine Ua J J <| Wn <| bH J <| Rg 4 J <| aA (cO J J J J J) J <| aA (bF J J J J J) J <| aA (bS J J) J <| aW (fun h10 => ?_) (fun h10 => ?_)
 ·refine Ua J J <| Wn <| bI J <| Rg 1 J <| Ua J J <| Wn <| aK <| aO <| post (n := 0) (.inr J) J (congrArg (fun z => LV.v (.int .i64 z)) ?_) (by simp)
  exact (Int.sign_eq_neg_one_of_neg ((ia_neg v).1 h10)).symm
 refine Ua J J <| Wn <| bH J <| bJ <| aD <| Rg 1 J <| Ua J J <| Wn <| aK <| post (n := 0) (.inr J) J (congrArg (fun z => LV.v (.int .i64 z)) ?_) (by simp)
 have h1 := ia_pos v
 have h2 := ia_neg v
 have : v = 0 := by omega
 subst this; rfl
theorem pI (v : Int) : Run Try.prog T E0 (.call 182 [lvI v] (lvI (-v))) := by
 have hb := oH v
 refine bC Try.func182 J J (cW J) <| Rg 2 J <| bL (kE J J) J <| bL (gM J) J <| Wn <| Rg 7 J <| aA (cO J J J J J) J <| aA (bF J J J J J) J <| aA (qM J om) J <| aA (cO J J J J J) J <| aA (bF J J J J J) J <| aA (mJ (cs := [_, _]) J J J J J) J <| bB (dH (cs' := [_, _]) J J J J J J J J) <| Wn <| aK <| post (n := 0) (.inr J) J ?_ (by simp)
 simp only [lvI, ia_negate, ik_negate, idg_negate]; rfl
theorem abs_run (v : Int) : Run Try.prog T E0 (.call 206 [lvI v] (lvI v.natAbs)) := by
 refine bC Try.func206 J J (cW J) <| Rg 2 J <| bL (kE J J) J <| bL (gM J) J <| Wn <| aC <| Rg 3 J <| aA (cO J J J J J) J <| aA (bF J J J J J) J <| aA (bS J J) J <| aW (fun h5 => ?_) (fun h5 => ?_)
 rotate_left
 ·refine Wn <| aR J <| aF <| Rg 2 J <| aA (bF (l := .agg [_, _]) J J J J J) J <| bB (dH (cs' := [_, _]) J J J J J J J J) <| Wn <| aK <| post (n := 0) (.inr J) J ?_ (by simp)
  have h1 := ia_neg v
  have : (v.natAbs : Int) = v := by omega
  rw [this]; rfl
 refine Wn <| aV J <| aC <| Rg 3 J <| aA (bF (l := .agg [_, _]) J J J J J) J <| aA (aE J (pI _) (by simp)) J <| bB (dH (cs' := [_, _]) J J J J J J J J) <| Wn <| bM <| post (n := 0) (.inr J) J ?_ (by simp)
 have h1 := (ia_neg v).1 h5
 have : (v.natAbs : Int) = -v := by omega
 rw [this]; rfl
theorem one_run  : Run Try.prog T E0 (.call 203 [] (lvI 1)) := by
 refine bC Try.func203 J J (cW J) <| Rg 1 J <| bL (gM J) J <| Wn <| Rg 2 J <| aA (mJ (cs := [_, _]) J J J J J) J <| bB (dH (cs' := [_, _]) J J J J J J J J) <| Wn <| aK ?_
 exact post (n := 0) (.inr J) J J (by simp)
theorem nR (v : Int) (hv : -9223372036854775808 ≤ v ∧ v ≤ 9223372036854775807) : Run Try.prog T E0 (.call 66 [.v (.int .i64 v)] (lvI v)) := by
 refine bC Try.func66 J J (cW J) <| Rg 1 J <| bL (gM J) J <| Wn <| aC <| Rg 6 J <| Um J J <| aA (fU J J) J <| aW (fun h6 => ?_) (fun h6 => ?_)
 rotate_left
 ·refine Um J J <| K1 J J <| K1 J J <| aA (cD J J) J <| Wn <| aR J <| aF <| Rg 1 J <| Ua J J <| Wn <| Rg 3 J <| Um J J <| aA (cI (v % 18446744073709551616) (bX J J J) (IntKind.wrap_u64 _)) J <| Ua J J <| Wn <| aC <| Rg 2 J <| Um J J <| aA (bS J J) J <| aW (fun h16 => ?_) (fun h16 => ?_)
  rotate_left
  ·refine Wn <| aR J <| aF <| Rg 9 J <| Um J J <| Um J J <| aA (cI (((v.natAbs % 4294967296 : Nat) : Int)) (bX J J J) (by rw [IntKind.wrap_u32]; omega)) J <| Um J J <| aA (cI (((v.natAbs / 4294967296 : Nat) : Int)) (eB (s := 32) J J om) om) J <| aA (cI (((v.natAbs / 4294967296 : Nat) : Int)) (bX J J J) (by rw [IntKind.wrap_u32]; omega)) J <| aA (dJ (cs := [_, _]) (rows := [[_], [_]]) J J (by decide) J J J) J <| aA (mJ (cs := [_, _]) J J J J J) J <| bB (dH (cs' := [_, _]) J J J J J J J J) <| Nk [2] J <| aK ?_
   omega
  refine Wn <| aV J <| Rg 4 J <| Um J J <| aA (cI (((v.natAbs : Nat) : Int)) (oNeg J) (by rw [IntKind.wrap_u64]; omega)) J <| Ua J J <| Ua J J <| Nk [2,3,4] J <| Rg 9 J <| Um J J <| Um J J <| aA (cI (((v.natAbs % 4294967296 : Nat) : Int)) (bX J J J) (by rw [IntKind.wrap_u32]; omega)) J <| Um J J <| aA (cI (((v.natAbs / 4294967296 : Nat) : Int)) (eB (s := 32) J J om) om) J <| aA (cI (((v.natAbs / 4294967296 : Nat) : Int)) (bX J J J) (by rw [IntKind.wrap_u32]; omega)) J <| aA (dJ (cs := [_, _]) (rows := [[_], [_]]) J J (by decide) J J J) J <| aA (mJ (cs := [_, _]) J J J J J) J <| bB (dH (cs' := [_, _]) J J J J J J J J) <| Wn <| aK <| postW (n := 0) (l := .agg [_, _]) (.inr J) J ?_ (by simp)
  have hns : ¬ small v := by unfold small; omega
  rw [pE hns, Int.sign_eq_neg_one_of_neg h16, ← two_big (m := v.natAbs) om om]
  exact .int _ _
 refine Um J J <| aJ J (cR J) J <| aJ J (bS J J) J <| aW (fun h9 => ?_) (fun h9 => ?_)
 ·refine aA (cG J J) J <| Wn <| aV J <| aC <| Rg 3 J <| Um J J <| aA (mJ (cs := [_, _]) J J J J J) J <| bB (dH (cs' := [_, _]) J J J J J J J J) <| Wn <| bM <| post (n := 0) (.inr J) J ?_ (by simp)
  rw [iQ ⟨h6, h9⟩]; rfl
 refine aA (cG J J) J <| Wn <| aR J <| aF <| Rg 1 J <| Ua J J <| Wn <| Rg 3 J <| Um J J <| aA (cI (v % 18446744073709551616) (bX J J J) (IntKind.wrap_u64 _)) J <| Ua J J <| Wn <| aC <| Rg 2 J <| Um J J <| aA (bS J J) J <| aW (fun h16 => ?_) (fun h16 => ?_)
 rotate_left
 ·refine Wn <| aR J <| aF <| Rg 9 J <| Um J J <| Um J J <| aA (cI (((v.natAbs % 4294967296 : Nat) : Int)) (bX J J J) (by rw [IntKind.wrap_u32]; omega)) J <| Um J J <| aA (cI (((v.natAbs / 4294967296 : Nat) : Int)) (eB (s := 32) J J om) om) J <| aA (cI (((v.natAbs / 4294967296 : Nat) : Int)) (bX J J J) (by rw [IntKind.wrap_u32]; omega)) J <| aA (dJ (cs := [_, _]) (rows := [[_], [_]]) J J (by decide) J J J) J <| aA (mJ (cs := [_, _]) J J J J J) J <| bB (dH (cs' := [_, _]) J J J J J J J J) <| Nk [2] J <| aK <| postW (n := 0) (l := .agg [_, _]) (.inr J) J ?_ (by simp)
  have hns : ¬ small v := by unfold small; omega
  rw [pE hns, Int.sign_eq_one_of_pos om, ← two_big (m := v.natAbs) om om]
  exact .int _ _
 refine Wn <| aV J <| Rg 4 J <| Um J J <| aA (cI (((v.natAbs : Nat) : Int)) (oNeg J) (by rw [IntKind.wrap_u64]; omega)) J <| Ua J J <| Ua J J <| Nk [2,3,4] J <| Rg 9 J <| Um J J <| Um J J <| aA (cI (((v.natAbs % 4294967296 : Nat) : Int)) (bX J J J) (by rw [IntKind.wrap_u32]; omega)) J <| Um J J <| aA (cI (((v.natAbs / 4294967296 : Nat) : Int)) (eB (s := 32) J J om) om) J <| aA (cI (((v.natAbs / 4294967296 : Nat) : Int)) (bX J J J) (by rw [IntKind.wrap_u32]; omega)) J <| aA (dJ (cs := [_, _]) (rows := [[_], [_]]) J J (by decide) J J J) J <| aA (mJ (cs := [_, _]) J J J J J) J <| bB (dH (cs' := [_, _]) J J J J J J J J) <| Wn <| aK <| postW (n := 0) (l := .agg [_, _]) (.inr J) J ?_ (by simp)
 have hns : ¬ small v := by unfold small; omega
 rw [pE hns, Int.sign_eq_neg_one_of_neg h16, ← two_big (m := v.natAbs) om om]
 exact .int _ _
theorem pC (v b : Int) (hb : 0 ≤ b ∧ b < 4611686018427387904) : Run Try.prog T E0 (.call 69 [lvI v, .v (.int .i64 b)] (.tup [.v (.int .i64 (if -b ≤ v ∧ v ≤ b then v else 0)), .v (.bool (decide (-b ≤ v ∧ v ≤ b)))])) := by
 refine bC Try.func69 J J (cW J) <| Rg 3 J <| bL (kE J J) J <| Ua J J <| Ua J J <| Wn <| aC <| Rg 16 J <| aA (cO J J J J J) J <| aA (bF J J J J J) J <| aA (oNilN J J) J <| dM (fun h8 => ?_) (fun h8 => ?_)
 ·refine Um J J <| K1 J J <| K1 J J <| K1 J J <| K1 J J <| aA (cG J J) J <| Um J J <| K1 J J <| K1 J J <| K1 J J <| K1 J J <| K1 J J <| aA (cG J J) J <| Nk [2,21] J <| aV J <| aC <| Rg 2 J <| Ua J J <| Ua J J <| Wn <| bM <| post (n := 0) (.inr J) J ?_ (by simp)
  have hs := ik_eq'.1 h8
  have hn : ¬ (-b ≤ v ∧ v ≤ b) := by unfold small at hs; omega
  rw [if_neg hn, decide_eq_false hn]; rfl
 refine Um J J <| aJ J (cO J J J J J) J <| aJ J (bF J J J J J) J <| aJ J (cR J) J <| aJ J (fU J J) J <| aW (fun h13 => ?_) (fun h13 => ?_)
 ·refine aA (cD J J) J <| Um J J <| K1 J J <| K1 J J <| K1 J J <| K1 J J <| K1 J J <| aA (cG J J) J <| Nk [2,21] J <| aV J <| aC <| Rg 2 J <| Ua J J <| Ua J J <| Wn <| bM <| post (n := 0) (.inr J) J ?_ (by simp)
  have hs := dC (qB.1 h8)
  have hn : ¬ (-b ≤ v ∧ v ≤ b) := by omega
  rw [if_neg hn, decide_eq_false hn]; rfl
 refine aA (cD J J) J <| Um J J <| aJ J (cO J J J J J) J <| aJ J (bF J J J J J) J <| aJ J (cR J) J <| aJ J (qM J om) J <| aJ J (bS J J) J <| aW (fun h20 => ?_) (fun h20 => ?_)
 ·refine aA (cD J J) J <| Nk [2,21] J <| aV J <| aC <| Rg 2 J <| Ua J J <| Ua J J <| Wn <| bM <| post (n := 0) (.inr J) J ?_ (by simp)
  have hs := dC (qB.1 h8)
  have hn : ¬ (-b ≤ v ∧ v ≤ b) := by omega
  rw [if_neg hn, decide_eq_false hn]; rfl
 refine aA (cD J J) J <| Nk [2,21] J <| aR J <| aF <| Rg 4 J <| aA (cO J J J J J) J <| aA (bF J J J J J) J <| Ua J J <| Ua J J <| Wn <| aK <| post (n := 0) (.inr J) J ?_ (by simp)
 have hs := dC (qB.1 h8)
 have hn : -b ≤ v ∧ v ≤ b := by omega
 rw [if_pos hn, decide_eq_true hn]
 exact congrArg (fun z => LV.tup [.v (.int .i64 z), .v (.bool true)]) hs
theorem eI (v : Int) : Run Try.prog T E0 (.call 139 [lvI v] (.tup [.v (.int .i64 v.sign), .sl 1 ((dgs B32 v.natAbs).map d32)])) := by
 have hb := oH v
 refine bC Try.func139 J J (cW J) <| Rg 3 J <| bL (kE J J) J <| Ua J J <| Ua J J <| Wn <| aC <| Rg 3 J <| aA (cO J J J J J) J <| aA (bF J J J J J) J <| aA (oNilN J J) J <| dM (fun h8 => ?_) (fun h8 => ?_)
 ·refine Wn <| aV J <| aC <| cJ (z := 6) J kR <| aL (cO J J J J J) J <| aL (bF J J J J J) J <| aL (cO J J J J J) J <| aL (bF J J J J J) J <| aL (fV J) J <| aL (fV J) J <| bT (bE kR) J <| bM <| post (n := 0) (.inr J) J ?_ (by simp)
  have hs := ik_eq'.1 h8
  rw [nL hs, ik_big hs, idg_big hs]; rfl
 have hs := qB.1 h8
 have hia := dC hs
 refine Wn <| aR J <| aF <| Rg 2 J <| Ua J J <| Ua J J <| Wn <| aG <| Rg 4 J <| aA (cO J J J J J) J <| aA (bF J J J J J) J <| aA (fU J J) J <| aW (fun h16 => ?_) (fun h16 => ?_)
 ·refine Ua J J <| Wn <| bI J <| dR (z := 5) J kR <| aL (cO J J J J J) J <| aL (bF J J J J J) J <| aL (cI (((v.natAbs : Nat) : Int)) (bX J J J) (by rw [IntKind.wrap_u64]; omega)) J <| aL (fV J) J <| aL (fV J) J <| bT (bE kR) J <| aD <| Ck [4,5] J <| Rg 10 J <| Um J J <| Um J J <| aA (cI (((v.natAbs % 4294967296 : Nat) : Int)) (bX J J J) (by rw [IntKind.wrap_u32]; omega)) J <| Um J J <| aA (cI (((v.natAbs / 4294967296 : Nat) : Int)) (eB (s := 32) J J om) om) J <| aA (cI (((v.natAbs / 4294967296 : Nat) : Int)) (bX J J J) (by rw [IntKind.wrap_u32]; omega)) J <| aA (dJ (cs := [_, _]) (rows := [[_], [_]]) J J (by decide) J J J) J <| aA (aE J (kL 2 [v.natAbs % 4294967296, v.natAbs / 4294967296] om (by simp)) (by simp)) J <| Ua J J <| Ua J J <| cM ?_
  refine aK <| post (n := 0) (.inr J) J ?_ (by simp)
  rw [← two_dg (m := v.natAbs) om, Int.sign_eq_one_of_pos om]; rfl
 refine Ua J J <| Wn <| bH J <| Rg 4 J <| aA (cO J J J J J) J <| aA (bF J J J J J) J <| aA (bS J J) J <| aW (fun h23 => ?_) (fun h23 => ?_)
 rotate_left
 ·refine Ua J J <| Nk [1,4,5,20] J <| bH J <| bJ <| aD <| Rg 10 J <| Um J J <| Um J J <| aA (cI (((v.natAbs % 4294967296 : Nat) : Int)) (bX J J J) (by rw [IntKind.wrap_u32]; omega)) J <| Um J J <| aA (cI (((v.natAbs / 4294967296 : Nat) : Int)) (eB (s := 32) J J om) om) J <| aA (cI (((v.natAbs / 4294967296 : Nat) : Int)) (bX J J J) (by rw [IntKind.wrap_u32]; omega)) J <| aA (dJ (cs := [_, _]) (rows := [[_], [_]]) J J (by decide) J J J) J <| aA (aE J (kL 2 [v.natAbs % 4294967296, v.natAbs / 4294967296] om (by simp)) (by simp)) J <| Ua J J <| Ua J J <| Wn <| aK <| post (n := 0) (.inr J) J ?_ (by simp)
  have h0 : v = 0 := by omega
  rw [← two_dg (m := v.natAbs) om]
  subst h0; rfl
 refine Ua J J <| Nk [1,4,5,20] J <| bI J <| dR (z := 6) J kR <| aL (cO J J J J J) J <| aL (bF J J J J J) J <| aL (qM J om) J <| aL (cI (((v.natAbs : Nat) : Int)) (bX J J J) (by rw [IntKind.wrap_u64]; omega)) J <| aL (fV J) J <| aL (fV J) J <| bT (bE kR) J <| aD <| Rg 10 J <| Um J J <| Um J J <| aA (cI (((v.natAbs % 4294967296 : Nat) : Int)) (bX J J J) (by rw [IntKind.wrap_u32]; omega)) J <| Um J J <| aA (cI (((v.natAbs / 4294967296 : Nat) : Int)) (eB (s := 32) J J om) om) J <| aA (cI (((v.natAbs / 4294967296 : Nat) : Int)) (bX J J J) (by rw [IntKind.wrap_u32]; omega)) J <| aA (dJ (cs := [_, _]) (rows := [[_], [_]]) J J (by decide) J J J) J <| aA (aE J (kL 2 [v.natAbs % 4294967296, v.natAbs / 4294967296] om (by simp)) (by simp)) J <| Ua J J <| Ua J J ?_
 refine Nk [2,3] J <| aK <| post (n := 0) (.inr J) J ?_ (by simp)
 rw [← two_dg (m := v.natAbs) om, Int.sign_eq_neg_one_of_neg om]; rfl
theorem iO (x y c : Nat) (hx : x < 4294967296) (hy : y < 4294967296) (hc : c ≤ 1) : Run Try.prog T E0 (.call 192 [.v (.int .u32 (x : Int)), .v (.int .u32 (y : Int)), .v (.int .u32 (c : Int))] (.tup [.v (.int .u32 (((x + y + c) % 4294967296 : Nat) : Int)), .v (.int .u32 (((x + y + c) / 4294967296 : Nat) : Int))])) := by
 refine bC Try.func192 J J (cW J) <| Rg 2 J <| Ua J J <| Ua J J <| Wn <| Rg 9 J <| Um J J <| aA (cI ((x : Int)) (bX J J J) (by rw [IntKind.wrap_u64]; omega)) J <| Um J J <| aA (cI ((y : Int)) (bX J J J) (by rw [IntKind.wrap_u64]; omega)) J <| aA (cI (((x + y : Nat) : Int)) (iT J J) om) J <| Um J J <| aA (cI ((c : Int)) (bX J J J) (by rw [IntKind.wrap_u64]; omega)) J <| aA (cI (((x + y + c : Nat) : Int)) (iT J J) om) J <| Ua J J <| Wn <| Rg 3 J <| Um J J <| aA (cI ((((x + y + c) % 4294967296 : Nat) : Int)) (bX J J J) (by rw [IntKind.wrap_u32]; omega)) J <| Ua J J <| Nk [6,8] J <| Rg 4 J <| Um J J ?_
 refine aA (cI ((((x + y + c) / 4294967296 : Nat) : Int)) (eB (s := 32) J J om) om) J <| aA (cI ((((x + y + c) / 4294967296 : Nat) : Int)) (bX J J J) (by rw [IntKind.wrap_u32]; omega)) J <| Ua J J <| Wn <| aK ?_
 exact post (n := 0) (.inr J) J J (by simp)
theorem jV (k1 k2 : Nat) (xs ys : List Nat) (hx : Dg B32 xs) (hy : Dg B32 ys) (tx : Trm xs) (ty : Trm ys) (lx : xs.length < 4611686018427387904) (ly : ys.length < 4611686018427387904) : Run Try.prog T E0 (.call 142 [.sl k1 (xs.map d32), .sl k2 (ys.map d32)] (.v (.int .i64 ((val B32 xs : Int) - val B32 ys).sign))) := by
 refine bC Try.func142 J J (cW J) <| Rg 1 J <| Ua J J <| Wn <| aC <| Rg 5 J <| Um J J <| aA (aX J J) J <| Um J J <| aA (aX J J) J <| aA (eG J J) J <| aW (fun h10 => ?_) (fun h10 => ?_)
 ·refine Wn <| aV J <| aC <| aC <| Rg 5 J <| Um J J <| aA (aX J J) J <| Um J J <| aA (aX J J) J <| aA (bS J J) J <| aW (fun h15 => ?_) (fun h15 => ?_)
  ·refine Wn <| aV J <| aC <| Rg 1 J <| Ua J J <| Wn <| bM <| post (n := 0) (.inr J) J (congrArg (fun z => LV.v (.int .i64 z)) ?_) (by simp)
   have := fD (B := B32) (by decide) hx ty om
   exact (Int.sign_eq_neg_one_of_neg om).symm
  refine Wn <| aR J <| aF <| aC <| Rg 1 J <| Ua J J <| Wn <| bM <| post (n := 0) (.inr J) J (congrArg (fun z => LV.v (.int .i64 z)) ?_) (by simp)
  have := fD (B := B32) (by decide) hy tx om
  exact (Int.sign_eq_one_of_pos om).symm
 have hlen : xs.length = ys.length := by omega
 refine Wn <| aR J <| aF <| aC <| Rg 4 J <| Um J J <| aA (aX J J) J <| aA (dK J J om) J <| Ua J J <| Wn <| aG <| aY (α := Nat) (fun k => [(0, .sl k1 (xs.map d32)), (1, .sl k2 (ys.map d32)), (5, .v (.int .i64 ((k : Int) - 1)))]) (fun k => []) (fun k n => k ≤ xs.length ∧ xs.drop k = ys.drop k) (fun k => k) (xs.length) ⟨J, J, J, trivial⟩ trivial ⟨Nat.le_refl _, by rw [List.drop_length, hlen, List.drop_length]⟩ ?_
 rintro k n hF
 change WC _ _ _ _ _ (_ :: _) ([]) n _
 obtain ⟨hk, hd⟩ := hF
 refine aC <| Rg 2 J <| Um J J <| aA (lG J J) J <| aW (fun h20 => ?_) (fun h20 => ?_)
 rotate_left
 ·refine Wn <| aR J <| aT <| aP <| aN J <| Rg 1 J <| Ua J J <| Wn <| aK <| post (n := 0) (.inr J) J (congrArg (fun z => LV.v (.int .i64 z)) ?_) (by simp)
  have h0 : k = 0 := by omega
  subst h0
  simp only [List.drop_zero] at hd
  subst hd
  simp
 refine Wn <| aV J <| aF <| aG <| cJ (z := 9) J kR <| Dm J J <| Dm J J <| aL (bY (j := k - 1) J J J J om om J) J <| aL (dQ J J J) J <| Dm J J <| Dm J J <| aL (bY (j := k - 1) J J J J om om J) J <| aL (dQ J J J) J <| aL (eG J J) J <| WD.D (fun h31 => ?_) (fun h31 => ?_)
 rotate_left
 ·refine bT (bE kR) J <| bH J <| bJ <| aD <| aI (z := 3) J <| Um J J <| aA (cI (((k - 1 : Nat) : Int) - 1) (dK J J om) om) J <| Ua J J <| Wn <| aH ?_
  have hj : k - 1 + 1 = k := by omega
  refine ⟨k - 1, ⟨J, J, J, trivial⟩, trivial, ⟨om, ?_⟩, by show k - 1 < k; omega⟩
  rw [cA (by omega : k - 1 < xs.length), cA (by omega : k - 1 < ys.length), hj, hd]
  congr 1; omega
 refine bT (bE kR) J <| bI J <| aC <| cJ (z := 9) J kR <| Dm J J <| Dm J J <| aL (bY (j := k - 1) J J J J om om J) J <| aL (dQ J J J) J <| Dm J J <| Dm J J <| aL (bY (j := k - 1) J J J J om om J) J <| aL (dQ J J J) J <| aL (bS J J) J <| WD.D (fun h40 => ?_) (fun h40 => ?_)
 ·refine bT (bE kR) J <| Ck [40] J <| aV J <| aC <| Rg 1 J <| Ua J J <| Wn <| bM <| aO <| cZ <| aO <| post (n := 0) (.inr J) J (congrArg (fun z => LV.v (.int .i64 z)) ?_) (by simp)
  have hj : k - 1 + 1 = k := by omega
  have := val_lt_at (B := B32) (ys := ys) (by decide) hx (k := k - 1) om om (by rw [hj]; exact hd) om
  exact (Int.sign_eq_neg_one_of_neg om).symm
 refine bT (bE kR) J <| Ck [40] J <| aR J <| aF <| Rg 1 J <| Ua J J <| Wn <| aK <| aO <| cZ <| aO <| post (n := 0) (.inr J) J (congrArg (fun z => LV.v (.int .i64 z)) ?_) (by simp)
 have hj : k - 1 + 1 = k := by omega
 have := val_lt_at (B := B32) (ys := xs) (by decide) hy (k := k - 1) om om (by rw [hj]; exact hd.symm) om
 exact (Int.sign_eq_one_of_pos om).symm
end Go.Proofs.Ytcblgjaomljikaa
namespace Go.Proofs.Ytcblgjaomljikaa
open Go.Ab Go.RowKit
theorem sub32_run (x y c : Nat) (hx : x < 4294967296) (hy : y < 4294967296) (hc : c ≤ 1) : Run Try.prog T E0 (.call 193 [.v (.int .u32 (x : Int)), .v (.int .u32 (y : Int)), .v (.int .u32 (c : Int))] (.tup [.v (.int .u32 ((((x + 8589934592 - y - c) % 4294967296) : Nat) : Int)), .v (.int .u32 ((if x < y + c then 1 else 0 : Nat) : Int))])) := by
 have hxy : x ^^^ y < 4294967296 := Nat.xor_lt_two_pow (n := 32) hx hy
 refine bC Try.func193 J J (cW J) <| Rg 2 J <| Ua J J <| Ua J J <| Wn <| Rg 6 J <| Um J J <| Um J J <| aA (oSub32 J J) J <| Um J J <| aA (cI (((((x + 8589934592 - y - c) % 4294967296) : Nat) : Int)) (oSub32 J J) om) J <| Ua J J <| Wn <| Rg 13 J <| Um J J <| aA (oCom32 (a := x) J hx) J <| Um J J <| aA (eW (v := .int .u32 (((4294967295 - x) &&& y : Nat) : Int)) J J (and32 om hy)) J <| Um J J <| Um J J <| aA (eW (v := .int .u32 ((x ^^^ y : Nat) : Int)) J J (xor32 hx hy)) J <| aA (oCom32 (a := x ^^^ y) J hxy) J <| Um J J <| aA (eW (v := .int .u32 (((4294967295 - (x ^^^ y)) &&& ((x + 8589934592 - y - c) % 4294967296) : Nat) : Int)) J J (and32 om om)) J ?_
 refine aA (eW (v := .int .u32 ((((4294967295 - x) &&& y) ||| ((4294967295 - (x ^^^ y)) &&& ((x + 8589934592 - y - c) % 4294967296)) : Nat) : Int)) J J (or32 (Nat.lt_of_le_of_lt Nat.and_le_right hy) (Nat.lt_of_le_of_lt Nat.and_le_left om))) J <| aA (cI (((if x < y + c then 1 else 0 : Nat) : Int)) (oShr32 (s := 31) J J om) (by rw [← borrow hx hy hc (d := ((x + 8589934592 - y - c) % 4294967296)) om]; rfl)) J <| Ua J J <| Nk [6,7] J <| aK ?_
 exact post (n := 0) (.inr J) J J (by simp)
theorem plus_run (k1 k2 : Nat) (xs ys : List Nat) (hx : Dg B32 xs) (hy : Dg B32 ys) (lx : xs.length < 1099511627776) (ly : ys.length < 1099511627776) : ∃ r, Run Try.prog T E0 (.call 141 [.sl k1 (xs.map d32), .sl k2 (ys.map d32)] r) ∧ ∃ ds, r = .sl 1 (ds.map d32) ∧ Dg B32 ds ∧ val B32 ds = val B32 xs + val B32 ys ∧ ds.length ≤ max xs.length ys.length + 1 := by
 refine fO Try.func141 J J (cW J) ?_
 have J3 : ∀ (k1 k2 : Nat) (us ws : List Nat) (hu : Dg B32 us) (hw : Dg B32 ws) (hle : ws.length ≤ us.length) (hm : us.length ≤ max xs.length ys.length) (hs : val B32 us + val B32 ws = val B32 xs + val B32 ys) (n : Nat) , WC Try.prog T E0 Try.f141.ntmps (codeR (codeR (codeOf Try.f141))) [(0, .sl k1 (us.map d32)), (1, .sl k2 (ws.map d32))] [] n (fun x e h n => ∃ r, (∃ ds, r = .sl 1 (ds.map d32) ∧ Dg B32 ds ∧ val B32 ds = val B32 xs + val B32 ys ∧ ds.length ≤ max xs.length ys.length + 1) ∧ Post T Try.f141.results.toList r x e h n) := by
  intro k1 k2 us ws hu hw hle hm hs n
  refine Rg 5 J <| Um J J <| aA (aX J J) J <| aA (aQ J J om) J <| bL (oMk (a := 0) (b := us.length + 1) J J J J J J (by decide) om (by show 4 * (us.length + 1) ≤ _; omega) om) J <| Ua J J <| Wn <| Rg 1 J <| Ua J J <| Wn <| aC <| Rg 3 J <| Um J J <| aA (aX J J) J <| Um J J <| Wn <| aG <| aY (α := Nat × Nat × (List Nat)) (fun ⟨c, q, ds⟩ => [(0, .sl k1 (us.map d32)), (1, .sl k2 (ws.map d32)), (5, .ref q 1 0 ds.length), (6, .v (.int .u32 (c : Int))), (22, .v (.int .i64 (us.length : Int))), (23, .v (.int .i64 (ds.length : Int)))]) (fun ⟨c, q, ds⟩ => [(q, { cells := (ds.map d32).flatten, sz := 1, elem := 189, st := 0 })]) (fun ⟨c, q, ds⟩ n => ds.length ≤ us.length ∧ Dg B32 ds ∧ c ≤ 1 ∧ val B32 ds + B32 ^ ds.length * c = val B32 (us.take ds.length) + val B32 (ws.take ds.length)) (fun ⟨c, q, ds⟩ => us.length - ds.length) (0, n + 3, []) ⟨J, J, J, J, J, J, trivial⟩ ⟨g0, trivial⟩ ⟨Nat.zero_le _, by intro d hd; simp at hd, om, by simp [val]⟩ ?_
  rintro ⟨c, q, ds⟩ n hF
  change WC _ _ _ _ _ (_ :: _) (_ :: _) n _
  obtain ⟨hdl, hdd, hc, hi⟩ := hF
  refine Rg 1 J <| aA (bS J J) J <| aW (fun h24 => ?_) (fun h24 => ?_)
  rotate_left
  ·refine Wn <| aR J <| aT <| aP <| aN J <| Rg 5 J <| Um J J <| Um J J <| aA (dJ (cs := [_]) (rows := [[_]]) J J (by decide) J J J) J <| bL (oApM (f := d32) J J J J J (fun _ => rfl) (by decide) g0 (by show (2 * (ds.length + 1) + 256) * 4 ≤ _; omega) om) J <| Ua J J <| Wn <| aK <| ⟨.sl 1 ((ds ++ [c]).map d32), ⟨_, rfl, hdd.snoc (by show c < 4294967296; omega), ?_, by simp; omega⟩, mO (n := 0) _ (.inr J) J (by simp) g0 (by show (0 : Nat) ≠ 2; decide) J (by decide) J gJ dL⟩
   have hl : ds.length = us.length := by omega
   rw [iC, hi, List.take_of_length_le om, List.take_of_length_le om, hs]
  refine Wn <| aV J <| aF <| aG <| Rg 2 J <| Um J J <| Ua J J <| Wn <| Rg 1 J <| Ua J J <| Wn <| aC <| Rg 4 J <| Um J J <| Um J J <| aA (aX J J) J <| aA (bS J J) J <| aW (fun h29 => ?_) (fun h29 => ?_)
  rotate_left
  ·refine Wn <| aR J <| aF <| Rg 1 J <| Ua J J <| Nk [0,1,5,6,7,8,22,23] J ?_
   have hxl : us.getD ds.length default < 4294967296 := bO hu om
   refine Rg 12 J <| Um J J <| Um J J <| aA (bY J J J J J om J) J <| aA (dQ J J J) J <| Um J J <| Um J J <| aA (aE J (iO (us.getD ds.length default) 0 c hxl (by decide) hc) (by simp)) J <| Um J J <| aA (bU J J) J <| aA (bU J J) J <| Ua J J <| Ua J J <| Nk [0,1,5,6,9,22,23] J <| aI (z := 5) J <| Um J J <| Um J J <| aA (dJ (cs := [_]) (rows := [[_]]) J J (by decide) J J J) J <| bL (oApM (f := d32) J J J J J (fun _ => rfl) (by decide) g0 (by show (2 * (ds.length + 1) + 256) * 4 ≤ _; omega) om) J <| Ua J J <| Wn <| aD <| aI (z := 2) J ?_
   refine aA (cI (((ds.length + 1 : Nat) : Int)) (aQ J J om) om) J <| Um J J <| Wn <| aH <| ⟨⟨_, _, ds ++ [_]⟩, ⟨rfl, rfl, rfl, rfl, rfl, congrArg some (by simp), trivial⟩, ⟨g0, trivial⟩, ⟨by simp; omega, hdd.snoc (Nat.mod_lt _ (by decide)), om, plus_step hi J (getD_out om).symm⟩, by simp; omega⟩
  refine Wn <| aV J <| Rg 5 J <| Um J J <| Um J J <| aA (bY J J J J J om J) J <| aA (dQ J J J) J <| Ua J J <| Nk [0,1,5,6,7,8,22,23] J <| Rg 1 J <| Ua J J <| cM ?_
  have hxl : us.getD ds.length default < 4294967296 := bO hu om
  have hyl : ws.getD ds.length default < 4294967296 := bO hw om
  refine Rg 12 J <| Um J J <| Um J J <| aA (bY J J J J J om J) J <| aA (dQ J J J) J <| Um J J <| Um J J <| aA (aE J (iO (us.getD ds.length default) (ws.getD ds.length default) c hxl hyl hc) (by simp)) J <| Um J J <| aA (bU J J) J <| aA (bU J J) J <| Ua J J <| Ua J J <| Nk [0,1,5,6,9,22,23] J <| aI (z := 5) J <| Um J J <| Um J J <| aA (dJ (cs := [_]) (rows := [[_]]) J J (by decide) J J J) J <| bL (oApM (f := d32) J J J J J (fun _ => rfl) (by decide) g0 (by show (2 * (ds.length + 1) + 256) * 4 ≤ _; omega) om) J <| Ua J J <| Wn <| aD <| aI (z := 2) J ?_
  refine aA (cI (((ds.length + 1 : Nat) : Int)) (aQ J J om) om) J <| Um J J <| Wn <| aH <| ⟨⟨_, _, ds ++ [_]⟩, ⟨rfl, rfl, rfl, rfl, rfl, congrArg some (by simp), trivial⟩, ⟨g0, trivial⟩, ⟨by simp; omega, hdd.snoc (Nat.mod_lt _ (by decide)), om, plus_step hi J J⟩, by simp; omega⟩
 refine Rg 1 J <| Ua J J <| Wn <| aC <| Rg 5 J <| Um J J <| aA (aX J J) J <| Um J J <| aA (aX J J) J <| aA (bS J J) J <| aW (fun h14 => ?_) (fun h14 => ?_)
 rotate_left
 ·refine Wn <| aR J <| aF <| Ck [0,1] J ?_
  exact J3 _ _ xs ys hx hy om om J _
 refine Wn <| aV J <| Rg 4 J <| Um J J <| Um J J <| Ua J J <| Ua J J <| Nk [0,1] J ?_
 exact J3 _ _ ys xs hy hx om om om _
theorem kV (k1 k2 : Nat) (xs ys : List Nat) (hx : Dg B32 xs) (hy : Dg B32 ys) (lx : xs.length < 1099511627776) (hle : ys.length ≤ xs.length) (hv : val B32 ys ≤ val B32 xs) : ∃ r, Run Try.prog T E0 (.call 143 [.sl k1 (xs.map d32), .sl k2 (ys.map d32)] r) ∧ ∃ ds, r = .sl 1 (ds.map d32) ∧ Dg B32 ds ∧ val B32 ds = val B32 xs - val B32 ys ∧ ds.length = xs.length := by
 refine fO Try.func143 J J (cW J) <| Rg 1 J <| Ua J J <| Wn <| Rg 4 J <| Um J J <| aA (aX J J) J <| bL (oMk (a := 0) (b := xs.length) J J J J J J (by decide) om (by show 4 * xs.length ≤ _; omega) om) J <| Ua J J <| Wn <| Rg 1 J <| Ua J J <| Wn <| aC <| Rg 3 J <| Um J J <| aA (aX J J) J <| Um J J <| Wn <| aG <| aY (α := Nat × Nat × (List Nat)) (fun ⟨c, q, ds⟩ => [(0, .sl k1 (xs.map d32)), (1, .sl k2 (ys.map d32)), (5, .ref q 1 0 ds.length), (6, .v (.int .u32 (c : Int))), (14, .v (.int .i64 (xs.length : Int))), (15, .v (.int .i64 (ds.length : Int)))]) (fun ⟨c, q, ds⟩ => [(q, { cells := (ds.map d32).flatten, sz := 1, elem := 189, st := 0 })]) (fun ⟨c, q, ds⟩ n => ds.length ≤ xs.length ∧ Dg B32 ds ∧ c ≤ 1 ∧ val B32 (xs.take ds.length) + B32 ^ ds.length * c = val B32 ds + val B32 (ys.take ds.length)) (fun ⟨c, q, ds⟩ => xs.length - ds.length) (0, 0 + 1 + 2, []) ⟨J, J, J, J, J, J, trivial⟩ ⟨g0, trivial⟩ ⟨Nat.zero_le _, by intro d hd; simp at hd, om, by simp [val]⟩ ?_
 rintro ⟨c, q, ds⟩ n hF
 change WC _ _ _ _ _ (_ :: _) (_ :: _) n _
 obtain ⟨hdl, hdd, hc, hi⟩ := hF
 refine Rg 1 J <| aA (bS J J) J <| aW (fun h16 => ?_) (fun h16 => ?_)
 rotate_left
 ·refine Wn <| aR J <| aT <| aP <| aN J <| Rg 2 J <| Um J J <| Ua J J <| Wn <| aK <| ⟨.sl 1 (ds.map d32), ⟨_, rfl, hdd, ?_, om⟩, mO (n := 0) _ (.inr J) J (by simp) g0 (by show (0 : Nat) ≠ 2; decide) J (by decide) J gJ dL⟩
  have hl : ds.length = xs.length := by omega
  rw [List.take_of_length_le om, List.take_of_length_le om] at hi
  have hlt := fC (B := B32) (by decide) hdd
  rcases (show c = 0 ∨ c = 1 by omega) with rfl | rfl
  ·omega
  ·omega
 refine Wn <| aV J <| aF <| aG <| Rg 2 J <| Um J J <| Ua J J <| Wn <| Rg 1 J <| Ua J J <| Wn <| aC <| Rg 4 J <| Um J J <| Um J J <| aA (aX J J) J <| aA (bS J J) J <| aW (fun h21 => ?_) (fun h21 => ?_)
 rotate_left
 ·refine Wn <| aR J <| aF <| Rg 1 J <| Ua J J <| Nk [0,1,5,6,7,8,14,15] J ?_
  have hxl : xs.getD ds.length default < 4294967296 := bO hx om
  refine Rg 12 J <| Um J J <| Um J J <| aA (bY J J J J J om J) J <| aA (dQ J J J) J <| Um J J <| Um J J <| aA (aE J (sub32_run (xs.getD ds.length default) 0 c hxl (by decide) hc) (by simp)) J <| Um J J <| aA (bU J J) J <| aA (bU J J) J <| Ua J J <| Ua J J <| Nk [0,1,5,6,9,14,15] J <| aI (z := 5) J <| Um J J <| Um J J <| aA (dJ (cs := [_]) (rows := [[_]]) J J (by decide) J J J) J <| bL (oApM (f := d32) J J J J J (fun _ => rfl) (by decide) g0 (by show (2 * (ds.length + 1) + 256) * 4 ≤ _; omega) om) J <| Ua J J <| Wn <| aD <| aI (z := 2) J ?_
  refine aA (cI (((ds.length + 1 : Nat) : Int)) (aQ J J om) om) J <| Um J J <| Wn <| aH <| ⟨⟨_, _, ds ++ [_]⟩, ⟨rfl, rfl, rfl, rfl, rfl, congrArg some (by simp), trivial⟩, ⟨g0, trivial⟩, ⟨by simp; omega, hdd.snoc (Nat.mod_lt _ (by decide)), by split <;> omega, qJ hi J (getD_out om).symm (by show _ = _ + 4294967296 * _; split <;> omega)⟩, by simp; omega⟩
 refine Wn <| aV J <| Rg 5 J <| Um J J <| Um J J <| aA (bY J J J J J om J) J <| aA (dQ J J J) J <| Ua J J <| Nk [0,1,5,6,7,8,14,15] J <| Rg 1 J <| Ua J J <| cM ?_
 have hxl : xs.getD ds.length default < 4294967296 := bO hx om
 have hyl : ys.getD ds.length default < 4294967296 := bO hy om
 refine Rg 12 J <| Um J J <| Um J J <| aA (bY J J J J J om J) J <| aA (dQ J J J) J <| Um J J <| Um J J <| aA (aE J (sub32_run (xs.getD ds.length default) (ys.getD ds.length default) c hxl hyl hc) (by simp)) J <| Um J J <| aA (bU J J) J <| aA (bU J J) J <| Ua J J <| Ua J J <| Nk [0,1,5,6,9,14,15] J <| aI (z := 5) J <| Um J J <| Um J J <| aA (dJ (cs := [_]) (rows := [[_]]) J J (by decide) J J J) J <| bL (oApM (f := d32) J J J J J (fun _ => rfl) (by decide) g0 (by show (2 * (ds.length + 1) + 256) * 4 ≤ _; omega) om) J <| Ua J J <| Wn <| aD <| aI (z := 2) J ?_
 refine aA (cI (((ds.length + 1 : Nat) : Int)) (aQ J J om) om) J <| Um J J <| Wn <| aH <| ⟨⟨_, _, ds ++ [_]⟩, ⟨rfl, rfl, rfl, rfl, rfl, congrArg some (by simp), trivial⟩, ⟨g0, trivial⟩, ⟨by simp; omega, hdd.snoc (Nat.mod_lt _ (by decide)), by split <;> omega, qJ hi J J (by show _ = _ + 4294967296 * _; split <;> omega)⟩, by simp; omega⟩
theorem eJ (s : Int) (k : Nat) (ds : List Nat) (hs : s = 1 ∨ s = -1 ∨ s = 0 ∧ val B32 ds = 0) (hk : k = 1 ∨ k = 2) (hd : Dg B32 ds) (hl : ds.length < 4611686018427387904) : Run Try.prog T E0 (.call 140 [.v (.int .i64 s), .sl k (ds.map d32)] (lvI (s * val B32 ds))) := by
 have hkk : (if k = 0 then 0 else 1) = 1 := by rw [if_neg om]
 have htd := trim_dg hd
 have hrun := kL k ds om hl
 rw [hkk] at hrun
 have htl : (trim ds).length ≤ ds.length := by
  unfold trim; simpa using (List.dropWhile_sublist (· == 0) (l := ds.reverse)).length_le
 generalize hes : trim ds = es at *
 refine bC Try.func140 J J (cW J) <| Rg 1 J <| bL (gM J) J <| Wn <| Rg 3 J <| Um J J <| aA (aE J (hrun) (by simp)) J <| Ua J J <| Wn <| aC <| Rg 3 J <| Um J J <| aA (aX J J) J <| aA (oLeq J J) J <| aW (fun h12 => ?_) (fun h12 => ?_)
 rotate_left
 ·refine Wn <| aR J <| aF <| Rg 4 J <| Um J J <| Um J J <| aA (mJ (cs := [_, _]) J J J J J) J <| bB (dH (cs' := [_, _]) J J J J J J J J) <| Wn <| aK <| post (n := 0) (.inr J) J ?_ (by simp)
  have hb := val_big hd (by rw [hes]; omega)
  rw [lvI_made hd (by have : val B32 ds = val 4294967296 ds := rfl; omega) hb, hes]; rfl
 refine Wn <| aV J <| aC <| Rg 1 J <| Ua J J <| Wn <| aC <| aC <| Rg 3 J <| Um J J <| aA (aX J J) J <| Um J J <| Wn <| aG <| aY (α := Nat × Nat) (fun ⟨i, m⟩ => [(0, .v (.int .i64 s)), (1, .sl 1 (es.map d32)), (4, .ptr 0 0), (5, .v (.int .u64 (m : Int))), (13, .sl 1 (es.map d32)), (14, .v (.int .i64 (es.length : Int))), (15, .v (.int .i64 (i : Int)))]) (fun ⟨i, m⟩ => [(0, { cells := [.v (.int .i64 0), .sl 0 []], sz := 2, elem := 112, st := 0 })]) (fun ⟨i, m⟩ n => i ≤ es.length ∧ m = val B32 (es.take i)) (fun ⟨i, m⟩ => es.length - i) (0, 0) ⟨J, J, J, J, J, J, J, trivial⟩ ⟨J, trivial⟩ ⟨Nat.zero_le _, by simp [val]⟩ ?_
 rintro ⟨i, m⟩ n hF
 change WC _ _ _ _ _ (_ :: _) (_ :: _) n _
 obtain ⟨hi, hm⟩ := hF
 refine Rg 1 J <| aA (bS J J) J <| aW (fun h16 => ?_) (fun h16 => ?_)
 ·refine Wn <| aV J <| aF <| aG <| Rg 5 J <| Um J J <| aA (bY J J J J J om J) J <| aA (dQ J J J) J <| Ua J J <| Ua J J <| cM ?_
  have hxl : es.getD i default < 4294967296 := bO htd om
  have hml : m < 4294967296 ^ i := by
   have := fC (B := 4294967296) (by decide) (htd.take i)
   rw [List.length_take, Nat.min_eq_left hi] at this
   rw [hm]; exact this
  refine aI (z := 8) J <| Um J J <| Um J J <| aA (cI (((es.getD i default : Nat) : Int)) (bX J J J) (by rw [IntKind.wrap_u64]; omega)) J <| Um J J <| aA (cI (((32 * i : Nat) : Int)) (lP J J om) om) J <| aA (cI (((es.getD i default * 4294967296 ^ i : Nat) : Int)) (oShlU (s := 32 * i) J J om) (shl_dig om hxl)) J <| aA (eW (v := .int .u64 ((m + 4294967296 ^ i * es.getD i default : Nat) : Int)) J J (or_dig om hxl hml)) J <| Ua J J <| Wn <| aD <| Ck [0,1,4,5,13,14,15] J <| aI (z := 2) J <| aA (cI (((i + 1 : Nat) : Int)) (aQ J J om) om) J <| Um J J <| Wn <| aH <| ⟨⟨i + 1, _⟩, ⟨J, J, J, J, J, J, J, trivial⟩, ⟨J, trivial⟩, ⟨om, ?_⟩, by show es.length - (i + 1) < es.length - i; omega⟩
  rw [cL, hm]
 refine Wn <| aR J <| aT <| aP <| aN J <| aC <| Rg 2 J <| Um J J <| aA (bS J J) J <| aW (fun h29 => ?_) (fun h29 => ?_)
 rotate_left
 ·refine Wn <| aR J <| aF <| Rg 4 J <| Um J J <| Um J J <| aA (mJ (cs := [_, _]) J J J J J) J <| bB (dH (cs' := [_, _]) J J J J J J J J) <| Wn <| aK ?_
  have hE : m = val B32 ds := by
   rw [hm, List.take_of_length_le om, ← hes, qX]
  refine post (n := 0) (.inr J) J ?_ (by simp)
  rw [lvI_made hd om (by show 4611686018427387904 ≤ val B32 ds; omega), hes]; rfl
 refine Wn <| aV J <| aC <| Rg 6 J <| Um J J <| Um J J <| aA (cI ((m : Int)) (bX J J J) (by rw [IntWalk.i64_in _ om])) J <| aA (lP J J (by rcases hs with rfl | rfl | ⟨rfl, _⟩ <;> omega)) J <| aA (mJ (cs := [_, _]) J J J J J) J <| bB (dH (cs' := [_, _]) J J J J J J J J) <| Nk [4] J <| bM ?_
 have hE : m = val B32 ds := by
  rw [hm, List.take_of_length_le om, ← hes, qX]
 refine post (n := 0) (.inr J) J ?_ (by simp)
 rw [iQ (by unfold small; rw [← hE]; rcases hs with rfl | rfl | ⟨rfl, _⟩ <;> omega), ← hE]; rfl
end Go.Proofs.Ytcblgjaomljikaa
namespace Go.Proofs.Ytcblgjaomljikaa
open Go.Ab Go.RowKit
theorem ia0 {v : Int} (h : v.sign = 0) : v = 0 := Int.sign_eq_zero_iff_zero.1 h
theorem add_run (v w : Int) (hv : len32 v < 1099511627775) (hw : len32 w < 1099511627775) : Run Try.prog T E0 (.call 67 [lvI v, lvI w] (lvI (v + w))) := by
 have bv := oH v
 have bw := oH w
 have ev := fS v
 have ew := fS w
 have dv := gP (B := B32) (by decide) v.natAbs
 have dw := gP (B := B32) (by decide) w.natAbs
 have qv := jX (B := B32) (by decide) v.natAbs
 have qw := jX (B := B32) (by decide) w.natAbs
 have tv := dgs_tr (B := B32) (by decide) v.natAbs
 have tw := dgs_tr (B := B32) (by decide) w.natAbs
 have lv : (dgs B32 v.natAbs).length < 1099511627775 := hv
 have lw : (dgs B32 w.natAbs).length < 1099511627775 := hw
 refine bC Try.func67 J J (cW J) <| Rg 3 J <| bL (kE J J) J <| bL (kE J J) J <| bL (gM J) J <| Wn <| aC <| Rg 8 J <| aA (cO J J J J J) J <| aA (bF J J J J J) J <| aA (kG J J) J <| dM (fun h11 => ?_) (fun h11 => ?_)
 rotate_left
 ·refine Um J J <| K1 J J <| K1 J J <| K1 J J <| aA (cD J J) J <| Wn <| aR J <| aF <| Rg 7 J <| aA (bF (l := .agg [_, _]) J J J J J) J <| aA (aE J (eI _) (by simp)) J <| Um J J <| aA (bU J J) J <| aA (bU J J) J <| Ua J J <| Ua J J <| Nk [2,3,4,5,6] J <| Rg 7 J <| aA (bF (l := .agg [_, _]) J J J J J) J <| aA (aE J (eI _) (by simp)) J <| Um J J <| aA (bU J J) J <| aA (bU J J) J ?_
  refine Ua J J <| Ua J J <| Wn <| aG <| Rg 3 J <| Um J J <| aA (fR J J) J <| aW (fun h35 => ?_) (fun h35 => ?_)
  ·refine Ua J J <| Nk [2,3,4,5,6,7,8,33] J <| bI J <| Rg 2 J <| aA (bF (l := .agg [_, _]) J J J J J) J <| bB (dH (cs' := [_, _]) J J J J J J J J) <| Wn <| aK <| aO <| post (n := 0) (.inr J) J ?_ (by simp)
   rw [ia0 h35, Int.zero_add]; rfl
  refine Ua J J <| Nk [2,3,4,5,6,7,8,33] J <| bH J <| Rg 3 J <| Um J J <| aA (fR J J) J <| aW (fun h39 => ?_) (fun h39 => ?_)
  ·refine Ua J J <| Wn <| bI J <| Rg 2 J <| aA (bF (l := .agg [_, _]) J J J J J) J <| bB (dH (cs' := [_, _]) J J J J J J J J) <| Wn <| aK <| aO <| post (n := 0) (.inr J) J ?_ (by simp)
   rw [ia0 h39, Int.add_zero]; rfl
  refine Ua J J <| Wn <| bH J <| Rg 4 J <| Um J J <| Um J J <| aA (fR J J) J <| aW (fun h44 => ?_) (fun h44 => ?_)
  ·refine Ua J J <| Nk [4,5,6,7,8,41] J <| bI J ?_
   have hsv : v.sign = 1 ∨ v.sign = -1 := by rcases Int.sign_trichotomy v with h | h | h <;> omega
   obtain ⟨r, hr, ds, rfl, hdd, hvl, hln⟩ := plus_run 1 1 _ _ qv qw om om
   refine Rg 6 J <| Um J J <| Um J J <| Um J J <| aA (aE J (hr) (by simp)) J <| aA (aE J (eJ v.sign 1 ds om (.inl J) hdd om) (by simp)) J <| bB (dH (cs' := [_, _]) J J J J J J J J) <| Wn <| aK <| aO <| post (n := 0) (.inr J) J ?_ (by simp)
   have : v.sign * (val B32 ds : Int) = v + w := by
    rw [hvl, dv, dw]; rcases hsv with h | h <;> rw [h] at ev h44 ⊢ <;> rw [← h44] at ew <;> omega
   rw [this]; rfl
  refine Ua J J <| Nk [4,5,6,7,8,41] J <| bH J <| Rg 5 J <| Um J J <| Um J J <| aA (aE J (jV 1 1 _ _ qv qw tv tw om om) (by simp)) J <| aA (lG J J) J <| aW (fun h54 => ?_) (fun h54 => ?_)
  ·refine Ua J J <| Wn <| bI J ?_
   have hsv : v.sign = 1 ∨ v.sign = -1 := by rcases Int.sign_trichotomy v with h | h | h <;> omega
   have hge : val B32 (dgs B32 w.natAbs) ≤ val B32 (dgs B32 v.natAbs) := by
    rcases Nat.lt_or_ge (val B32 (dgs B32 v.natAbs)) (val B32 (dgs B32 w.natAbs)) with h | h
    ·rw [Int.sign_eq_neg_one_of_neg om] at h54; omega
    ·exact h
   have hll : (dgs B32 w.natAbs).length ≤ (dgs B32 v.natAbs).length := by
    rcases Nat.lt_or_ge (dgs B32 v.natAbs).length (dgs B32 w.natAbs).length with h | h
    ·have := fD (by decide) qv tw h; omega
    ·exact h
   obtain ⟨r, hr, ds, rfl, hdd, hvl, hln⟩ := kV 1 1 _ _ qv qw om hll hge
   refine Rg 6 J <| Um J J <| Um J J <| Um J J <| aA (aE J (hr) (by simp)) J <| aA (aE J (eJ v.sign 1 ds om (.inl J) hdd om) (by simp)) J <| bB (dH (cs' := [_, _]) J J J J J J J J) <| Nk [4] J <| aK <| aO <| post (n := 0) (.inr J) J ?_ (by simp)
   have : v.sign * (val B32 ds : Int) = v + w := by
    rw [hvl, dv, dw] at *; rcases hsv with h | h <;> rw [h] at ev h44 ⊢ <;> rcases (show w.sign = 1 ∨ w.sign = -1 by rcases Int.sign_trichotomy w with h | h | h <;> omega) with k | k <;> rw [k] at ew h44 <;> omega
   rw [this]; rfl
  refine Ua J J <| Wn <| bH J <| bJ <| aD ?_
  have hsv : w.sign = 1 ∨ w.sign = -1 := by rcases Int.sign_trichotomy w with h | h | h <;> omega
  have hge : val B32 (dgs B32 v.natAbs) ≤ val B32 (dgs B32 w.natAbs) := by
   rcases Nat.lt_or_ge (val B32 (dgs B32 w.natAbs)) (val B32 (dgs B32 v.natAbs)) with h | h
   ·rw [Int.sign_eq_one_of_pos om] at h54; omega
   ·exact h
  have hll : (dgs B32 v.natAbs).length ≤ (dgs B32 w.natAbs).length := by
   rcases Nat.lt_or_ge (dgs B32 w.natAbs).length (dgs B32 v.natAbs).length with h | h
   ·have := fD (by decide) qw tv h; omega
   ·exact h
  obtain ⟨r, hr, ds, rfl, hdd, hvl, hln⟩ := kV 1 1 _ _ qw qv om hll hge
  refine Rg 6 J <| Um J J <| Um J J <| Um J J <| aA (aE J (hr) (by simp)) J <| aA (aE J (eJ w.sign 1 ds om (.inl J) hdd om) (by simp)) J <| bB (dH (cs' := [_, _]) J J J J J J J J) <| Nk [4] J <| aK <| post (n := 0) (.inr J) J ?_ (by simp)
  have : w.sign * (val B32 ds : Int) = v + w := by
   rw [hvl, dv, dw] at *; rcases hsv with h | h <;> rw [h] at ew h44 ⊢ <;> rcases (show v.sign = 1 ∨ v.sign = -1 by rcases Int.sign_trichotomy v with h | h | h <;> omega) with k | k <;> rw [k] at ev h44 <;> omega
  rw [this]; rfl
 refine Um J J <| aJ J (cO J J J J J) J <| aJ J (bF J J J J J) J <| aJ J (kG J J) J <| dM (fun h15 => ?_) (fun h15 => ?_)
 ·refine aA (cG J J) J <| Wn <| aV J <| aC <| Rg 7 J <| aA (cO J J J J J) J <| aA (bF J J J J J) J <| aA (cO J J J J J) J <| aA (bF J J J J J) J <| aA (aQ J J om) J <| aA (aE J (nR _ om) (by simp)) J <| bB (dH (cs' := [_, _]) J J J J J J J J) <| Nk [4] J <| bM <| post (n := 0) (.inr J) J ?_ (by simp)
  rw [dC (oI.1 h11), dC (oI.1 h15)]; rfl
 refine aA (cG J J) J <| Wn <| aR J <| aF <| Rg 7 J <| aA (bF (l := .agg [_, _]) J J J J J) J <| aA (aE J (eI _) (by simp)) J <| Um J J <| aA (bU J J) J <| aA (bU J J) J <| Ua J J <| Ua J J <| Nk [2,3,4,5,6] J <| Rg 7 J <| aA (bF (l := .agg [_, _]) J J J J J) J <| aA (aE J (eI _) (by simp)) J <| Um J J <| aA (bU J J) J <| aA (bU J J) J <| Ua J J <| Ua J J <| Wn <| aG ?_
 refine Rg 3 J <| Um J J <| aA (fR J J) J <| aW (fun h35 => ?_) (fun h35 => ?_)
 ·refine Ua J J <| Nk [2,3,4,5,6,7,8,33] J <| bI J <| Rg 2 J <| aA (bF (l := .agg [_, _]) J J J J J) J <| bB (dH (cs' := [_, _]) J J J J J J J J) <| Wn <| aK <| aO <| post (n := 0) (.inr J) J ?_ (by simp)
  rw [ia0 h35, Int.zero_add]; rfl
 refine Ua J J <| Nk [2,3,4,5,6,7,8,33] J <| bH J <| Rg 3 J <| Um J J <| aA (fR J J) J <| aW (fun h39 => ?_) (fun h39 => ?_)
 ·refine Ua J J <| Wn <| bI J <| Rg 2 J <| aA (bF (l := .agg [_, _]) J J J J J) J <| bB (dH (cs' := [_, _]) J J J J J J J J) <| Wn <| aK <| aO <| post (n := 0) (.inr J) J ?_ (by simp)
  rw [ia0 h39, Int.add_zero]; rfl
 refine Ua J J <| Wn <| bH J <| Rg 4 J <| Um J J <| Um J J <| aA (fR J J) J <| aW (fun h44 => ?_) (fun h44 => ?_)
 ·refine Ua J J <| Nk [4,5,6,7,8,41] J <| bI J ?_
  have hsv : v.sign = 1 ∨ v.sign = -1 := by rcases Int.sign_trichotomy v with h | h | h <;> omega
  obtain ⟨r, hr, ds, rfl, hdd, hvl, hln⟩ := plus_run 1 1 _ _ qv qw om om
  refine Rg 6 J <| Um J J <| Um J J <| Um J J <| aA (aE J (hr) (by simp)) J <| aA (aE J (eJ v.sign 1 ds om (.inl J) hdd om) (by simp)) J <| bB (dH (cs' := [_, _]) J J J J J J J J) <| Wn <| aK <| aO <| post (n := 0) (.inr J) J ?_ (by simp)
  have : v.sign * (val B32 ds : Int) = v + w := by
   rw [hvl, dv, dw]; rcases hsv with h | h <;> rw [h] at ev h44 ⊢ <;> rw [← h44] at ew <;> omega
  rw [this]; rfl
 refine Ua J J <| Nk [4,5,6,7,8,41] J <| bH J <| Rg 5 J <| Um J J <| Um J J <| aA (aE J (jV 1 1 _ _ qv qw tv tw om om) (by simp)) J <| aA (lG J J) J <| aW (fun h54 => ?_) (fun h54 => ?_)
 ·refine Ua J J <| Wn <| bI J ?_
  have hsv : v.sign = 1 ∨ v.sign = -1 := by rcases Int.sign_trichotomy v with h | h | h <;> omega
  have hge : val B32 (dgs B32 w.natAbs) ≤ val B32 (dgs B32 v.natAbs) := by
   rcases Nat.lt_or_ge (val B32 (dgs B32 v.natAbs)) (val B32 (dgs B32 w.natAbs)) with h | h
   ·rw [Int.sign_eq_neg_one_of_neg om] at h54; omega
   ·exact h
  have hll : (dgs B32 w.natAbs).length ≤ (dgs B32 v.natAbs).length := by
   rcases Nat.lt_or_ge (dgs B32 v.natAbs).length (dgs B32 w.natAbs).length with h | h
   ·have := fD (by decide) qv tw h; omega
   ·exact h
  obtain ⟨r, hr, ds, rfl, hdd, hvl, hln⟩ := kV 1 1 _ _ qv qw om hll hge
  refine Rg 6 J <| Um J J <| Um J J <| Um J J <| aA (aE J (hr) (by simp)) J <| aA (aE J (eJ v.sign 1 ds om (.inl J) hdd om) (by simp)) J <| bB (dH (cs' := [_, _]) J J J J J J J J) <| Nk [4] J <| aK <| aO <| post (n := 0) (.inr J) J ?_ (by simp)
  have : v.sign * (val B32 ds : Int) = v + w := by
   rw [hvl, dv, dw] at *; rcases hsv with h | h <;> rw [h] at ev h44 ⊢ <;> rcases (show w.sign = 1 ∨ w.sign = -1 by rcases Int.sign_trichotomy w with h | h | h <;> omega) with k | k <;> rw [k] at ew h44 <;> omega
  rw [this]; rfl
 refine Ua J J <| Wn <| bH J <| bJ <| aD ?_
 have hsv : w.sign = 1 ∨ w.sign = -1 := by rcases Int.sign_trichotomy w with h | h | h <;> omega
 have hge : val B32 (dgs B32 v.natAbs) ≤ val B32 (dgs B32 w.natAbs) := by
  rcases Nat.lt_or_ge (val B32 (dgs B32 w.natAbs)) (val B32 (dgs B32 v.natAbs)) with h | h
  ·rw [Int.sign_eq_one_of_pos om] at h54; omega
  ·exact h
 have hll : (dgs B32 v.natAbs).length ≤ (dgs B32 w.natAbs).length := by
  rcases Nat.lt_or_ge (dgs B32 w.natAbs).length (dgs B32 v.natAbs).length with h | h
  ·have := fD (by decide) qw tv h; omega
  ·exact h
 obtain ⟨r, hr, ds, rfl, hdd, hvl, hln⟩ := kV 1 1 _ _ qw qv om hll hge
 refine Rg 6 J <| Um J J <| Um J J <| Um J J <| aA (aE J (hr) (by simp)) J <| aA (aE J (eJ w.sign 1 ds om (.inl J) hdd om) (by simp)) J <| bB (dH (cs' := [_, _]) J J J J J J J J) <| Nk [4] J <| aK <| post (n := 0) (.inr J) J ?_ (by simp)
 have : w.sign * (val B32 ds : Int) = v + w := by
  rw [hvl, dv, dw] at *; rcases hsv with h | h <;> rw [h] at ew h44 ⊢ <;> rcases (show v.sign = 1 ∨ v.sign = -1 by rcases Int.sign_trichotomy v with h | h | h <;> omega) with k | k <;> rw [k] at ev h44 <;> omega
 rw [this]; rfl
end Go.Proofs.Ytcblgjaomljikaa
namespace Go.Proofs.Ytcblgjaomljikaa
open Go.Ab Go.RowKit
theorem mul64_run (x y : Nat) (hx : x < 18446744073709551616) (hy : y < 18446744073709551616) : Run Try.prog T E0 (.call 144 [.v (.int .u64 (x : Int)), .v (.int .u64 (y : Int))] (.tup [.v (.int .u64 ((x * y / 18446744073709551616 : Nat) : Int)), .v (.int .u64 ((x * y % 18446744073709551616 : Nat) : Int))])) := by
 obtain ⟨p00, h00⟩ : ∃ p, p = (x % 4294967296) * (y % 4294967296) := ⟨_, rfl⟩
 obtain ⟨p10, h10⟩ : ∃ p, p = (x / 4294967296) * (y % 4294967296) := ⟨_, rfl⟩
 obtain ⟨p01, h01⟩ : ∃ p, p = (x % 4294967296) * (y / 4294967296) := ⟨_, rfl⟩
 obtain ⟨p11, h11⟩ : ∃ p, p = (x / 4294967296) * (y / 4294967296) := ⟨_, rfl⟩
 have b00 := gQ (a := x % 4294967296) (b := y % 4294967296) om om
 have b10 := gQ (a := x / 4294967296) (b := y % 4294967296) om om
 have b01 := gQ (a := x % 4294967296) (b := y / 4294967296) om om
 have b11 := gQ (a := x / 4294967296) (b := y / 4294967296) om om
 have hxy := mul_words h00 h10 h01 h11
 rw [← h00] at b00
 rw [← h10] at b10
 rw [← h01] at b01
 rw [← h11] at b11
 refine bC Try.func144 J J (cW J) <| Rg 2 J <| Ua J J <| Ua J J <| Wn <| Rg 3 J <| Um J J <| aA (eW (v := .int .u64 ((x % 4294967296 : Nat) : Int)) J J (mask32 hx)) J <| Ua J J <| Wn <| Rg 3 J <| Um J J <| aA (cI (((x / 4294967296 : Nat) : Int)) (eB (s := 32) J J om) om) J <| Ua J J <| Wn <| Rg 3 J <| Um J J <| aA (eW (v := .int .u64 ((y % 4294967296 : Nat) : Int)) J J (mask32 hy)) J <| Ua J J <| Wn <| Rg 3 J <| Um J J <| aA (cI (((y / 4294967296 : Nat) : Int)) (eB (s := 32) J J om) om) J <| Ua J J ?_
 refine Nk [0,1,6,7,8,9] J <| Rg 4 J <| Um J J <| Um J J <| aA (cI ((p00 : Int)) (lJ J J) (by rw [← Int.natCast_mul, ← h00]; omega)) J <| Ua J J <| Wn <| Rg 7 J <| Um J J <| Um J J <| aA (cI ((p10 : Int)) (lJ J J) (by rw [← Int.natCast_mul, ← h10]; omega)) J <| Um J J <| aA (cI (((p00 / 4294967296 : Nat) : Int)) (eB (s := 32) J J om) om) J <| aA (cI (((p10 + p00 / 4294967296 : Nat) : Int)) (iT J J) om) J <| Ua J J <| Nk [0,1,6,7,9,11] J <| Rg 3 J <| Um J J <| aA (eW (v := .int .u64 (((p10 + p00 / 4294967296) % 4294967296 : Nat) : Int)) J J (mask32 om)) J <| Ua J J <| Wn <| Rg 3 J ?_
 refine Um J J <| aA (cI ((((p10 + p00 / 4294967296) / 4294967296 : Nat) : Int)) (eB (s := 32) J J om) om) J <| Ua J J <| Wn <| Rg 6 J <| Um J J <| Um J J <| Um J J <| aA (cI ((p01 : Int)) (lJ J J) (by rw [← Int.natCast_mul, ← h01]; omega)) J <| aA (cI ((((p10 + p00 / 4294967296) % 4294967296 + p01 : Nat) : Int)) (iT J J) om) J <| Ua J J <| Nk [0,1,7,9,12,13] J <| Rg 9 J <| Um J J <| Um J J <| aA (cI ((p11 : Int)) (lJ J J) (by rw [← Int.natCast_mul, ← h11]; omega)) J <| Um J J <| aA (cI (((p11 + (p10 + p00 / 4294967296) / 4294967296 : Nat) : Int)) (iT J J) om) J <| Um J J <| aA (cI (((((p10 + p00 / 4294967296) % 4294967296 + p01) / 4294967296 : Nat) : Int)) (eB (s := 32) J J om) om) J <| aA (cI (((x * y / 18446744073709551616 : Nat) : Int)) (iT J J) (by rw [hxy]; omega)) J <| Ua J J <| cM ?_
 refine Ck [0,1,4] J <| Rg 4 J <| Um J J <| Um J J <| aA (cI (((x * y % 18446744073709551616 : Nat) : Int)) (lJ J J) (by rw [← Int.natCast_mul]; rfl)) J <| Ua J J <| Wn <| aK ?_
 exact post (n := 0) (.inr J) J J (by simp)
theorem eV (v w : Int) (hv : len32 v < 549755813888) (hw : len32 w < 549755813888) : Run Try.prog T E0 (.call 68 [lvI v, lvI w] (lvI (v * w))) := by
 have bv := oH v
 have bw := oH w
 have ev := fS v
 have ew := fS w
 have evw : v * w = v.sign * w.sign * ((v.natAbs * w.natAbs : Nat) : Int) := by
  rw [Int.natCast_mul]; grind
 obtain ⟨σ, hσ⟩ : ∃ σ, σ = v.sign * w.sign := ⟨_, rfl⟩
 have hs3 : σ = 1 ∨ σ = -1 ∨ σ = 0 ∧ v.natAbs * w.natAbs = 0 := by
  rcases Int.sign_trichotomy v with h | h | h <;> rcases Int.sign_trichotomy w with k | k | k <;> rw [h, k] at hσ <;> simp at hσ <;> first | exact .inl hσ | exact .inr (.inl hσ) | skip
  all_goals (refine .inr (.inr ⟨hσ, ?_⟩); first | (rw [ia0 h]; simp; done) | (rw [ia0 k]; simp))
 rw [← hσ] at evw
 obtain ⟨xs, hxs⟩ : ∃ xs, xs = dgs B32 v.natAbs := ⟨_, rfl⟩
 obtain ⟨ys, hys⟩ : ∃ ys, ys = dgs B32 w.natAbs := ⟨_, rfl⟩
 have dv : val B32 xs = v.natAbs := by rw [hxs]; exact gP (by decide) _
 have dw : val B32 ys = w.natAbs := by rw [hys]; exact gP (by decide) _
 have qv : Dg B32 xs := by rw [hxs]; exact jX (by decide) _
 have qw : Dg B32 ys := by rw [hys]; exact jX (by decide) _
 have lv : xs.length < 549755813888 := by rw [hxs]; exact hv
 have lw : ys.length < 549755813888 := by rw [hys]; exact hw
 refine bC Try.func68 J J (cW J) ?_
 have J5 : ∀  (n : Nat) (hn : 3 ≤ n), WC Try.prog T E0 Try.f68.ntmps (codeR (codeR (codeOf Try.f68))) [(2, .ptr 0 0), (3, .ptr 1 0), (4, .ptr 2 0)] [(2, { cells := [.v (.int .i64 0), .sl 0 []], sz := 2, elem := 112, st := 0 }), (1, { cells := (lvI w).cells, sz := (lvI w).cells.length, elem := 112, st := 0 }), (0, { cells := (lvI v).cells, sz := (lvI v).cells.length, elem := 112, st := 0 })] n (Post T Try.f68.results.toList (lvI (v * w))) := by
  intro  n hn
  refine Rg 7 J <| aA (bF (l := .agg [_, _]) J J J J J) J <| aA (aE J ((hxs ▸ eI v)) (by simp)) J <| Um J J <| aA (bU J J) J <| aA (bU J J) J <| Ua J J <| Ua J J <| Wn <| Rg 7 J <| aA (bF (l := .agg [_, _]) J J J J J) J <| aA (aE J ((hys ▸ eI w)) (by simp)) J <| Um J J <| aA (bU J J) J <| aA (bU J J) J <| Ua J J <| Ua J J <| Nk [4,7,8,9,10] J <| Rg 7 J <| Um J J <| aA (aX J J) J <| Um J J <| aA (aX J J) J ?_
  refine aA (aQ J J om) J <| bL (oMk (a := xs.length + ys.length) (b := xs.length + ys.length) J J J J om om (by decide) om (by show 4 * (xs.length + ys.length) ≤ _; omega) om) J <| Ua J J <| Wn <| aC <| Rg 3 J <| Um J J <| aA (aX J J) J <| Um J J <| Nk [4,7,9,10,11,74,75,76] J <| aG <| aY (α := Nat × Nat × (List Nat)) (fun ⟨i, q, us⟩ => [(4, .ptr 2 0), (7, .v (.int .i64 v.sign)), (9, .v (.int .i64 w.sign)), (10, .sl 1 (ys.map d32)), (11, .ref q 1 0 us.length), (74, .sl 1 (xs.map d32)), (75, .v (.int .i64 (xs.length : Int))), (76, .v (.int .i64 (i : Int)))]) (fun ⟨i, q, us⟩ => [(q, { cells := (us.map d32).flatten, sz := 1, elem := 189, st := 0 }), (2, { cells := [.v (.int .i64 0), .sl 0 []], sz := 2, elem := 112, st := 0 })]) (fun ⟨i, q, us⟩ n => i ≤ xs.length ∧ us.length = xs.length + ys.length ∧ Dg B32 us ∧ val B32 us = val B32 (xs.take i) * val B32 ys ∧ (∀ j, i + ys.length ≤ j → us.getD j default = 0) ∧ 2 < q) (fun ⟨i, q, us⟩ => xs.length - i) (0, n + 7 + 7 + 5, List.replicate (xs.length + ys.length) 0) ⟨rfl, rfl, rfl, rfl, congrArg some (by rw [List.length_replicate]; rfl), rfl, rfl, rfl, trivial⟩ ⟨g0.trans (by rw [List.map_replicate]; rfl), g1 om J, trivial⟩ ⟨Nat.zero_le _, by simp, by intro d hd; simp at hd; rw [hd.2]; decide, by rw [nY]; simp [val], by intro j _; exact jG _ _, om⟩ ?_
  rintro ⟨i, q, us⟩ n hF
  change WC _ _ _ _ _ (_ :: _) (_ :: _) n _
  obtain ⟨hi, hul, hud, huv, huz, hq⟩ := hF
  refine Rg 1 J <| aA (bS J J) J <| aW (fun h77 => ?_) (fun h77 => ?_)
  rotate_left
  ·refine Wn <| aR J <| aT <| aP <| aN J ?_
   have hE : val B32 us = v.natAbs * w.natAbs := by
    rw [huv, List.take_of_length_le om, dv, dw]
   refine Rg 6 J <| Um J J <| Um J J <| aA (cI σ (lP J J (by rw [← hσ]; omega)) hσ.symm) J <| Um J J <| bL (hH [.v (.int .i64 σ), .sl 1 (us.map d32)] [(q, { cells := (us.map d32).flatten, sz := 1, elem := 189, st := 1 })] J (eJ σ 1 us (by rw [hE]; exact hs3) (.inl J) hud om) (.data (by simp) (.own _ (by simp) g0 (by show (0 : Nat) ≠ 2; decide) J (by decide) (by simp [keys]) J gJ dL .nil)) (by intro p hp; simp at hp; subst hp; exact ⟨_, g0, by show (0 : Nat) ≠ 2; decide, rfl⟩)) J <| bB (dH (cs' := [_, _]) J J J (g1 om (g1 om J)) J J J J) <| Wn <| aK <| post (n := 0) (.inr J) J ?_ (by simp)
   rw [evw, ← hE]; rfl
  refine Wn <| aV J <| aF <| aG <| Rg 5 J <| Um J J <| aA (bY J J J J J om J) J <| aA (dQ J J J) J <| Ua J J <| Ua J J <| Wn <| Rg 1 J <| Ua J J <| Nk [4,7,9,10,11,12,13,14,74,75,76] J <| aC <| Rg 3 J <| Um J J <| aA (aX J J) J <| Um J J <| Wn <| aG <| aY (α := Nat × Nat × (List Nat)) (fun ⟨k, c, us1⟩ => [(4, .ptr 2 0), (7, .v (.int .i64 v.sign)), (9, .v (.int .i64 w.sign)), (10, .sl 1 (ys.map d32)), (11, .ref q 1 0 us1.length), (12, .v (.int .i64 (i : Int))), (13, .v (.int .u32 (xs.getD i default : Int))), (14, .v (.int .u64 (c : Int))), (74, .sl 1 (xs.map d32)), (75, .v (.int .i64 (xs.length : Int))), (76, .v (.int .i64 (i : Int))), (81, .sl 1 (ys.map d32)), (82, .v (.int .i64 (ys.length : Int))), (83, .v (.int .i64 (k : Int)))]) (fun ⟨k, c, us1⟩ => [(q, { cells := (us1.map d32).flatten, sz := 1, elem := 189, st := 0 }), (2, { cells := [.v (.int .i64 0), .sl 0 []], sz := 2, elem := 112, st := 0 })]) (fun ⟨k, c, us1⟩ n => k ≤ ys.length ∧ us1.length = us.length ∧ Dg B32 us1 ∧ c < 4294967296 ∧ val B32 us1 + B32 ^ (i + k) * c = val B32 us + B32 ^ i * (xs.getD i default * val B32 (ys.take k)) ∧ (∀ j, i + k ≤ j → us1.getD j default = us.getD j default)) (fun ⟨k, c, us1⟩ => ys.length - k) (0, 0, us) ⟨J, J, J, J, J, J, J, J, J, J, J, J, J, J, trivial⟩ ⟨g0, g1 om J, trivial⟩ ⟨Nat.zero_le _, rfl, hud, by decide, by simp [val], fun _ _ => rfl⟩ ?_
  rintro ⟨k, c, us1⟩ n hG
  change WC _ _ _ _ _ (_ :: _) (_ :: _) n _
  obtain ⟨hk, hl1, hd1, hc1, hv1, hz1⟩ := hG
  refine Rg 1 J <| aA (bS J J) J <| aW (fun h84 => ?_) (fun h84 => ?_)
  rotate_left
  ·refine Nk [4,7,9,10,11,12,13,14,74,75,76,81,82,83,84] J <| aR J <| aT <| aP <| aN J <| Ck [4,7,9,10,11,12,14,74,75,76] J <| aI (z := 9) J <| Um J J <| Um J J <| Um J J <| aA (aX J J) J <| aA (cI (((i + ys.length : Nat) : Int)) (aQ J J om) om) J <| Um J J <| aA (cI ((c : Int)) (bX J J J) (by rw [IntKind.wrap_u32]; omega)) J <| aA (cC J J J J J om J) J <| bB (eA (f := d32) (us := us1) c J J J g0 (fun _ => rfl) J J om J) <| Wn <| aD <| Ck [4,7,9,10,11,74,75,76] J <| aI (z := 2) J <| aA (cI (((i + 1 : Nat) : Int)) (aQ J J om) om) J <| Um J J <| cM ?_
   refine aH <| ⟨⟨i + 1, q, us1.set (i + ys.length) c⟩, ⟨rfl, rfl, rfl, rfl, congrArg some (by rw [List.length_set]), rfl, rfl, rfl, trivial⟩, ⟨g0, g1 om (g1 om J), trivial⟩, ⟨om, by rw [List.length_set]; omega, hd1.set _ hc1, ?_, ?_, hq⟩, by show xs.length - (i + 1) < xs.length - i; omega⟩
   ·have hk' : k = ys.length := by omega
    subst hk'
    have h1 := gD (B := B32) us1 (i + ys.length) c om
    rw [hz1 _ (Nat.le_refl _), huz _ (Nat.le_refl _), Nat.mul_zero, Nat.add_zero] at h1
    rw [h1, hv1, huv, cL, List.take_of_length_le (Nat.le_refl _), Nat.add_mul, Nat.mul_assoc]
   ·intro j hj
    rw [gR om, hz1 j om]; exact huz j om
  refine Nk [4,7,9,10,11,12,13,14,74,75,76,81,82,83,84] J <| aV J <| aF <| aG <| Rg 5 J <| Um J J <| aA (bY J J J J J om J) J <| aA (dQ J J J) J <| Ua J J <| Ua J J <| Nk [4,7,9,10,11,12,13,14,15,16,74,75,76,81,82,83] J ?_
  have hp : xs.getD i default < 4294967296 := bO qv om
  have hqk : ys.getD k default < 4294967296 := bO qw om
  have ho : us1.getD (i + k) default < 4294967296 := bO hd1 om
  have hpq := gQ hp hqk
  refine Rg 16 J <| Um J J <| Um J J <| aA (cI ((xs.getD i default : Int)) (bX J J J) (by rw [IntKind.wrap_u64]; omega)) J <| Um J J <| aA (cI ((ys.getD k default : Int)) (bX J J J) (by rw [IntKind.wrap_u64]; omega)) J <| aA (cI (((xs.getD i default * ys.getD k default : Nat) : Int)) (lJ J J) (by rw [← Int.natCast_mul]; omega)) J <| Um J J <| Um J J <| Um J J <| aA (cI (((i + k : Nat) : Int)) (aQ J J om) om) J <| aA (cC J J J J J om J) J <| aA (dZ (f := d32) (us := us1) (j := i + k) J J g0 (fun _ => rfl) J (by decide) om J) J <| aA (cI ((us1.getD (i + k) default : Int)) (bX J J J) (by rw [IntKind.wrap_u64]; omega)) J <| aA (cI (((xs.getD i default * ys.getD k default + us1.getD (i + k) default : Nat) : Int)) (iT J J) om) J <| aA (cI ((((c + (xs.getD i default * ys.getD k default + us1.getD (i + k) default)) : Nat) : Int)) (iT J J) om) J <| Ua J J <| Nk [4,7,9,10,11,12,13,14,15,74,75,76,81,82,83] J <| Rg 8 J <| Um J J <| Um J J <| Um J J <| aA (cI (((i + k : Nat) : Int)) (aQ J J om) om) J ?_
  refine Um J J <| aA (cI ((((c + (xs.getD i default * ys.getD k default + us1.getD (i + k) default)) % 4294967296 : Nat) : Int)) (bX J J J) (by rw [IntKind.wrap_u32]; omega)) J <| aA (cC J J J J J om J) J <| bB (eA (f := d32) (us := us1) ((c + (xs.getD i default * ys.getD k default + us1.getD (i + k) default)) % 4294967296) J J J g0 (fun _ => rfl) J J om J) <| Nk [4,7,9,10,11,12,13,14,74,75,76,81,82,83] J <| aI (z := 3) J <| Um J J <| aA (cI ((((c + (xs.getD i default * ys.getD k default + us1.getD (i + k) default)) / 4294967296 : Nat) : Int)) (eB (s := 32) J J om) om) J <| Ua J J <| Wn <| aD <| Ck [4,7,9,10,11,12,13,14,74,75,76,81,82,83] J <| aI (z := 2) J <| aA (cI (((k + 1 : Nat) : Int)) (aQ J J om) om) J <| Um J J <| Wn <| aH <| ⟨⟨k + 1, (c + (xs.getD i default * ys.getD k default + us1.getD (i + k) default)) / 4294967296, us1.set (i + k) ((c + (xs.getD i default * ys.getD k default + us1.getD (i + k) default)) % 4294967296)⟩, ⟨rfl, rfl, rfl, rfl, congrArg some (by rw [List.length_set]), rfl, rfl, rfl, rfl, rfl, rfl, rfl, rfl, rfl, trivial⟩, ⟨g0, g1 om (g1 om J), trivial⟩, ⟨om, by rw [List.length_set]; exact hl1, hd1.set _ (Nat.mod_lt _ (by decide)), om, mul_step hv1 om, ?_⟩, by show ys.length - (k + 1) < ys.length - k; omega⟩
  intro j hj
  rw [gR om]; exact hz1 j om
 refine Rg 3 J <| bL (kE J J) J <| bL (kE J J) J <| bL (gM J) J <| Wn <| aC <| Rg 8 J <| aA (cO J J J J J) J <| aA (bF J J J J J) J <| aA (kG J J) J <| dM (fun h19 => ?_) (fun h19 => ?_)
 rotate_left
 ·refine Um J J <| K1 J J <| K1 J J <| K1 J J <| aA (cD J J) J <| Wn <| aR J <| aF <| Ck [2,3,4] J ?_
  exact J5 _ om
 refine Um J J <| aJ J (cO J J J J J) J <| aJ J (bF J J J J J) J <| aJ J (kG J J) J <| dM (fun h23 => ?_) (fun h23 => ?_)
 rotate_left
 ·refine aA (cG J J) J <| Wn <| aR J <| aF <| Ck [2,3,4] J ?_
  exact J5 _ om
 refine aA (cG J J) J <| Wn <| aV J <| aC ?_
 have hia := dC (oI.1 h19)
 have hiw := dC (oI.1 h23)
 refine Rg 20 J <| aA (cO J J J J J) J <| aA (bF J J J J J) J <| aA (cO J J J J J) J <| aA (bF J J J J J) J <| aA (qM J om) J <| aA (cI (((v.natAbs : Nat) : Int)) (oMax J J) (by rw [hia]; split <;> omega)) J <| aA (cI (((v.natAbs : Nat) : Int)) (bX J J J) (by rw [IntKind.wrap_u64]; omega)) J <| aA (cO J J J J J) J <| aA (bF J J J J J) J <| aA (cO J J J J J) J <| aA (bF J J J J J) J <| aA (qM J om) J <| aA (cI (((w.natAbs : Nat) : Int)) (oMax J J) (by rw [hiw]; split <;> omega)) J <| aA (cI (((w.natAbs : Nat) : Int)) (bX J J J) (by rw [IntKind.wrap_u64]; omega)) J <| aA (aE J (mul64_run v.natAbs w.natAbs om om) (by simp)) J <| Um J J <| aA (bU J J) J <| aA (bU J J) J <| Ua J J <| Ua J J <| Nk [2,3,4,5,6] J <| aC ?_
 refine Rg 6 J <| Um J J <| aA (fR J J) J <| aW (fun h44 => ?_) (fun h44 => ?_)
 rotate_left
 ·refine Um J J <| K1 J J <| K1 J J <| aA (cD J J) J <| Wn <| aR J <| aF <| Ck [2,3,4] J ?_
  exact J5 _ om
 refine Um J J <| aJ J (cR J) J <| aJ J (bS J J) J <| aW (fun h47 => ?_) (fun h47 => ?_)
 rotate_left
 ·refine aA (cG J J) J <| Wn <| aR J <| aF <| Ck [2,3,4] J ?_
  exact J5 _ om
 refine aA (cG J J) J <| Wn <| aV J <| aC <| cJ (z := 10) J kR <| aL (bF (l := .agg [_, _]) J J J J J) J <| aL (aE J (iV _) (by simp)) J <| aL (bF (l := .agg [_, _]) J J J J J) J <| aL (aE J (iV _) (by simp)) J <| aL (cI σ (lP J J (by rw [← hσ]; omega)) hσ.symm) J <| Dm J J <| aL (cI (((v.natAbs * w.natAbs : Nat) : Int)) (bX J J J) (by rw [IntWalk.i64_in _ om]; omega)) J <| aL (lP J J (by rcases hs3 with h | h | ⟨h, _⟩ <;> rw [h] <;> omega)) J <| aL (mJ (cs := [_, _]) J J J J J) J <| dP (dH (cs' := [_, _]) J J J J J J J J) <| bT (bE kR) J <| Ck [4] J <| bM <| post (n := 0) (.inr J) J ?_ (by simp)
 rw [evw, iQ (by unfold small; rcases hs3 with h | h | ⟨h, _⟩ <;> rw [h] <;> omega)]; rfl
end Go.Proofs.Ytcblgjaomljikaa
namespace Go.Proofs.Ytcblgjaomljikaa
open Go.Ab Go.RowKit
theorem div32_run (hi lo y : Nat) (hh : hi < y) (hl : lo < 4294967296) (hy : y < 4294967296) : Run Try.prog T E0 (.call 223 [.v (.int .u32 (hi : Int)), .v (.int .u32 (lo : Int)), .v (.int .u32 (y : Int))] (.tup [.v (.int .u32 (((hi * 4294967296 + lo) / y : Nat) : Int)), .v (.int .u32 (((hi * 4294967296 + lo) % y : Nat) : Int))])) := by
 have hq : (hi * 4294967296 + lo) / y < 4294967296 := by
  rw [Nat.div_lt_iff_lt_mul om]; have := Nat.mul_le_mul_left 4294967296 (show hi + 1 ≤ y from hh); omega
 have hr : (hi * 4294967296 + lo) % y < y := Nat.mod_lt _ om
 obtain ⟨Q, hQ⟩ : ∃ Q, Q = (hi * 4294967296 + lo) / y := ⟨_, rfl⟩
 obtain ⟨R, hR⟩ : ∃ R, R = (hi * 4294967296 + lo) % y := ⟨_, rfl⟩
 rw [← hQ] at hq
 rw [← hR] at hr
 refine bC Try.func223 J J (cW J) <| Rg 2 J <| Ua J J <| Ua J J <| Wn <| aC <| Rg 7 J <| Um J J <| aA (eG J J) J <| aW (fun h10 => ?_) (fun h10 => ?_)
 rotate_left
 ·omega
 refine Um J J <| aJ J (cR J) J <| aJ J (cR J) J <| aJ J (oLeq J J) J <| aW (fun h14 => ?_) (fun h14 => ?_)
 ·omega
 refine aA (cG J J) J <| Wn <| aR J <| aF <| Rg 7 J <| Um J J <| aA (cI ((hi : Int)) (bX J J J) (by rw [IntKind.wrap_u64]; omega)) J <| aA (cI (((hi * 4294967296 : Nat) : Int)) (oShlU (s := 32) J J om) om) J <| Um J J <| aA (cI ((lo : Int)) (bX J J J) (by rw [IntKind.wrap_u64]; omega)) J <| aA (eW (v := .int .u64 (((hi * 4294967296 + lo) : Nat) : Int)) J J (or_hi om hl)) J <| Ua J J <| Nk [2,8] J <| cJ (z := 12) J kR <| Dm J J <| Dm J J <| aL (cI ((y : Int)) (bX J J J) (by rw [IntKind.wrap_u64]; omega)) J <| aL (cI ((Q : Int)) (oQuoU J J om om) (by rw [hQ])) J <| aL (cI ((Q : Int)) (bX J J J) (by rw [IntKind.wrap_u32]; omega)) J <| Dm J J <| Dm J J <| aL (cI ((y : Int)) (bX J J J) (by rw [IntKind.wrap_u64]; omega)) J <| aL (cI ((R : Int)) (oRemU J J om) (by rw [hR])) J ?_
 refine aL (cI ((R : Int)) (bX J J J) (by rw [IntKind.wrap_u32]; omega)) J <| aL (fV J) J <| aL (fV J) J <| bT (bE kR) J <| aK ?_
 exact post (n := 0) (.inr J) J (by rw [← hQ, ← hR]; rfl) (by simp)
theorem short_run (k0 : Nat) (xs : List Nat) (y : Nat) (hx : Dg B32 xs) (hy : 0 < y) (hy2 : y < 4294967296) (lx : xs.length < 1099511627776) : ∃ r, Run Try.prog T E0 (.call 220 [.sl k0 (xs.map d32), .v (.int .u32 (y : Int))] r) ∧ ∃ ds rest, r = .tup [.sl 1 (ds.map d32), .v (.int .u32 ((rest : Nat) : Int))] ∧ Dg B32 ds ∧ rest < y ∧ val B32 ds * y + rest = val B32 xs ∧ ds.length = xs.length := by
 refine fO Try.func220 J J (cW J) <| Rg 2 J <| Ua J J <| Ua J J <| Wn <| Rg 4 J <| Um J J <| aA (aX J J) J <| bL (oMk (a := xs.length) (b := xs.length) J J J J om om (by decide) om (by show 4 * xs.length ≤ _; omega) om) J <| Ua J J <| Wn <| Rg 1 J <| Ua J J <| Wn <| aC <| Rg 4 J <| Um J J <| aA (aX J J) J <| aA (dK J J om) J <| Ua J J <| Wn <| aG <| aY (α := Nat × Nat × (List Nat)) (fun ⟨k, rest, us⟩ => [(0, .sl k0 (xs.map d32)), (1, .v (.int .u32 (y : Int))), (6, .ref (0 + 2 + 2) 1 0 us.length), (7, .v (.int .u32 (rest : Int))), (8, .v (.int .i64 ((k : Int) - 1)))]) (fun ⟨k, rest, us⟩ => [(0 + 2 + 2, { cells := (us.map d32).flatten, sz := 1, elem := 189, st := 0 })]) (fun ⟨k, rest, us⟩ n => k ≤ xs.length ∧ us.length = xs.length ∧ Dg B32 us ∧ rest < y ∧ val B32 (us.drop k) * y + rest = val B32 (xs.drop k)) (fun ⟨k, rest, us⟩ => k) (xs.length, 0, List.replicate xs.length 0) ⟨rfl, rfl, congrArg some (by rw [List.length_replicate]; rfl), rfl, rfl, trivial⟩ ⟨g0.trans (by rw [List.map_replicate]; rfl), trivial⟩ ⟨Nat.le_refl _, by simp, by intro d hd; simp at hd; rw [hd.2]; decide, hy, by simp [val]⟩ ?_
 rintro ⟨k, rest, us⟩ n hF
 change WC _ _ _ _ _ (_ :: _) (_ :: _) n _
 obtain ⟨hk, hul, hud, hrest, huv⟩ := hF
 refine aC <| Rg 2 J <| Um J J <| aA (lG J J) J <| aW (fun h16 => ?_) (fun h16 => ?_)
 rotate_left
 ·refine Wn <| aR J <| aT <| aP <| aN J <| Rg 4 J <| Um J J <| Um J J <| Ua J J <| Ua J J <| Wn <| aK <| ⟨.tup [.sl 1 (us.map d32), .v (.int .u32 (rest : Int))], ⟨us, rest, rfl, hud, hrest, ?_, hul⟩, mM (n := 0) [(0 + 2 + 2, { cells := (us.map d32).flatten, sz := 1, elem := 189, st := 1 })] (.inr J) J (.own _ (by simp) J (by show (0 : Nat) ≠ 2; decide) J (by decide) (by simp [keys]) J gJ dL (.data (by simp) .nil)) (by intro p hp; simp at hp; subst hp; exact ⟨_, rfl, by show (0 : Nat) ≠ 2; decide, rfl⟩)⟩
  have h0 : k = 0 := by omega
  subst h0
  simpa using huv
 refine Wn <| aV J <| aF <| aG ?_
 have hxl : xs.getD (k - 1) default < 4294967296 := bO hx om
 have hq : (rest * 4294967296 + xs.getD (k - 1) default) / y < 4294967296 := by
  rw [Nat.div_lt_iff_lt_mul hy]; have := Nat.mul_le_mul_left 4294967296 (show rest + 1 ≤ y from hrest); omega
 refine aI (z := 15) J <| Um J J <| Um J J <| Um J J <| Um J J <| Um J J <| aA (bY (j := k - 1) J J J J om om J) J <| aA (dQ J J J) J <| Um J J <| aA (aE J (div32_run rest (xs.getD (k - 1) default) y hrest hxl hy2) (by simp)) J <| Um J J <| aA (bU J J) J <| aA (bU J J) J <| aA (cC (j := k - 1) J J J J om om J) J <| bB (eA (f := d32) (us := us) ((rest * 4294967296 + xs.getD (k - 1) default) / y) J J J g0 (fun _ => rfl) J J om J) <| Ua J J <| Wn <| aD <| Ck [0,1,6,7,8] J <| aI (z := 3) J <| Um J J <| aA (cI (((k - 1 : Nat) : Int) - 1) (dK J J om) om) J <| Ua J J <| cM ?_
 refine aH ?_
 have hj : k - 1 + 1 = k := by omega
 refine ⟨⟨k - 1, (rest * 4294967296 + xs.getD (k - 1) default) % y, us.set (k - 1) ((rest * 4294967296 + xs.getD (k - 1) default) / y)⟩, ⟨rfl, rfl, congrArg some (by rw [List.length_set]), rfl, rfl, trivial⟩, ⟨g0, trivial⟩, ⟨om, by rw [List.length_set]; exact hul, hud.set _ hq, Nat.mod_lt _ hy, ?_⟩, by show k - 1 < k; omega⟩
 exact short_step hy (by rw [hj]; exact huv) om om
end Go.Proofs.Ytcblgjaomljikaa
namespace Go.Proofs.Ytcblgjaomljikaa
open Go.Ab Go.RowKit
theorem oQ (k0 : Nat) (xs : List Nat) (sh : Nat) (hx : Dg B32 xs) (hn : sh < 32) (lx : xs.length < 1099511627776) : ∃ sz len ob, Run Try.prog T E0 (.callO 225 [.sl k0 (xs.map d32), .v (.int .i64 (sh : Int))] (.ref 0 sz 0 len) ob) ∧ ∃ ds, sz = 1 ∧ len = ds.length ∧ ob = { cells := (ds.map d32).flatten, sz := 1, elem := 189, st := 0 } ∧ Dg B32 ds ∧ val B32 ds = val B32 xs * 2 ^ sh ∧ ds.length = xs.length + 1 := by
 have hp : (2 : Nat) ^ sh ≤ 2 ^ 31 := Nat.pow_le_pow_right (by decide) om
 have hp0 : 0 < (2 : Nat) ^ sh := Nat.pow_pos (by decide)
 refine mkcallO Try.func225 J J (cW J) <| Rg 1 J <| Ua J J <| Wn <| Rg 5 J <| Um J J <| aA (aX J J) J <| aA (aQ J J om) J <| bL (oMk (a := xs.length + 1) (b := xs.length + 1) J J J J om om (by decide) om (by show 4 * (xs.length + 1) ≤ _; omega) om) J <| Ua J J <| Wn <| aC <| Rg 3 J <| Um J J <| aA (aX J J) J <| Um J J <| Wn <| aG <| aY (α := Nat × (List Nat)) (fun ⟨i, us⟩ => [(1, .v (.int .i64 (sh : Int))), (5, .ref (0 + 1 + 3) 1 0 us.length), (13, .sl k0 (xs.map d32)), (14, .v (.int .i64 (xs.length : Int))), (15, .v (.int .i64 (i : Int)))]) (fun ⟨i, us⟩ => [(0 + 1 + 3, { cells := (us.map d32).flatten, sz := 1, elem := 189, st := 0 })]) (fun ⟨i, us⟩ n => i ≤ xs.length ∧ us.length = xs.length + 1 ∧ Dg B32 us ∧ val B32 us = val B32 (xs.take i) * 2 ^ sh ∧ (∀ j, i < j → us.getD j default = 0) ∧ us.getD i default < 2 ^ sh) (fun ⟨i, us⟩ => xs.length - i) (0, List.replicate (xs.length + 1) 0) ⟨rfl, congrArg some (by rw [List.length_replicate]; rfl), rfl, rfl, rfl, trivial⟩ ⟨g0.trans (by rw [List.map_replicate]; rfl), trivial⟩ ⟨Nat.zero_le _, by simp, by intro d hd; simp at hd; rw [hd]; decide, by rw [nY]; simp [val], fun j _ => jG _ _, by rw [jG]; exact hp0⟩ ?_
 rintro ⟨i, us⟩ n hF
 change WC _ _ _ _ _ (_ :: _) (_ :: _) n _
 obtain ⟨hi, hul, hud, huv, huz, hlo⟩ := hF
 refine Rg 1 J <| aA (bS J J) J <| aW (fun h16 => ?_) (fun h16 => ?_)
 rotate_left
 ·refine Wn <| aR J <| aT <| aP <| aN J <| Rg 2 J <| Um J J <| Ua J J <| Wn <| aK <| ⟨1, us.length, _, ⟨us, rfl, rfl, rfl, hud, ?_, hul⟩, .inr J, _, rfl, rfl, rfl, rfl, by intro c hc; obtain ⟨row, hr, hc⟩ := List.mem_flatten.1 hc; exact dL row hr c hc⟩
  rw [huv, List.take_of_length_le om]
 refine Wn <| aV J <| aF <| aG <| Rg 5 J <| Um J J <| aA (bY J J J J J om J) J <| aA (dQ J J J) J <| Ua J J <| Ua J J <| cM ?_
 have hxl : xs.getD i default < 4294967296 := bO hx om
 have hw : (xs.getD i default * 2 ^ sh) < 9223372036854775808 := by
  have := Nat.mul_lt_mul_of_lt_of_le hxl hp (by decide); omega
 have hor := shift_or hn hlo hxl
 have hhi := shift_hi (n := sh) hxl
 have hol : us.getD i default < 4294967296 := by omega
 refine Rg 5 J <| Um J J <| aA (cI ((xs.getD i default : Int)) (bX J J J) (by rw [IntKind.wrap_u64]; omega)) J <| Um J J <| aA (cI ((((xs.getD i default * 2 ^ sh) : Nat) : Int)) (oShlU (s := sh) J J om) (by rw [show ((xs.getD i default : Nat) : Int) * 2 ^ sh = (((xs.getD i default * 2 ^ sh) : Nat) : Int) by simp]; omega)) J <| Ua J J <| Nk [1,5,6,8,13,14,15] J <| Rg 9 J <| Um J J <| Um J J <| aA (cC J J J J J om J) J <| aA (dZ (f := d32) (us := us) (j := i) J J g0 (fun _ => rfl) J (by decide) om J) J <| Um J J <| aA (cI ((((xs.getD i default * 2 ^ sh) % 4294967296 : Nat) : Int)) (bX J J J) (by rw [IntKind.wrap_u32]; omega)) J <| aA (eW (v := .int .u32 (((us.getD i default + (xs.getD i default * 2 ^ sh) % 4294967296) : Nat) : Int)) J J ((or32 hol om).trans (by rw [hor.1]))) J <| aA (cC J J J J J om J) J <| bB (eA (f := d32) (us := us) (us.getD i default + (xs.getD i default * 2 ^ sh) % 4294967296) J J J g0 (fun _ => rfl) J J om J) <| Nk [1,5,6,8,13,14,15] J <| aI (z := 8) J <| Um J J <| Um J J <| aA (cI (((i + 1 : Nat) : Int)) (aQ J J om) om) J ?_
 refine Um J J <| aA (cI ((((xs.getD i default * 2 ^ sh) / 4294967296 : Nat) : Int)) (eB (s := 32) J J om) om) J <| aA (cI ((((xs.getD i default * 2 ^ sh) / 4294967296 : Nat) : Int)) (bX J J J) (by rw [IntKind.wrap_u32]; omega)) J <| aA (cC J J J J J om J) J <| bB (eA (f := d32) (us := us.set i (us.getD i default + (xs.getD i default * 2 ^ sh) % 4294967296)) ((xs.getD i default * 2 ^ sh) / 4294967296) J J J g0 (fun _ => rfl) J J (by rw [List.length_set]; omega) J) <| Wn <| aD <| aI (z := 2) J <| aA (cI (((i + 1 : Nat) : Int)) (aQ J J om) om) J <| Um J J <| Wn <| aH <| ⟨⟨i + 1, (us.set i (us.getD i default + (xs.getD i default * 2 ^ sh) % 4294967296)).set (i + 1) ((xs.getD i default * 2 ^ sh) / 4294967296)⟩, ⟨rfl, congrArg some (by rw [List.length_set, List.length_set]), rfl, rfl, rfl, trivial⟩, ⟨g0, trivial⟩, ⟨om, by rw [List.length_set, List.length_set]; exact hul, (hud.set _ hor.2).set _ (by show _ < 4294967296; omega), shift_step (by decide) huv om (huz _ om), ?_, ?_⟩, by show xs.length - (i + 1) < xs.length - i; omega⟩
 ·intro j hj
  rw [gR om, gR om]; exact huz j om
 ·have : ((us.set i (us.getD i default + (xs.getD i default * 2 ^ sh) % 4294967296)).set (i + 1) ((xs.getD i default * 2 ^ sh) / 4294967296)).getD (i + 1) default = (xs.getD i default * 2 ^ sh) / 4294967296 := by
   rw [List.getD_eq_getElem?_getD, List.getElem?_set_self (by simp; omega)]; rfl
  rw [this]; exact hhi
theorem len32_run (x : Nat) (hx : x < 4294967296) : Run Try.prog T E0 (.call 165 [.v (.int .u32 (x : Int))] (.v (.int .i64 ((blen x : Nat) : Int)))) := by
 refine bC Try.func165 J J (cW J) ?_
 have J7 : ∀ (y k : Nat) (hy : y < 256) (hk : k ≤ 24) (he : blen x = blen y + k) (n : Nat) , WC Try.prog T E0 Try.f165.ntmps (codeR (codeR (codeR (codeOf Try.f165)))) [(0, .v (.int .u32 (y : Int))), (2, .v (.int .i64 (k : Int)))] [] n (Post T Try.f165.results.toList (.v (.int .i64 ((blen x : Nat) : Int)))) := by
  intro y k hy hk he n
  have hyb := jA (n := 8) hy
  refine Rg 7 J <| Um J J <| Um J J <| aA (cI ((y : Int)) (bX J J J) (by rw [IntKind.wrap_u8]; omega)) J <| aA (cI (((blen y : Nat) : Int)) (oIxS (bs := tab8) (n := (y : Int)) J kR J om (tab8_get hy)) (congrArg Int.ofNat (tab8_val hy))) J <| aA (cI (((blen y : Nat) : Int)) (bX J J J) (by rw [IntWalk.i64_in _ om])) J <| aA (aQ J J om) J <| Ua J J <| Wn <| aK ?_
  exact post (n := 0) (.inr J) J (congrArg (fun z => LV.v (.int .i64 z)) om) (by simp)
 refine Rg 1 J <| Ua J J <| Wn <| aC <| Rg 2 J <| Um J J <| aA (lG J J) J <| aW (fun h4 => ?_) (fun h4 => ?_)
 rotate_left
 ·refine Wn <| aR J <| aF <| aC <| Rg 2 J <| Um J J <| aA (lG J J) J <| aW (fun h8 => ?_) (fun h8 => ?_)
  rotate_left
  ·refine Wn <| aR J <| aF <| Ck [0,2] J ?_
   first | exact J7 (x / 65536) 16 om om (fK (x := x) (k := 16) om) _ | exact J7 x 0 om om rfl _
  refine Wn <| aV J <| aC <| Rg 3 J <| Um J J <| aA (cI (((x / 256 : Nat) : Int)) (oShr32 (s := 8) J J om) om) J <| Ua J J <| Wn <| Rg 3 J <| Um J J <| aA (aQ J J om) J <| Ua J J <| Nk [0,2] J ?_
  first | exact J7 (x / 65536 / 256) 24 om om (by rw [fK (x := x) (k := 16) om, fK (x := x / 2 ^ 16) (k := 8) om]) _ | exact J7 (x / 256) 8 om om (fK (x := x) (k := 8) om) _
 refine Wn <| aV J <| aC <| Rg 3 J <| Um J J <| aA (cI (((x / 65536 : Nat) : Int)) (oShr32 (s := 16) J J om) om) J <| Ua J J <| Wn <| Rg 1 J <| Ua J J <| Wn <| aC <| Rg 2 J <| Um J J <| aA (lG J J) J <| aW (fun h8 => ?_) (fun h8 => ?_)
 rotate_left
 ·refine Wn <| aR J <| aF <| Ck [0,2] J ?_
  first | exact J7 (x / 65536) 16 om om (fK (x := x) (k := 16) om) _ | exact J7 x 0 om om rfl _
 refine Wn <| aV J <| aC <| Rg 3 J <| Um J J <| aA (cI (((x / 65536 / 256 : Nat) : Int)) (oShr32 (s := 8) J J om) om) J <| Ua J J <| Wn <| Rg 3 J <| Um J J <| aA (aQ J J om) J <| Ua J J <| Nk [0,2] J ?_
 first | exact J7 (x / 65536 / 256) 24 om om (by rw [fK (x := x) (k := 16) om, fK (x := x / 2 ^ 16) (k := 8) om]) _ | exact J7 (x / 256) 8 om om (fK (x := x) (k := 8) om) _
theorem zeros32_run (x : Nat) (hx : x < 4294967296) : Run Try.prog T E0 (.call 224 [.v (.int .u32 (x : Int))] (.v (.int .i64 ((32 - blen x : Nat) : Int)))) := by
 have hb := jA (n := 32) hx
 refine bC Try.func224 J J (cW J) <| Rg 1 J <| Ua J J <| Wn <| Rg 4 J <| Um J J <| aA (aE J (len32_run x hx) (by simp)) J <| aA (dK J J om) J <| Ua J J <| Wn <| aK ?_
 exact post (n := 0) (.inr J) J (congrArg (fun z => LV.v (.int .i64 z)) om) (by simp)
end Go.Proofs.Ytcblgjaomljikaa
