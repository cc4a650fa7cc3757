/- Part C of the proof of discountRing_holds: what it rests on. No condition. -/
import Derived.Test.YtahljdjhhapngaaGreatLawB
import Derived.ChangeKeysEq
import Derived.Test.YtahljdjhhapngaaGreatProg
set_option linter.unusedVariables false
set_option linter.unusedSimpArgs false
namespace Go.Ab
open Go.RowKit
def sm (f : Nat → Rat) : Nat → Rat
 | 0 => 0
 | i + 1 => sm f i + f i
theorem cG {f g : Nat → Rat} : ∀ n, (∀ i, i < n → f i = g i) → sm f n = sm g n
 | 0, _ => rfl
 | n + 1, h => by rw [sm, sm, cG n (fun i hi => h i om), h n om]
theorem iI : ∀ n, sm (fun _ => 0) n = 0
 | 0 => rfl
 | n + 1 => by rw [sm, iI n, Rat.add_zero]
theorem pL (f g : Nat → Rat) : ∀ n, sm (fun i => f i + g i) n = sm f n + sm g n
 | 0 => (Rat.add_zero 0).symm
 | n + 1 => by
  rw [sm, sm, sm, pL f g n, Rat.add_assoc, Rat.add_assoc]
  congr 1
  rw [← Rat.add_assoc, ← Rat.add_assoc, Rat.add_comm (sm g n)]
theorem gT (f : Nat → Rat) (c : Rat) : ∀ n, c * sm f n = sm (fun i => c * f i) n
 | 0 => Rat.mul_zero c
 | n + 1 => by rw [sm, sm, Rat.mul_add, gT f c n]
theorem sm_swap (f : Nat → Nat → Rat) (m : Nat) : ∀ n, sm (fun i => sm (f i) m) n = sm (fun j => sm (fun i => f i j) n) m
 | 0 => (iI m).symm
 | n + 1 => by
  rw [sm, sm_swap f m n, ← pL]
  exact cG m fun j _ => rfl
theorem dotn_sm (a b : List Rat) : ∀ i, dotn a b i = sm (fun t => a.getD t default * b.getD t default) i
 | 0 => rfl
 | i + 1 => by rw [dotn, sm, dotn_sm a b i]
theorem nR (a b : List Rat) : dotR a b = sm (fun t => a.getD t default * b.getD t default) a.length := dotn_sm a b _
def unitR (n : Nat) : List (List Rat) := (List.range n).map (uR n)
def pw (A : List (List Rat)) (n : Nat) : Nat → List (List Rat)
 | 0 => unitR n
 | k + 1 => prodR (pw A n k) A n
theorem prodR_wid (X Y : List (List Rat)) (w : Nat) : Wid w (prodR X Y w) := by
 intro r hr
 obtain ⟨s, _, rfl⟩ := List.mem_map.1 hr
 simp
theorem pw_wid (A : List (List Rat)) (n : Nat) : ∀ k, Wid n (pw A n k)
 | 0 => by
  intro r hr
  obtain ⟨i, _, rfl⟩ := List.mem_map.1 hr
  exact uR_len n i
 | k + 1 => prodR_wid _ _ _
def QB (D C s k : Nat) (x : Rat) : Prop := ∃ z : Int, x * ((D : Rat) ^ k) = (z : Rat) ∧ z.natAbs * 8 ≤ s * C ^ k
def QBL (D C s k : Nat) (R : List (List Rat)) : Prop := ∀ r, r ∈ R → ∀ x, x ∈ r → QB D C s k x
theorem rpow_add (D : Rat) (k : Nat) : ∀ l, D ^ (k + l) = D ^ k * D ^ l
 | 0 => by rw [Nat.add_zero, Rat.pow_zero, Rat.mul_one]
 | l + 1 => by rw [← Nat.add_assoc, Rat.pow_succ, rpow_add D k l, Rat.pow_succ, Rat.mul_assoc]
theorem QB.dot {D C s k l : Nat} {a b : List Rat} (ha : ∀ x, x ∈ a → QB D C s k x) (hb : ∀ x, x ∈ b → QB D C 1 l x) (hl : a.length ≤ b.length) : ∀ i, i ≤ a.length → ∃ z : Int, dotn a b i * (D : Rat) ^ (k + l) = (z : Rat) ∧ z.natAbs * 64 ≤ i * (s * C ^ (k + l))
 | 0, _ => ⟨0, by rw [dotn, Rat.zero_mul]; rfl, by simp⟩
 | i + 1, hi => by
  obtain ⟨z, h1, h2⟩ := QB.dot ha hb hl i om
  obtain ⟨p, h3, h4⟩ := ha _ (bJ (us := a) (i := i) om)
  obtain ⟨q, h5, h6⟩ := hb _ (bJ (us := b) (i := i) om)
  refine ⟨z + p * q, ?_, ?_⟩
  ·rw [dotn, Rat.add_mul, h1, rpow_add, Rat.intCast_add, Rat.intCast_mul, ← h3, ← h5]
   congr 1
   rw [Rat.mul_assoc, Rat.mul_assoc]
   congr 1
   rw [← Rat.mul_assoc, ← Rat.mul_assoc, Rat.mul_comm (b.getD i default)]
  ·have h7 := Int.natAbs_add_le z (p * q)
   rw [Int.natAbs_mul] at h7
   have h8 : (p.natAbs * 8) * (q.natAbs * 8) ≤ (s * C ^ k) * (1 * C ^ l) := Nat.mul_le_mul h4 h6
   have h9 : (p.natAbs * 8) * (q.natAbs * 8) = p.natAbs * q.natAbs * 64 := by
    rw [Nat.mul_mul_mul_comm]
   have h10 : (s * C ^ k) * (1 * C ^ l) = s * C ^ (k + l) := by rw [Nat.one_mul, Nat.pow_add, Nat.mul_assoc]
   rw [h9, h10] at h8
   rw [Nat.succ_mul]
   omega
theorem QBL.prod {D C s k l w : Nat} {A B : List (List Rat)} (hA : QBL D C s k A) (hB : QBL D C 1 l B) (hw : Wid B.length A) (hb : Wid w B) (h8 : B.length ≤ 8) : QBL D C s (k + l) (prodR A B w) := by
 intro r hr x hx
 obtain ⟨t, ht, rfl⟩ := List.mem_map.1 hr
 obtain ⟨j, hj, rfl⟩ := List.mem_map.1 hx
 have hj := List.mem_range.1 hj
 have htl := hw t ht
 have hcl : (colR B j).length = B.length := by simp [colR]
 obtain ⟨z, h1, h2⟩ := QB.dot (D := D) (C := C) (s := s) (k := k) (l := l) (a := t) (b := colR B j) (hA t ht) (fun y hy => by
  obtain ⟨u, hu, rfl⟩ := List.mem_map.1 hy
  exact hB u hu _ (bJ (by rw [hb u hu]; exact hj))) om t.length (Nat.le_refl _)
 refine ⟨z, h1, ?_⟩
 have : t.length * (s * C ^ (k + l)) ≤ 8 * (s * C ^ (k + l)) := Nat.mul_le_mul_right _ om
 omega
theorem QB.bd {D C s k d : Nat} {x : Rat} (h : QB D C s k x) (hD : 0 < D) (hDb : D ≤ 4294967296 ^ d) (hC : C ≤ 4294967296 ^ d) (hs : s ≤ 8) : Bd (d * k + 1) x := by
 obtain ⟨z, h1, h2⟩ := h
 have hDk : 0 < D ^ k := Nat.pow_pos hD
 have hcast : (((D ^ k : Nat) : Int) : Rat) = (D : Rat) ^ k := by rw [Rat.intCast_natCast, Rat.natCast_pow]
 have hne : (((D ^ k : Nat) : Int) : Rat) ≠ 0 := by
  intro h0
  have : ((D ^ k : Nat) : Int) = 0 := by exact_mod_cast h0
  omega
 have hx : x = Rat.divInt z ((D ^ k : Nat) : Int) := by
  rw [Rat.divInt_eq_div, ← h1, ← hcast, Rat.mul_div_cancel hne]
 have hpos : 0 < 4294967296 ^ (d * k) := Nat.pow_pos (by decide)
 have e1 : 4294967296 ^ (d * k + 1) = 4294967296 ^ (d * k) * 4294967296 := Nat.pow_succ ..
 have e2 : D ^ k ≤ 4294967296 ^ (d * k) := by rw [Nat.pow_mul]; exact Nat.pow_le_pow_left hDb k
 have e3 : C ^ k ≤ 4294967296 ^ (d * k) := by rw [Nat.pow_mul]; exact Nat.pow_le_pow_left hC k
 have e4 : s * C ^ k ≤ 8 * C ^ k := Nat.mul_le_mul_right _ hs
 rw [hx]
 refine Bd.raw om (eH om) (eH ?_)
 rw [Int.natAbs_natCast]; omega
def dd : List Rat → Nat
 | [] => 1
 | x :: l => x.den * dd l
theorem dd_pos : ∀ l, 0 < dd l
 | [] => by decide
 | x :: l => Nat.mul_pos x.den_pos (dd_pos l)
theorem dd_dvd {x : Rat} : ∀ {l : List Rat}, x ∈ l → x.den ∣ dd l
 | y :: l, h => by
  rcases List.mem_cons.1 h with rfl | h
  ·exact ⟨dd l, rfl⟩
  ·exact Nat.dvd_trans (dd_dvd h) ⟨y.den, Nat.mul_comm _ _⟩
theorem dd_le {b : Nat} : ∀ {l : List Rat}, (∀ x, x ∈ l → x.den ≤ b) → dd l ≤ b ^ l.length
 | [], _ => Nat.le_refl _
 | y :: l, h => by
  rw [dd, List.length_cons, Nat.pow_succ, Nat.mul_comm]
  exact Nat.mul_le_mul (dd_le fun x hx => h x (by simp [hx])) (h y (by simp))
theorem flat_len {w : Nat} : ∀ {A : List (List Rat)}, Wid w A → A.flatten.length = A.length * w
 | [], _ => by simp
 | r :: A, h => by
  rw [List.flatten_cons, List.length_append, flat_len (fun s hs => h s (by simp [hs])), h r (by simp), List.length_cons, Nat.succ_mul]; omega
theorem Bd.abs {n : Nat} {x : Rat} (h : Bd n x) : x.num.natAbs < 4294967296 ^ n ∧ x.den < 4294967296 ^ n := by
 have h1 := gY x.num
 have h2 := gY (x.den : Int)
 rw [Int.natAbs_natCast] at h2
 exact ⟨Nat.lt_of_lt_of_le h1 (Nat.pow_le_pow_right (by decide) h.1), Nat.lt_of_lt_of_le h2 (Nat.pow_le_pow_right (by decide) h.2)⟩
theorem QBL.base {A : List (List Rat)} {n : Nat} (h : BdL 2 A) (hw : Wid n A) (hl : A.length = n) (h8 : n ≤ 8) : ∃ D C, 0 < D ∧ D ≤ 4294967296 ^ 131 ∧ C ≤ 4294967296 ^ 131 ∧ QBL D C 1 1 A := by
 have hfl : ∀ x, x ∈ A.flatten → Bd 2 x := fun x hx => by
  obtain ⟨r, hr, hx⟩ := List.mem_flatten.1 hx
  exact h r hr x hx
 have hlen : A.flatten.length ≤ 64 := by
  rw [flat_len hw, hl]; exact Nat.mul_le_mul h8 h8
 have hD : dd A.flatten ≤ 4294967296 ^ 128 := by
  refine Nat.le_trans (dd_le (b := 4294967296 ^ 2) fun x hx => Nat.le_of_lt (hfl x hx).abs.2) ?_
  rw [← Nat.pow_mul]
  exact Nat.pow_le_pow_right (by decide) om
 refine ⟨dd A.flatten, 8 * (4294967296 ^ 2 * dd A.flatten), dd_pos _, Nat.le_trans hD (Nat.pow_le_pow_right (by decide) (by decide)), ?_, ?_⟩
 ·have e : 4294967296 ^ 131 = 4294967296 * (4294967296 ^ 2 * 4294967296 ^ 128) := by decide +kernel
  rw [e]
  exact Nat.mul_le_mul (by decide) (Nat.mul_le_mul_left _ hD)
 ·intro r hr x hx
  have hxf := List.mem_flatten.2 ⟨r, hr, hx⟩
  obtain ⟨q, hq⟩ := dd_dvd hxf
  have hb := (hfl x hxf).abs.1
  have hdq : q ≤ dd A.flatten := by
   have := x.den_pos
   rw [hq]; exact Nat.le_mul_of_pos_left q this
  have hxd : x * (x.den : Rat) = (x.num : Rat) := by
   have h1 : x = (x.num : Rat) / ((x.den : Int) : Rat) := by rw [← Rat.divInt_eq_div, Rat.num_divInt_den]
   have h2 : ((x.den : Int) : Rat) ≠ 0 := by
    intro h0
    have : (x.den : Int) = 0 := by exact_mod_cast h0
    have := x.den_pos
    omega
   rw [← Rat.intCast_natCast]
   conv => lhs; lhs; rw [h1]
   exact Rat.div_mul_cancel h2
  refine ⟨x.num * (q : Int), ?_, ?_⟩
  ·rw [Rat.pow_succ, Rat.pow_zero, Rat.one_mul, hq, Rat.natCast_mul, ← Rat.mul_assoc, hxd, Rat.intCast_mul, Rat.intCast_natCast]
  ·rw [Int.natAbs_mul, Int.natAbs_natCast, Nat.pow_one, Nat.one_mul, Nat.mul_comm _ 8]
   exact Nat.mul_le_mul_left 8 (Nat.mul_le_mul (Nat.le_of_lt hb) hdq)
theorem QBL.pw {D C n : Nat} {A : List (List Rat)} (h : QBL D C 1 1 A) (hl : A.length = n) (hw : Wid n A) (h8 : n ≤ 8) : ∀ k, QBL D C 8 k (pw A n k)
 | 0 => by
  intro r hr x hx
  obtain ⟨i, _, rfl⟩ := List.mem_map.1 hr
  rcases List.mem_or_eq_of_mem_set hx with h | h
  ·rw [(List.mem_replicate.1 h).2]
   exact ⟨0, Rat.zero_mul _, by simp⟩
  ·rw [h]
   exact ⟨1, by rw [Rat.pow_zero, Rat.one_mul]; rfl, by simp⟩
 | k + 1 => QBL.prod (QBL.pw h hl hw h8 k) h (by rw [hl]; exact pw_wid A n k) hw om
open Go.RowKit
section
variable {P : Program} {T : TT} {E : TypeId → Bool} {dst : Option Tmp} {ty : TypeId} {pos : String} {af : Array Edge} {g : Option (Nat × Bool)} {id : Nat} {e : Env} {h : Hp} {x y : Operand} {bt yt : TypeId}
end
def powO (a : List M1) (n : Int) : Option (List (List NM)) := (pw (vM a) a.length n.toNat).mapM fun r => r.mapM outN
def powOk (a : List M1) (n : Int) : Bool := VM a && sqb a && (decide (0 ≤ n) && decide (n ≤ 1000))
def pow1 (a : List M1) (n : Int) : List M1 := if powOk a n = true then ((powO a n).getD []).map kM else []
def powe (a : List M1) (n : Int) : Int := if VM a = false then 1 else if sqb a = false then 2 else if (decide (0 ≤ n) && decide (n ≤ 1000)) = false then 6 else if (powO a n).isSome = true then 0 else 3
def lvPow (a : List M1) (n : Int) : LV := .tup [.sl (kd (pow1 a n).length) ((pow1 a n).map fM), .v (.int .i64 (powe a n))]
instance {a : List M1} {n : Int} : DC (lvPow a n) := ⟨.tup _ (by intro c hc; simp only [List.mem_cons, List.not_mem_nil, or_false] at hc; rcases hc with rfl | rfl; exact qU dfM _ _; exact .v _)⟩
end Go.Ab
namespace Go.Ab
def skp (i a : Nat) : Nat := if a < i then a else a + 1
def sg : Nat → Rat
 | 0 => 1
 | i + 1 => -sg i
def det : Nat → (Nat → Nat → Rat) → Rat
 | 0, _ => 1
 | n + 1, M => sm (fun i => sg i * M i 0 * det n (fun a b => M (skp i a) (b + 1))) (n + 1)
def upd (M : Nat → Nat → Rat) (r : Nat) (U : Nat → Rat) : Nat → Nat → Rat := fun a b => if a = r then U b else M a b
theorem fU (M : Nat → Nat → Rat) (r : Nat) (U : Nat → Rat) (b : Nat) : upd M r U r b = U b := if_pos rfl
theorem lP {M : Nat → Nat → Rat} {r a : Nat} {U : Nat → Rat} (h : a ≠ r) (b : Nat) : upd M r U a b = M a b := if_neg h
theorem dV : ∀ n {M N : Nat → Nat → Rat}, (∀ a b, a < n → b < n → M a b = N a b) → det n M = det n N
 | 0, _, _, _ => rfl
 | n + 1, M, N, h => by
  rw [det, det]
  refine cG _ fun i hi => ?_
  rw [h i 0 hi om, dV n fun a b ha hb => h (skp i a) (b + 1) (by unfold skp; split <;> omega) om]
theorem lR : ∀ n (M : Nat → Nat → Rat) (r : Nat) (U V : Nat → Rat) (x y : Rat), r < n → det n (upd M r (fun b => x * U b + y * V b)) = x * det n (upd M r U) + y * det n (upd M r V)
 | 0, _, _, _, _, _, _, h => by omega
 | n + 1, M, r, U, V, x, y, hr => by
  rw [det, det, det, gT, gT, ← pL]
  refine cG _ fun i hi => ?_
  by_cases e : i = r
  ·subst e
   have hm : ∀ W : Nat → Rat, (fun a b => upd M i W (skp i a) (b + 1)) = fun a b => M (skp i a) (b + 1) := by
    intro W
    funext a b
    exact lP (by unfold skp; split <;> omega) _
   rw [hm, hm, hm, fU, fU, fU]
   grind
  ·have hm : ∀ W : Nat → Rat, (fun a b => upd M r W (skp i a) (b + 1)) = upd (fun a b => M (skp i a) (b + 1)) (if r < i then r else r - 1) (fun b => W (b + 1)) := by
    intro W
    funext a b
    show (if skp i a = r then W (b + 1) else M (skp i a) (b + 1)) = if a = (if r < i then r else r - 1) then W (b + 1) else M (skp i a) (b + 1)
    have h : (skp i a = r) ↔ (a = if r < i then r else r - 1) := by unfold skp; split <;> split <;> omega
    by_cases h1 : skp i a = r
    ·rw [if_pos h1, if_pos (h.1 h1)]
    ·rw [if_neg h1, if_neg (fun k => h1 (h.2 k))]
   rw [hm, hm, hm, lP e, lP e, lP e, lR n _ _ (fun b => U (b + 1)) (fun b => V (b + 1)) x y (by split <;> omega)]
   grind
theorem sm_two {f : Nat → Rat} {r : Nat} (h : f r + f (r + 1) = 0) : ∀ n, r + 1 < n → (∀ i, i < n → i ≠ r → i ≠ r + 1 → f i = 0) → sm f n = 0
 | 0, hr, _ => by omega
 | n + 1, hr, h0 => by
  rw [sm]
  by_cases e : n = r + 1
  ·subst e
   rw [sm, show sm f r = 0 from (cG r fun i hi => h0 i om om om).trans (iI r), Rat.zero_add]
   exact h
  ·rw [sm_two h n om fun i hi => h0 i om, h0 n om om e, Rat.add_zero]
theorem qT : ∀ n {M : Nat → Nat → Rat} {r : Nat}, r + 1 < n → (∀ b, M r b = M (r + 1) b) → det n M = 0
 | 0, _, _, h, _ => by omega
 | n + 1, M, r, hr, h => by
  rw [det]
  refine sm_two (r := r) ?_ (n + 1) hr fun i hi h1 h2 => ?_
  ·have hm : (fun a b => M (skp r a) (b + 1)) = fun a b => M (skp (r + 1) a) (b + 1) := by
    funext a b
    unfold skp
    by_cases h3 : a < r
    ·rw [if_pos h3, if_pos om]
    ·rw [if_neg h3]
     by_cases h4 : a = r
     ·subst h4; rw [if_pos om]; exact (h _).symm
     ·rw [if_neg om]
   rw [hm, h 0, sg]
   grind
  ·have hz : det n (fun a b => M (skp i a) (b + 1)) = 0 := by
    by_cases h3 : i < r
    ·refine qT n (r := r - 1) om fun b => ?_
     unfold skp
     rw [if_neg om, if_neg om, show r - 1 + 1 = r by omega]
     exact h _
    ·refine qT n (r := r) om fun b => ?_
     unfold skp
     rw [if_pos om, if_pos om]
     exact h _
   rw [hz, Rat.mul_zero]
def swp (r s a : Nat) : Nat := if a = r then s else if a = s then r else a
theorem qK {n r s : Nat} (hr : r < n) (hs : s < n) (hrs : r ≠ s) (alt : ∀ M : Nat → Nat → Rat, (∀ b, M r b = M s b) → det n M = 0) (M : Nat → Nat → Rat) : det n (fun a b => M (swp r s a) b) = -det n M := by
 have two : ∀ U V : Nat → Rat, det n (upd (upd M r U) s V) + det n (upd (upd M r V) s U) = 0 := by
  intro U V
  have h0 := alt (upd (upd M r (fun b => 1 * U b + 1 * V b)) s (fun b => 1 * U b + 1 * V b)) fun b => by
   rw [fU, lP hrs, fU]
  have hc : ∀ A B : Nat → Rat, upd (upd M r A) s B = upd (upd M s B) r A := by
   intro A B
   funext a b
   unfold upd
   by_cases h1 : a = s
   ·rw [if_pos h1, if_neg om, if_pos h1]
   ·rw [if_neg h1, if_neg h1]
  rw [lR n (upd M r _) s U V 1 1 hs, hc, hc, lR n (upd M s U) r U V 1 1 hr, lR n (upd M s V) r U V 1 1 hr, ← hc, ← hc, ← hc, ← hc] at h0
  have h1 := alt (upd (upd M r U) s U) fun b => by rw [fU, lP hrs, fU]
  have h2 := alt (upd (upd M r V) s V) fun b => by rw [fU, lP hrs, fU]
  rw [h1, h2] at h0
  grind
 have h3 := two (M r) (M s)
 have e1 : upd (upd M r (M r)) s (M s) = M := by
  funext a b
  unfold upd
  by_cases h1 : a = s
  ·rw [if_pos h1, h1]
  ·rw [if_neg h1]
   by_cases h2 : a = r
   ·rw [if_pos h2, h2]
   ·rw [if_neg h2]
 have e2 : upd (upd M r (M s)) s (M r) = fun a b => M (swp r s a) b := by
  funext a b
  unfold upd swp
  by_cases h1 : a = s
  ·rw [if_pos h1, if_neg (show ¬ a = r by omega), if_pos h1]
  ·rw [if_neg h1]
   by_cases h2 : a = r
   ·rw [if_pos h2, if_pos h2]
   ·rw [if_neg h2, if_neg h2, if_neg h1]
 rw [e1, e2] at h3
 grind
theorem oU {n : Nat} : ∀ d {M : Nat → Nat → Rat} {r : Nat}, r + d + 1 < n → (∀ b, M r b = M (r + d + 1) b) → det n M = 0
 | 0, M, r, hr, h => qT n hr h
 | d + 1, M, r, hr, h => by
  have h1 := qK (n := n) (r := r + d + 1) (s := r + d + 1 + 1) om om om (fun N hN => qT n (r := r + d + 1) om hN) M
  have h2 := @oU n d (fun a b => M (swp (r + d + 1) (r + d + 1 + 1) a) b) r om fun b => by
   unfold swp
   rw [if_neg om, if_neg om, if_pos rfl]
   exact h b
  rw [h2] at h1
  grind
theorem det_alt {n r s : Nat} (hr : r < n) (hs : s < n) (hrs : r ≠ s) {M : Nat → Nat → Rat} (h : ∀ b, M r b = M s b) : det n M = 0 := by
 rcases Nat.lt_or_ge r s with h1 | h1
 ·exact oU (s - r - 1) (r := r) om fun b => by rw [show r + (s - r - 1) + 1 = s by omega]; exact h b
 ·exact oU (r - s - 1) (r := s) om fun b => by rw [show s + (r - s - 1) + 1 = r by omega]; exact (h b).symm
structure RowF (n : Nat) (F : (Nat → Nat → Rat) → Rat) : Prop where
 congr : ∀ {M N : Nat → Nat → Rat}, (∀ a b, a < n → b < n → M a b = N a b) → F M = F N
 swap : ∀ (M : Nat → Nat → Rat) {r s : Nat}, r < n → s < n → r ≠ s → F (fun a b => M (swp r s a) b) = -F M
 scale : ∀ (M : Nat → Nat → Rat) {r : Nat} (x : Rat), r < n → F (upd M r (fun b => x * M r b)) = x * F M
 add : ∀ (M : Nat → Nat → Rat) {r s : Nat} (x : Rat), r < n → s < n → r ≠ s → F (upd M r (fun b => M r b + x * M s b)) = F M
theorem upd_self (M : Nat → Nat → Rat) (r : Nat) : upd M r (M r) = M := by
 funext a b
 unfold upd
 by_cases h : a = r
 ·rw [if_pos h, h]
 ·rw [if_neg h]
theorem lB (n : Nat) : RowF n (det n) where
 congr h := dV n h
 swap M {r s} hr hs hrs := qK hr hs hrs (fun N hN => det_alt hr hs hrs hN) M
 scale M {r} x hr := by
  have h := lR n M r (M r) (M r) x 0 hr
  rw [upd_self] at h
  rw [show (fun b => x * M r b) = fun b => x * M r b + 0 * M r b by funext b; grind, h]
  grind
 add M {r s} x hr hs hrs := by
  have h := lR n M r (M r) (M s) 1 x hr
  rw [upd_self, det_alt hr hs hrs (M := upd M r (M s)) (fun b => by rw [fU, lP (Ne.symm hrs)])] at h
  rw [show (fun b => M r b + x * M s b) = fun b => 1 * M r b + x * M s b by funext b; grind, h]
  grind
def mulF (n : Nat) (M B : Nat → Nat → Rat) : Nat → Nat → Rat := fun a b => sm (fun t => M a t * B t b) n
theorem mulF_upd (n : Nat) (M B : Nat → Nat → Rat) (r : Nat) (U : Nat → Rat) : mulF n (upd M r U) B = upd (mulF n M B) r (fun b => sm (fun t => U t * B t b) n) := by
 funext a b
 unfold mulF upd
 by_cases h : a = r
 ·simp only [if_pos h]
 ·simp only [if_neg h]
theorem mul_rowF (n : Nat) (B : Nat → Nat → Rat) : RowF n (fun M => det n (mulF n M B)) where
 congr {M N} h := dV n fun a b ha hb => cG n fun t ht => by rw [h a t ha ht]
 swap M {r s} hr hs hrs := (lB n).swap (mulF n M B) hr hs hrs
 scale M {r} x hr := by
  show det n (mulF n (upd M r _) B) = _
  rw [mulF_upd, show (fun b => sm (fun t => x * M r t * B t b) n) = fun b => x * mulF n M B r b from funext fun b => by
   unfold mulF; rw [gT]; exact cG n fun t _ => Rat.mul_assoc _ _ _]
  exact (lB n).scale (mulF n M B) x hr
 add M {r s} x hr hs hrs := by
  show det n (mulF n (upd M r _) B) = _
  rw [mulF_upd, show (fun b => sm (fun t => (M r t + x * M s t) * B t b) n) = fun b => mulF n M B r b + x * mulF n M B s b from funext fun b => by
   unfold mulF; rw [gT, ← pL]; exact cG n fun t _ => by grind]
  exact (lB n).add (mulF n M B) x hr hs hrs
def oneF : Nat → Nat → Rat := fun a b => if a = b then 1 else 0
theorem gF {f : Nat → Rat} {j : Nat} : ∀ n, j < n → (∀ i, i < n → i ≠ j → f i = 0) → sm f n = f j
 | 0, h, _ => by omega
 | n + 1, hj, h => by
  rw [sm]
  by_cases e : n = j
  ·subst e
   rw [show sm f n = 0 from (cG n fun i hi => h i om om).trans (iI n), Rat.zero_add]
  ·rw [gF n om fun i hi => h i om, h n om e, Rat.add_zero]
theorem det_one : ∀ n, det n oneF = 1
 | 0 => rfl
 | n + 1 => by
  rw [det, gF (j := 0) (n + 1) om fun i hi h0 => by rw [show oneF i 0 = 0 from if_neg h0, Rat.mul_zero, Rat.zero_mul]]
  have : (fun a b => oneF (skp 0 a) (b + 1)) = oneF := by
   funext a b
   have h1 : skp 0 a = a + 1 := if_neg om
   show (if skp 0 a = b + 1 then (1 : Rat) else 0) = if a = b then 1 else 0
   rw [h1]
   by_cases h : a = b
   ·rw [if_pos h, if_pos om]
   ·rw [if_neg h, if_neg om]
  rw [this, det_one n]
  show (1 : Rat) * (if (0 : Nat) = 0 then 1 else 0) * 1 = 1
  rw [if_pos rfl]; grind
open Go.RowKit
abbrev fm (R : List (List Rat)) : Nat → Nat → Rat := fun i j => ent R i j
theorem ent_swF {R : List (List Rat)} {i r a j : Nat} (hi : i < R.length) (hr : r < R.length) (ha : a < R.length) : ent (sw R i r) a j = ent R (swp i r a) j := by
 unfold ent sw swp
 rw [cB (by rw [List.length_set]; exact ha), cB ha]
 by_cases h1 : a = i
 ·rw [if_pos h1.symm, if_pos h1]
 ·rw [if_neg (Ne.symm h1), if_neg h1]
  by_cases h2 : a = r
  ·rw [if_pos h2.symm, if_pos h2]
  ·rw [if_neg (Ne.symm h2), if_neg h2]
theorem lC {R : List (List Rat)} {i r c a j : Nat} (ha : a < R.length) : ent (mid R i r c) a j = if a = r then 1 / ent (sw R i r) r c * ent (sw R i r) r j else ent (sw R i r) a j := by
 by_cases h : a = r
 ·rw [if_pos h, h]
  show (((((sw R i r).set r (rsc (1 / ent (sw R i r) r c) ((sw R i r).getD r default))) : List (List Rat))).getD r default).getD j default = _
  rw [cB (by rw [jJ]; omega), if_pos rfl, oK]; rfl
 ·rw [if_neg h]
  show (((((sw R i r).set r (rsc (1 / ent (sw R i r) r c) ((sw R i r).getD r default))) : List (List Rat))).getD a default).getD j default = _
  rw [cB (by rw [jJ]; exact ha), if_neg (Ne.symm h)]; rfl
theorem oZ {M : List (List Rat)} {w r c a j : Nat} (hw : Wid w M) (ha : a < M.length) (hj : j < w) : ent (elim M r c) a j = if a = r then ent M r j else ent M a j - ent M a c * ent M r j := by
 show ((elim M r c).getD a default).getD j default = _
 rw [oY ha]
 by_cases h : a = r
 ·subst h; rw [if_pos rfl, elr_self]; rfl
 ·rw [if_neg h]
  by_cases h0 : ent M a c = 0
  ·rw [nS (.inr h0), h0]
   show ent M a j = _
   grind
  ·rw [elr_pos h h0, oH (by rw [hw.row ha]; exact hj), oK]
   show ent M a j + -ent M a c * ent M r j = _
   grind
structure Stp (A B : List (List Rat)) (w a r c : Nat) : Prop where
 len : B.length = A.length
 wid : Wid w B
 ha : a < A.length
 hr : r < A.length
 ne : ent A a c ≠ 0
 row : ∀ j, j < w → ent B r j = 1 / ent A a c * ent A a j
 oth : ∀ i j, i < A.length → i ≠ r → j < w → ent B i j = ent A (swp a r i) j - ent A (swp a r i) c * (1 / ent A a c * ent A a j)
theorem stp_of {A : List (List Rat)} {w a r c : Nat} (hw : Wid w A) (ha : a < A.length) (hr : r < A.length) (hc : c < w) (hne : ent A a c ≠ 0) : Stp A (elim (mid A a r c) r c) w a r c := by
 have hm : Wid w (mid A a r c) := hw.mid ha hr c
 have hml : (mid A a r c).length = A.length := nZ _ _ _ _
 have hsr : ∀ j, ent (sw A a r) r j = ent A a j := fun j => lD ha hr
 refine ⟨by rw [elim_len, hml], ?_, ha, hr, hne, fun j hj => ?_, fun i j hi hir hj => ?_⟩
 ·intro row hrow
  obtain ⟨k, hk, rfl⟩ := List.mem_map.1 hrow
  exact elr_len hm r c (List.mem_range.1 hk)
 ·rw [oZ hm om hj, if_pos rfl, lC hr, if_pos rfl, hsr, hsr]
 ·rw [oZ hm om hj, if_neg hir, lC hi, if_neg hir, lC hi, if_neg hir, lC hr, if_pos rfl, hsr, hsr, ent_swF ha hr hi, ent_swF ha hr hi]
structure St0 (R : List (List Rat)) (w c : Nat) : Prop where
 wid : Wid w (gjn R c).1
 led : (gjn R c).2.length ≤ R.length
theorem St0.all {R : List (List Rat)} {w : Nat} (hw : Wid w R) : ∀ c, c ≤ w → St0 R w c
 | 0, _ => ⟨hw, Nat.zero_le _⟩
 | c + 1, hc => by
  have h := St0.all hw c om
  obtain ⟨p1, p2, p3⟩ := eM (R := (gjn R c).1) (r := (gjn R c).2.length) (c := c) (by rw [cY]; exact h.led)
  by_cases e : pivot (gjn R c).1 (gjn R c).2.length c = (gjn R c).1.length
  ·rw [show St0 R w (c + 1) ↔ St0 R w c from ⟨fun _ => h, fun _ => ⟨by rw [lF e]; exact h.wid, by rw [lF e]; exact h.led⟩⟩]; exact h
  ·have hl := cY R c
   have hy := lU (a := pivot (gjn R c).1 (gjn R c).2.length c) rfl om
   have hs := stp_of (r := (gjn R c).2.length) (c := c) h.wid (show pivot (gjn R c).1 (gjn R c).2.length c < _ by omega) om om (p3 om)
   exact ⟨by rw [hy]; exact hs.wid, by rw [hy]; simp; omega⟩
theorem qW {R : List (List Rat)} {w : Nat} (hw : Wid w R) {P : Nat → List (List Rat) → List Nat → Prop} (h0 : P 0 R [])
  (hno : ∀ c S L, c < w → gjn R c = (S, L) → S.length = R.length → Wid w S → L.length ≤ R.length → P c S L → (∀ k, L.length ≤ k → k < R.length → ent S k c = 0) → P (c + 1) S L)
  (hyes : ∀ c S L B a, c < w → gjn R c = (S, L) → S.length = R.length → Wid w S → L.length ≤ a → P c S L → Stp S B w a L.length c → gjn R (c + 1) = (B, L ++ [c]) → pivot S L.length c = a → P (c + 1) B (L ++ [c])) : ∀ c, c ≤ w → P c (gjn R c).1 (gjn R c).2
 | 0, _ => h0
 | c + 1, hc => by
  have ih := qW hw h0 hno hyes c om
  have h := St0.all hw c om
  have hl := cY R c
  obtain ⟨p1, p2, p3⟩ := eM (R := (gjn R c).1) (r := (gjn R c).2.length) (c := c) (by rw [cY]; exact h.led)
  by_cases e : pivot (gjn R c).1 (gjn R c).2.length c = (gjn R c).1.length
  ·rw [lF e]
   exact hno c _ _ om rfl hl h.wid h.led ih fun k h1 h2 => mY e h1 om
  ·have hy := lU (a := pivot (gjn R c).1 (gjn R c).2.length c) rfl om
   have hs := stp_of (r := (gjn R c).2.length) (c := c) h.wid (show pivot (gjn R c).1 (gjn R c).2.length c < _ by omega) om om (p3 om)
   rw [hy]
   exact hyes c _ _ _ _ om rfl hl h.wid p1 ih hs hy rfl
theorem gjd_ne {R : List (List Rat)} {w : Nat} (hw : Wid w R) : ∀ c, c ≤ w → gjd R c ≠ 0
 | 0, _ => by show (1 : Rat) ≠ 0; decide
 | c + 1, hc => by
  have ih := gjd_ne hw c om
  have h := St0.all hw c om
  have hl := cY R c
  obtain ⟨p1, p2, p3⟩ := eM (R := (gjn R c).1) (r := (gjn R c).2.length) (c := c) (by rw [cY]; exact h.led)
  by_cases e : pivot (gjn R c).1 (gjn R c).2.length c = (gjn R c).1.length
  ·rw [gjd_no e]; exact ih
  ·rw [nU rfl om]
   have := p3 om
   split <;> grind
theorem elim_F {n : Nat} {F : (Nat → Nat → Rat) → Rat} (hF : RowF n F) (M : Nat → Nat → Rat) (r c : Nat) (hr : r < n) : ∀ k, k ≤ n → F (fun a b => if a < k ∧ a ≠ r then M a b - M a c * M r b else M a b) = F M
 | 0, _ => hF.congr fun a b _ _ => if_neg om
 | k + 1, hk => by
  rw [← elim_F hF M r c hr k om]
  by_cases e : k = r
  ·refine hF.congr fun a b _ _ => ?_
   by_cases h : a < k ∧ a ≠ r
   ·rw [if_pos h, if_pos ⟨om, h.2⟩]
   ·rw [if_neg h, if_neg om]
  ·rw [← hF.add (fun a b => if a < k ∧ a ≠ r then M a b - M a c * M r b else M a b) (r := k) (s := r) (-(M k c)) om hr e]
   refine hF.congr fun a b _ _ => ?_
   unfold upd
   show (if a < k + 1 ∧ a ≠ r then _ else _) = if a = k then ((if k < k ∧ k ≠ r then M k b - M k c * M r b else M k b) + -M k c * (if r < k ∧ r ≠ r then M r b - M r c * M r b else M r b)) else (if a < k ∧ a ≠ r then M a b - M a c * M r b else M a b)
   by_cases h1 : a = k
   ·subst h1
    rw [if_pos ⟨om, e⟩, if_pos rfl, if_neg (show ¬ (a < a ∧ a ≠ r) by omega), if_neg (show ¬ (r < a ∧ r ≠ r) by omega)]
    grind
   ·rw [if_neg h1]
    by_cases h : a < k ∧ a ≠ r
    ·rw [if_pos h, if_pos ⟨om, h.2⟩]
    ·rw [if_neg h, if_neg om]
theorem gjn_F {n : Nat} {F : (Nat → Nat → Rat) → Rat} (hF : RowF n F) {A : List (List Rat)} (hl : A.length = n) (hw : Wid n A) : ∀ c, c ≤ n → F (fm A) = gjd A c * F (fm (gjn A c).1)
 | 0, _ => by rw [gjd, Rat.one_mul]; rfl
 | c + 1, hc => by
  rw [gjn_F hF hl hw c om]
  have h := St0.all hw c om
  have hgl := cY A c
  obtain ⟨p1, p2, p3⟩ := eM (R := (gjn A c).1) (r := (gjn A c).2.length) (c := c) (by rw [cY]; exact h.led)
  by_cases e : pivot (gjn A c).1 (gjn A c).2.length c = (gjn A c).1.length
  ·rw [gjd_no e, lF e]
  ·rw [nU rfl om, lU rfl om]
   have hne := p3 om
   have hwS := h.wid
   generalize pivot (gjn A c).1 (gjn A c).2.length c = a at *
   generalize (gjn A c).2.length = r at *
   generalize (gjn A c).1 = S at *
   generalize gjd A c = d
   have hm : Wid n (mid S a r c) := hwS.mid om om c
   have e1 : F (fm (elim (mid S a r c) r c)) = F (fm (mid S a r c)) := by
    rw [← elim_F hF (fm (mid S a r c)) r c om n (Nat.le_refl _)]
    refine hF.congr fun i j hi hj => ?_
    show ent _ i j = _
    rw [oZ hm (by rw [nZ]; omega) hj]
    by_cases e2 : i = r
    ·rw [if_pos e2, if_neg om, e2]
    ·rw [if_neg e2, if_pos ⟨hi, e2⟩]
   have e2 : F (fm (mid S a r c)) = 1 / ent S a c * F (fm (sw S a r)) := by
    rw [← hF.scale (fm (sw S a r)) (r := r) (1 / ent S a c) om]
    refine hF.congr fun i j hi hj => ?_
    show ent _ i j = _
    rw [lC om, lD om om]
    rfl
   have e3 : F (fm (sw S a r)) = if a ≠ r then -F (fm S) else F (fm S) := by
    by_cases e4 : a = r
    ·rw [if_neg om, e4, sw_same om]
    ·rw [if_pos e4, ← hF.swap (fm S) (r := a) (s := r) om om e4]
     exact hF.congr fun i j hi hj => ent_swF om om om
   rw [e1, e2, e3]
   split <;> grind
open Go.RowKit
structure RI (S : List (List Rat)) (L : List Nat) (c : Nat) : Prop where
 rk : L.length ≤ S.length
 piv : ∀ t, t < L.length → ∀ i, i < S.length → ent S i (L.getD t default) = if i = t then 1 else 0
 low : ∀ t, t < L.length → ∀ j, j < L.getD t default → ent S t j = 0
 zer : ∀ i, L.length ≤ i → i < S.length → ∀ j, j < c → ent S i j = 0
 mono : ∀ t u, t < u → u < L.length → L.getD t default < L.getD u default
 lt : ∀ t, t < L.length → L.getD t default < c
theorem mG {L : List Nat} {c t : Nat} (h : t < L.length) : (L ++ [c]).getD t default = L.getD t default := by
 simp only [List.getD_eq_getElem?_getD, List.getElem?_append_left h]
theorem oN {L : List Nat} {c : Nat} : (L ++ [c]).getD L.length default = c := by
 simp [List.getD_eq_getElem?_getD]
theorem pM {a r i : Nat} (h : i < r) (ha : r ≤ a) : swp a r i = i := by
 unfold swp; rw [if_neg om, if_neg om]
theorem swp_ge {a r i : Nat} (h : r ≤ i) (ha : r ≤ a) : r ≤ swp a r i := by
 unfold swp; split
 ·omega
 ·split <;> omega
theorem oP {a r i m : Nat} (h : i < m) (ha : a < m) (hr : r < m) : swp a r i < m := by
 unfold swp; split
 ·omega
 ·split <;> omega
theorem swp_swp (a r i : Nat) : swp a r (swp a r i) = i := by
 unfold swp
 by_cases h1 : i = a
 ·rw [if_pos h1]
  by_cases h2 : r = a
  ·rw [if_pos h2, h2, h1]
  ·rw [if_neg h2, if_pos rfl, h1]
 ·rw [if_neg h1]
  by_cases h2 : i = r
  ·rw [if_pos h2, if_pos rfl, h2]
  ·rw [if_neg h2, if_neg h1, if_neg h2]
theorem gjn_RI {R : List (List Rat)} {w : Nat} (hw : Wid w R) : ∀ c, c ≤ w → RI (gjn R c).1 (gjn R c).2 c :=
 qW hw (P := fun c S L => RI S L c)
  ⟨Nat.zero_le _, fun t ht => by simp at ht, fun t ht => by simp at ht, fun i _ _ j hj => by omega, fun t u _ hu => by simp at hu, fun t ht => by simp at ht⟩
  (fun c S L hc _ hl _ _ h hz => ⟨h.rk, h.piv, h.low, fun i h1 h2 j hj => by
   by_cases e : j = c
   ·rw [e]; exact hz i h1 om
   ·exact h.zer i h1 h2 j om, h.mono, fun t ht => by have := h.lt t ht; omega⟩)
  (fun c S L B a hc _ hl _ hla h hs _ _ => by
   have hBl := hs.len
   have hha := hs.ha
   have hp := hs.ne
   have hrow : ∀ j, j < c → ent B L.length j = 0 := fun j hj => by
    rw [hs.row j om, h.zer a hla hs.ha j hj, Rat.mul_zero]
   have hoth : ∀ i j, i < S.length → i ≠ L.length → j < c → ent B i j = ent S (swp a L.length i) j := fun i j hi hir hj => by
    rw [hs.oth i j hi hir om, h.zer a hla hs.ha j hj]; grind
   have hlo : ∀ i j, i < L.length → j < c → ent B i j = ent S i j := fun i j hi hj => by
    rw [hoth i j (by have := h.rk; omega) om hj, pM hi hla]
   have hhi : ∀ i j, L.length ≤ i → i < S.length → j < c → ent B i j = 0 := fun i j h1 h2 hj => by
    by_cases e : i = L.length
    ·rw [e]; exact hrow j hj
    ·rw [hoth i j h2 e hj]; exact h.zer _ (swp_ge h1 hla) (oP h2 hs.ha hs.hr) j hj
   have hc1 : ent B L.length c = 1 := by rw [hs.row c hc]; grind
   have hc0 : ∀ i, i < S.length → i ≠ L.length → ent B i c = 0 := fun i h1 h2 => by rw [hs.oth i c h1 h2 hc]; grind
   refine ⟨by simp; have := hs.hr; omega, fun t ht i hi => ?_, fun t ht j hj => ?_, fun i h1 h2 j hj => ?_, fun t u htu hu => ?_, fun t ht => ?_⟩
   ·rw [List.length_append, List.length_singleton] at ht
    by_cases e : t = L.length
    ·subst e
     rw [oN]
     by_cases e2 : i = L.length
     ·rw [e2, hc1, if_pos rfl]
     ·rw [hc0 i om e2, if_neg e2]
    ·rw [mG om]
     have hlt := h.lt t om
     by_cases e2 : i < L.length
     ·rw [hlo i _ e2 hlt]; exact h.piv t om i om
     ·rw [hhi i _ om om hlt, if_neg om]
   ·rw [List.length_append, List.length_singleton] at ht
    by_cases e : t = L.length
    ·subst e
     rw [oN] at hj; exact hrow j hj
    ·rw [mG om] at hj
     have hlt := h.lt t om
     rw [hlo t j om om]; exact h.low t om j hj
   ·rw [List.length_append, List.length_singleton] at h1
    by_cases e : j = c
    ·rw [e]; exact hc0 i om om
    ·exact hhi i j om om om
   ·rw [List.length_append, List.length_singleton] at hu
    rw [mG om]
    by_cases e : u = L.length
    ·subst e; rw [oN]; exact h.lt t htu
    ·rw [mG om]; exact h.mono t u htu om
   ·rw [List.length_append, List.length_singleton] at ht
    by_cases e : t = L.length
    ·subst e; rw [oN]; omega
    ·rw [mG om]; have := h.lt t om; omega)
def rd (R : List (List Rat)) (w : Nat) (v : Nat → Rat) (i : Nat) : Rat := sm (fun j => ent R i j * v j) w
def Sol (R : List (List Rat)) (w : Nat) (v : Nat → Rat) : Prop := ∀ i, i < R.length → rd R w v i = 0
theorem Stp.rdr {A B : List (List Rat)} {w a r c : Nat} (h : Stp A B w a r c) (v : Nat → Rat) : rd B w v r = 1 / ent A a c * rd A w v a := by
 unfold rd
 rw [gT]
 exact cG w fun j hj => by rw [h.row j hj, Rat.mul_assoc]
theorem Stp.rdo {A B : List (List Rat)} {w a r c : Nat} (h : Stp A B w a r c) (v : Nat → Rat) {i : Nat} (hi : i < A.length) (hir : i ≠ r) : rd B w v i = rd A w v (swp a r i) + -(ent A (swp a r i) c * (1 / ent A a c)) * rd A w v a := by
 unfold rd
 rw [gT, ← pL]
 exact cG w fun j hj => by rw [h.oth i j hi hir hj]; grind
theorem Stp.sol {A B : List (List Rat)} {w a r c : Nat} (h : Stp A B w a r c) (v : Nat → Rat) : Sol B w v ↔ Sol A w v := by
 have hl := h.len
 have hp := h.ne
 have ha := h.ha
 have hr := h.hr
 constructor
 ·intro hB
  have h1 : rd A w v a = 0 := by
   have h2 := hB r om
   rw [h.rdr] at h2
   grind
  intro k hk
  by_cases e : k = a
  ·rw [e]; exact h1
  ·have hi := oP hk h.ha h.hr
   have h3 := hB (swp a r k) om
   rw [h.rdo v hi (by unfold swp; rw [if_neg e]; split <;> omega), swp_swp, h1] at h3
   grind
 ·intro hA i hi
  by_cases e : i = r
  ·rw [e, h.rdr, hA a h.ha, Rat.mul_zero]
  ·rw [h.rdo v om e, hA a h.ha, hA _ (oP om h.ha h.hr)]; grind
theorem gjn_sol {R : List (List Rat)} {w : Nat} (hw : Wid w R) (v : Nat → Rat) : ∀ c, c ≤ w → (Sol (gjn R c).1 w v ↔ Sol R w v) :=
 qW hw (P := fun c S L => (Sol S w v ↔ Sol R w v)) Iff.rfl (fun c S L _ _ _ _ _ h _ => h) (fun c S L B a _ _ _ _ _ h hs _ _ => (hs.sol v).trans h)
theorem pivot_lt {R : List (List Rat)} {r c k : Nat} (h1 : r ≤ k) (h2 : k < pivot R r c) : ent R k c = 0 := by
 unfold pivot at h2
 have h3 : k - r < (R.drop r).findIdx (fun a => decide (a.getD c default ≠ 0)) := by omega
 have h4 := List.not_of_lt_findIdx h3
 have h5 : k - r < (R.drop r).length := Nat.lt_of_lt_of_le h3 List.findIdx_le_length
 rw [List.length_drop] at h5
 have e : (R.drop r)[k - r]'(by rw [List.length_drop]; omega) = R.getD k default := by
  rw [List.getElem_drop]
  simp only [show r + (k - r) = k by omega]
  rw [List.getD_eq_getElem?_getD, List.getElem?_eq_getElem om]; rfl
 rw [e] at h4
 unfold ent
 simpa using h4
theorem pivot_ext {A B : List (List Rat)} {r c : Nat} (hl : A.length = B.length) (hr : r ≤ A.length) (h : ∀ i, i < A.length → ent A i c = ent B i c) : pivot A r c = pivot B r c := by
 obtain ⟨p1, p2, p3⟩ := eM (R := B) (r := r) (c := c) om
 refine jV p1 om (fun k h1 h2 => ?_) ?_
 ·rw [h k om]; exact pivot_lt h1 h2
 ·by_cases e : pivot B r c = B.length
  ·left; omega
  ·right; rw [h _ om]; exact p3 om
theorem gjn_ext {A B : List (List Rat)} {w w2 : Nat} (hA : Wid w A) (hB : Wid w2 B) (hww : w ≤ w2) (hl : B.length = A.length) (he : ∀ i j, i < A.length → j < w → ent B i j = ent A i j) : ∀ c, c ≤ w → (gjn B c).2 = (gjn A c).2 ∧ ∀ i j, i < A.length → j < w → ent (gjn B c).1 i j = ent (gjn A c).1 i j
 | 0, _ => ⟨rfl, he⟩
 | c + 1, hc => by
  obtain ⟨ih1, ih2⟩ := gjn_ext hA hB hww hl he c om
  have hSA := St0.all hA c om
  have hSB := St0.all hB c om
  have hlA := cY A c
  have hlB := cY B c
  have hpe : pivot (gjn B c).1 (gjn B c).2.length c = pivot (gjn A c).1 (gjn A c).2.length c := by
   rw [ih1]
   exact pivot_ext om (by have := hSA.led; omega) fun i hi => ih2 i c om om
  obtain ⟨p1, p2, p3⟩ := eM (R := (gjn A c).1) (r := (gjn A c).2.length) (c := c) (by have := hSA.led; omega)
  by_cases e : pivot (gjn A c).1 (gjn A c).2.length c = (gjn A c).1.length
  ·rw [lF e, lF om]; exact ⟨ih1, ih2⟩
  ·rw [lU (R := B) hpe om, lU (R := A) rfl om, ih1]
   refine ⟨rfl, fun i j hi hj => ?_⟩
   have hp := p3 om
   have sA := stp_of (r := (gjn A c).2.length) (c := c) hSA.wid (show pivot (gjn A c).1 (gjn A c).2.length c < _ by omega) om om hp
   have sB := stp_of (r := (gjn A c).2.length) (c := c) hSB.wid (show pivot (gjn A c).1 (gjn A c).2.length c < _ by omega) om om (by rw [ih2 _ c om om]; exact hp)
   by_cases e2 : i = (gjn A c).2.length
   ·rw [e2, sA.row j hj, sB.row j om, ih2 _ c om om, ih2 _ j om hj]
   ·have hsl : swp (pivot (gjn A c).1 (gjn A c).2.length c) (gjn A c).2.length i < A.length := oP hi om om
    rw [sA.oth i j om e2 hj, sB.oth i j om e2 om, ih2 (swp _ _ i) c hsl om, ih2 (swp _ _ i) j hsl hj, ih2 _ c om om, ih2 _ j om hj]
theorem RI.ge {S : List (List Rat)} {L : List Nat} {c : Nat} (h : RI S L c) : ∀ t, t < L.length → t ≤ L.getD t default
 | 0, _ => Nat.zero_le _
 | t + 1, ht => by have := h.ge t om; have := h.mono t (t + 1) om ht; omega
theorem RI.le {S : List (List Rat)} {L : List Nat} {c : Nat} (h : RI S L c) : ∀ d t, t < L.length → L.length - 1 - t = d → L.getD t default + d < c
 | 0, t, ht, _ => by have := h.lt t ht; omega
 | d + 1, t, ht, hd => by have := h.le d (t + 1) om om; have := h.mono t (t + 1) om om; omega
theorem RI.unit {S : List (List Rat)} {L : List Nat} {c : Nat} (h : RI S L c) (hc : L.length = c) {i j : Nat} (hi : i < S.length) (hj : j < c) : ent S i j = if i = j then 1 else 0 := by
 have h1 := h.ge j om
 have h2 := h.le _ j om rfl
 have h3 := h.piv j om i hi
 rw [show L.getD j default = j by omega] at h3
 exact h3
theorem RowF.zero {n : Nat} {F : (Nat → Nat → Rat) → Rat} (hF : RowF n F) (M : Nat → Nat → Rat) {r : Nat} (hr : r < n) (h : ∀ b, b < n → M r b = 0) : F M = 0 := by
 have h1 := hF.scale M (r := r) 0 hr
 rw [Rat.zero_mul] at h1
 rw [← h1]
 refine hF.congr fun a b ha hb => ?_
 unfold upd
 by_cases e : a = r
 ·rw [if_pos e, e, h b hb]; exact (Rat.zero_mul _).symm
 ·rw [if_neg e]
def dtv (A : List (List Rat)) (n : Nat) : Rat := if (gjn A n).2.length < n then 0 else gjd A n
theorem gjn_end {n : Nat} {F : (Nat → Nat → Rat) → Rat} (hF : RowF n F) {A : List (List Rat)} (hl : A.length = n) (hw : Wid n A) : F (fm A) = dtv A n * F oneF := by
 have hR := gjn_RI hw n (Nat.le_refl _)
 have hgl := cY A n
 have h := gjn_F hF hl hw n (Nat.le_refl _)
 have hrk := hR.rk
 unfold dtv
 by_cases e : (gjn A n).2.length < n
 ·rw [if_pos e, h, hF.zero (fm (gjn A n).1) (r := n - 1) om (fun b hb => hR.zer (n - 1) om om b hb)]; grind
 ·rw [if_neg e, h]
  congr 1
  exact hF.congr fun a b ha hb => hR.unit om om hb
theorem det_dtv {n : Nat} {A : List (List Rat)} (hl : A.length = n) (hw : Wid n A) : det n (fm A) = dtv A n := by
 rw [gjn_end (lB n) hl hw, det_one, Rat.mul_one]
theorem det_mulF {n : Nat} {A : List (List Rat)} (hl : A.length = n) (hw : Wid n A) (B : Nat → Nat → Rat) : det n (mulF n (fm A) B) = dtv A n * det n B := by
 rw [gjn_end (mul_rowF n B) hl hw]
 congr 1
 refine dV n fun a b ha hb => ?_
 unfold mulF
 rw [gF n ha fun i hi hne => by rw [show oneF a i = 0 from if_neg (Ne.symm hne), Rat.zero_mul], show oneF a a = 1 from if_pos rfl, Rat.one_mul]
open Go.RowKit
theorem dotR_rd {A : List (List Rat)} {w i : Nat} (hw : Wid w A) (hi : i < A.length) (y : List Rat) : dotR (A.getD i default) y = rd A w (fun j => y.getD j default) i := by
 rw [nR, hw.row hi]; rfl
def ev (w : Nat) (y : List Rat) : Nat → Rat := fun j => if j < w then y.getD j default else -1
theorem ent_wR {A : List (List Rat)} {b : List Rat} {w i j : Nat} (hw : Wid w A) (hi : i < A.length) (hj : j < w) : ent (wR A b) i j = ent A i j := by
 unfold ent wR
 rw [fK hi]
 simp only [List.getD_eq_getElem?_getD]
 rw [List.getElem?_append_left (by have := hw.row hi; rw [List.getD_eq_getElem?_getD] at this; omega)]
theorem ent_wR_last {A : List (List Rat)} {b : List Rat} {w i : Nat} (hw : Wid w A) (hi : i < A.length) : ent (wR A b) i w = b.getD i default := by
 unfold ent wR
 rw [fK hi]
 have h1 := hw.row hi
 rw [← h1]
 simp only [List.getD_eq_getElem?_getD]
 rw [List.getElem?_append_right (Nat.le_refl _), Nat.sub_self]; rfl
theorem rd_ev {S : List (List Rat)} {w : Nat} (y : List Rat) (i : Nat) : rd S (w + 1) (ev w y) i = rd S w (fun j => y.getD j default) i - ent S i w := by
 unfold rd
 rw [sm, show ev w y w = -1 from if_neg om, cG w fun j hj => by rw [show ev w y j = y.getD j default from if_pos hj]]
 grind
theorem sol_wR {A : List (List Rat)} {b y : List Rat} {w : Nat} (hw : Wid w A) : Sol (wR A b) (w + 1) (ev w y) ↔ ∀ i, i < A.length → dotR (A.getD i default) y = b.getD i default := by
 unfold Sol
 rw [nD]
 have key : ∀ i, i < A.length → rd (wR A b) (w + 1) (ev w y) i = dotR (A.getD i default) y - b.getD i default := fun i hi => by
  rw [rd_ev, ent_wR_last hw hi, dotR_rd hw hi]
  congr 1
  exact cG w fun j hj => by rw [ent_wR hw hi hj]
 constructor
 ·intro h i hi
  have := h i hi
  rw [key i hi] at this; grind
 ·intro h i hi
  rw [key i hi, h i hi]; grind
theorem solv_getD {S : GS} {w : Nat} (hm : ∀ t u, t < u → u < S.2.length → S.2.getD t default < S.2.getD u default) (hlt : ∀ t, t < S.2.length → S.2.getD t default < w) : ∀ i, i ≤ S.2.length → ∀ j, j < w → (solv S w i).getD j default = sm (fun t => if S.2.getD t default = j then ent S.1 t w else 0) i
 | 0, _, j, hj => by
  rw [solv, sm]; simp [List.getD_eq_getElem?_getD, hj]
 | i + 1, hi, j, hj => by
  rw [solv, sm, cB (by rw [solv_len]; exact hj)]
  by_cases e : S.2.getD i default = j
  ·rw [if_pos e, if_pos e]
   have h0 : sm (fun t => if S.2.getD t default = j then ent S.1 t w else 0) i = 0 := by
    refine (cG i fun t ht => if_neg ?_).trans (iI i)
    have := hm t i ht om
    omega
   rw [h0]; grind
  ·rw [if_neg e, if_neg e, Rat.add_zero, solv_getD hm hlt i om j hj]
theorem solv_ok {A : List (List Rat)} {b : List Rat} {w : Nat} (hw : Wid w A) (hns : nosol (gjn (wR A b) w) w = false) : ∀ i, i < A.length → dotR (A.getD i default) (solv (gjn (wR A b) w) w (gjn (wR A b) w).2.length) = b.getD i default := by
 have hW : Wid (w + 1) (wR A b) := wR_wid hw
 rw [← sol_wR hw, ← gjn_sol hW _ w om]
 have hR := gjn_RI hW w om
 have hl : (gjn (wR A b) w).1.length = A.length := by rw [cY, nD]
 generalize gjn (wR A b) w = S at *
 intro i hi
 rw [rd_ev]
 have h1 : rd S.1 w (fun j => (solv S w S.2.length).getD j default) i = sm (fun t => ent S.1 i (S.2.getD t default) * ent S.1 t w) S.2.length := by
  have e1 : ∀ j, j < w → ent S.1 i j * (solv S w S.2.length).getD j default = sm (fun t => ent S.1 i j * if S.2.getD t default = j then ent S.1 t w else 0) S.2.length := fun j hj => by
   rw [solv_getD hR.mono hR.lt _ (Nat.le_refl _) j hj, gT]
  unfold rd
  rw [cG w e1]
  rw [sm_swap (fun j t => ent S.1 i j * if S.2.getD t default = j then ent S.1 t w else 0)]
  refine cG _ fun t ht => ?_
  rw [gF (j := S.2.getD t default) w (hR.lt t ht) fun j _ hne => by rw [if_neg (Ne.symm hne), Rat.mul_zero], if_pos rfl]
 rw [h1]
 by_cases e : i < S.2.length
 ·rw [gF (j := i) _ e fun t ht hne => by rw [hR.piv t ht i hi, if_neg (Ne.symm hne), Rat.zero_mul], hR.piv i e i hi, if_pos rfl]
  grind
 ·rw [show sm (fun t => ent S.1 i (S.2.getD t default) * ent S.1 t w) S.2.length = 0 by
   rw [← iI S.2.length]
   exact cG _ fun t ht => by rw [hR.piv t ht i hi, if_neg om, Rat.zero_mul]]
  have hp : pivot S.1 S.2.length w = S.1.length := by
   unfold nosol at hns
   have := of_decide_eq_false hns
   omega
  rw [mY hp om hi]; grind
def two (n : Nat) (x y : Nat → Rat) : Nat → Rat := fun j => if j < n then x j else y (j - n)
open Go.RowKit
theorem outN_nq {y : NM} (h : VN y) : outN (nq y) = some y := by
 obtain ⟨h1, h2⟩ := pR h
 obtain ⟨k1, k2, k3, k4, _⟩ := h
 unfold outN nq
 rw [h1, h2, if_pos ⟨⟨k4, k3⟩, k2⟩]
theorem VN.i64 {y : NM} (h : VN y) : I64 y.1 ∧ I64 y.2 := by
 obtain ⟨k1, k2, k3, k4, _⟩ := h
 unfold I64; omega
section
variable {P : Program} {T : TT} {E : TypeId → Bool} {N : Nat} {oa : Array Oper} {i b n z id : Nat} {e : Env} {h : Hp} {Q : Env → Hp → Prop} {K : Ex → Env → Hp → Nat → Prop} {t dst : Nat} {pos : String} {af : Array Edge} {l : List Oper} {x : Operand} {r : LV} {acc : List Rec} {c : Code} {o : Oper} {k : IntKind} {u : Int} {d : Delta} {R : List Nat}
theorem Um (hx : evE e x = some r) (hd : Nat.blt dst N = true) (q : WO P T E N oa l (i + 1) b ((dst, r) :: e) h Q) : WO P T E N oa (⟨some dst, .move x, t, pos, af, none⟩ :: l) i b e h Q := aA (eF hx) hd q
theorem Ua (hx : evE e x = some r) (hd : Nat.blt dst N = true) (q : WO P T E N oa l (i + 1) b ((dst, r) :: e) h Q) : WO P T E N oa (⟨some dst, .assign x, t, pos, af, none⟩ :: l) i b e h Q := aA (iA hx) hd q
theorem Dm (hx : evE e x = some r) (hd : Nat.blt dst N = true) (q : WD P T E N oa l (i + 1) b ((dst, r) :: e) h (⟨i, [], [], false⟩ :: acc) Q) : WD P T E N oa (⟨some dst, .move x, t, pos, af, none⟩ :: l) i b e h acc Q := aD (eF hx) hd q
theorem Wn (q : Q e h) : WO P T E N oa [] i b e h Q := cK q
theorem Nw (a : Env) (hs : subs a e) (q : WC P T E N c a h n K) : WO P T E N oa [] i b e h (fun e' m' => WC P T E N c e' m' n K) := cK (qQ a hs q)
theorem Rg (z : Nat) (hz : oa.size = z) (q : WO P T E N oa oa.toList 0 n e h fun e' m' => WC P T E N c e' m' (n + z) K) : WC P T E N (.seq (.region id oa false) c) e h n K := WC.reg hz q
def pickE : List Nat → Env → Option Env
 | [], _ => some []
 | t :: ts, e => match e.get t, pickE ts e with
  | some v, some a => some ((t, v) :: a)
  | _, _ => none
theorem mX : ∀ {ts : List Nat} {e a : Env}, pickE ts e = some a → subs a e
 | [], e, a, h => by simp only [pickE, Option.some.injEq] at h; subst h; trivial
 | t :: ts, e, a, h => by
  simp only [pickE] at h
  cases h1 : e.get t with
  | none => rw [h1] at h; cases h
  | some v =>
   cases h2 : pickE ts e with
   | none => rw [h1, h2] at h; cases h
   | some a' =>
    rw [h1, h2] at h; cases h
    exact ⟨h1, mX h2⟩
theorem Nk {a : Env} (ts : List Nat) (hs : pickE ts e = some a) (q : WC P T E N c a h n K) : WO P T E N oa [] i b e h (fun e' m' => WC P T E N c e' m' n K) := cK (qQ a (mX hs) q)
theorem Ck {a : Env} (ts : List Nat) (hs : pickE ts e = some a) (q : WC P T E N c a h n K) : WC P T E N c e h n K := qQ a (mX hs) q
theorem K1 {op : Op} {g : Option (Nat × Bool)} (hg : guardE oa ⟨some dst, op, t, pos, af, g⟩ e = some false) (hd : Nat.blt dst N = true) (k : WO P T E N oa l (i + 1) b ((dst, .v undef) :: e) h Q) : WO P T E N oa (⟨some dst, op, t, pos, af, g⟩ :: l) i b e h Q := WO.K hg hd k
theorem gG {s : Nat} {y : Option Ob} (q : getH h s = y := by repeat (first | exact g0 | refine g1 om ?_)) : getH h s = y := q
theorem dD {p : Prop} (q : p := by first | exact dc | exact lQ | (simp [-cE]; done) | simp) : p := q
theorem cI (v : Int) (q : OP P T E o id e h (.v (.int k u)) d R) (hv : u = v) : OP P T E o id e h (.v (.int k v)) d R := OP.castI q hv
end
theorem J {α : Sort _} {a : α} : a = a := rfl
theorem kR {p : Prop} (q : p := by kernel_rfl) : p := q
theorem dL {a b : Nat} (h : Nat.ble a b = true) : a ≤ b := Nat.le_of_ble_eq_true h
end Go.Ab
namespace Go.Ab
open Go.RowKit
structure GB (R : List (List Rat)) (cols β : Nat) : Prop where
 pos : 2 ≤ β
 bds : ∀ c, c < cols → BdL β (gjn R c).1
 dts : ∀ c, c < cols → Bd β (gjd R c)
structure GI3 (R : List (List Rat)) (w β cols c : Nat) : Prop where
 bds : c < cols → BdL β (gjn R c).1
 wid : Wid w (gjn R c).1
 led : (gjn R c).2.length ≤ R.length
 ldc : ∀ x, x ∈ (gjn R c).2 → x < c
theorem GB.all {R : List (List Rat)} {cols β w : Nat} (h : GB R cols β) (hw : Wid w R) (hcw : cols ≤ w) (c : Nat) (hc : c ≤ cols) : GI3 R w β cols c where
 bds hcc := h.bds c hcc
 wid := (St0.all hw c om).wid
 led := (St0.all hw c om).led
 ldc x hx := by
  obtain ⟨t, ht, rfl⟩ := List.mem_iff_getElem.1 hx
  have := (gjn_RI hw c om).lt t ht
  rw [List.getD_eq_getElem?_getD, List.getElem?_eq_getElem ht] at this
  exact this
theorem Bd_int {z : Int} (h : z.natAbs < 18446744073709551616) : Bd 2 (z : Rat) := by
 refine ⟨?_, ?_⟩
 ·rw [Rat.num_intCast]; exact fF h
 ·rw [Rat.den_intCast]; exact Nat.le_trans (eH (n := 1) (by decide)) (by decide)
open Go.RowKit
theorem bC {q sz : Nat} {el : TypeId} {us : List (List LV)} {h H : Hp} (hq : us ≠ [] → getH H q = some { cells := us.flatten, sz := sz, elem := el, st := 0 }) (hs : subsM h H) : subsM (outH q sz el us h) H := by
 cases us with
 | nil => exact hs
 | cons u us => exact ⟨hq (by simp), hs⟩
section
variable {P : Program} {T : TT} {E : TypeId → Bool} {N : Nat} {e : Env} {h : Hp} {K : Env → Hp → Prop}
variable {dst : Option Tmp} {ty : TypeId} {pos : String} {af : Array Edge} {g : Option (Nat × Bool)} {id : Nat} {x y : Operand} {bt : TypeId} {ti : TI}
end
end Go.Ab
namespace Go.Ab
open Go.RowKit
abbrev BR := Int × NM
abbrev CH := NM × (Nat × List BR)
abbrev ST := (Int × Int) × (Nat × List CH)
def brc (b : BR) : List LV := [.v (.int .i64 b.1), .v (.int .i64 b.2.1), .v (.int .i64 b.2.2)]
def chc (c : CH) : List LV := [.v (.int .i64 c.1.1), .v (.int .i64 c.1.2), .sl c.2.1 (c.2.2.map brc)]
def stc (s : ST) : List LV := [.v (.int .i64 s.1.1), .v (.int .i64 s.1.2), .sl s.2.1 (s.2.2.map chc)]
def lvC (c : CH) : LV := .agg (chc c)
def lvMo (k : Nat) (ss : List ST) : LV := .agg [.sl k (ss.map stc)]
def IB (b : BR) : Prop := I64 b.1 ∧ I64 b.2.1 ∧ I64 b.2.2
def IC (c : CH) : Prop := I64 c.1.1 ∧ I64 c.1.2 ∧ ∀ b, b ∈ c.2.2 → IB b
def IS (s : ST) : Prop := I64 s.1.1 ∧ I64 s.1.2 ∧ ∀ c, c ∈ s.2.2 → IC c
theorem dbrc {bs : List BR} : ∀ row, row ∈ bs.map brc → ∀ c, c ∈ row → Data c := by
 intro row hr c hc
 obtain ⟨b, _, rfl⟩ := List.mem_map.1 hr
 simp only [brc, List.mem_cons, List.not_mem_nil, or_false] at hc
 rcases hc with rfl | rfl | rfl <;> exact .v _
theorem dchc1 (c : CH) : ∀ x, x ∈ chc c → Data x := by
 intro x hx
 simp only [chc, List.mem_cons, List.not_mem_nil, or_false] at hx
 rcases hx with rfl | rfl | rfl
 ·exact .v _
 ·exact .v _
 ·exact .sl _ _ fun row hr c hc => dbrc row hr c hc
theorem dchc {cs : List CH} : ∀ row, row ∈ cs.map chc → ∀ c, c ∈ row → Data c := by
 intro row hr c hc
 obtain ⟨b, _, rfl⟩ := List.mem_map.1 hr
 exact dchc1 b c hc
theorem dstc1 (s : ST) : ∀ x, x ∈ stc s → Data x := by
 intro x hx
 simp only [stc, List.mem_cons, List.not_mem_nil, or_false] at hx
 rcases hx with rfl | rfl | rfl
 ·exact .v _
 ·exact .v _
 ·exact .sl _ _ fun row hr c hc => dchc row hr c hc
theorem dstc {ss : List ST} : ∀ row, row ∈ ss.map stc → ∀ c, c ∈ row → Data c := by
 intro row hr c hc
 obtain ⟨b, _, rfl⟩ := List.mem_map.1 hr
 exact dstc1 b c hc
def psum (bs : List BR) : Nat → Rat
 | 0 => 0
 | i + 1 => psum bs i + nq (bs.getD i default).2
def lastB (bs : List BR) : Nat → Int
 | 0 => -1
 | i + 1 => (bs.getD i default).1
def okB (n : Nat) (bs : List BR) (i : Nat) : Bool := decide (lastB bs i < (bs.getD i default).1) && decide ((bs.getD i default).1 < n) && vn (bs.getD i default).2 && decide (0 < (bs.getD i default).2.1)
def VC (n : Nat) (c : CH) : Bool := vn c.1 && decide (1 ≤ c.2.2.length) && decide (c.2.2.length ≤ 8) && (List.range c.2.2.length).all (okB n c.2.2) && decide (psum c.2.2 c.2.2.length = 1)
def VS (n : Nat) (s : ST) : Bool := decide (0 ≤ s.1.1) && decide (s.1.1 ≤ 1) && decide (0 ≤ s.1.2) && decide (s.1.2 ≤ 63) && decide (1 ≤ s.2.2.length) && decide (s.2.2.length ≤ 8) && s.2.2.all (VC n)
def VMo (ss : List ST) : Bool := decide (1 ≤ ss.length) && decide (ss.length ≤ 40) && ss.all (VS ss.length)
theorem oI {n i : Nat} {p : Nat → Bool} (hi : i < n) (h : p i = false) : (List.range n).all p = false := by
 rw [Bool.eq_false_iff]
 intro h2
 have := List.all_eq_true.1 h2 i (List.mem_range.2 hi)
 rw [h] at this; cases this
theorem gS {n : Nat} {p : Nat → Bool} (h : ∀ i, i < n → p i = true) : (List.range n).all p = true := List.all_eq_true.2 fun i hi => h i (List.mem_range.1 hi)
theorem psum_bd {bs : List BR} : ∀ i, i ≤ bs.length → (∀ j, j < i → vn (bs.getD j default).2 = true) → Bd (1 + 3 * i) (psum bs i)
 | 0, _, _ => Bd0 (by decide)
 | i + 1, hi, h => by
  have h1 := psum_bd i om (fun j hj => h j om)
  have h2 : VN (bs.getD i default).2 := of_decide_eq_true (h i om)
  exact (h1.add h2.bd).mono om
theorem okB_vn {n : Nat} {bs : List BR} {i : Nat} (h : okB n bs i = true) : vn (bs.getD i default).2 = true ∧ 0 < (bs.getD i default).2.1 := by
 unfold okB at h
 rw [Bool.and_eq_true, Bool.and_eq_true] at h
 exact ⟨h.1.2, of_decide_eq_true h.2⟩
theorem VC_no1 {n : Nat} {c : CH} (h : vn c.1 = false) : VC n c = false := by unfold VC; rw [h]; rfl
theorem VC_no2 {n : Nat} {c : CH} (h : c.2.2.length < 1 ∨ 8 < c.2.2.length) : VC n c = false := by
 unfold VC
 rcases h with h | h
 ·rw [decide_eq_false (show ¬ 1 ≤ c.2.2.length by omega), Bool.and_false]; rfl
 ·rw [decide_eq_false (show ¬ c.2.2.length ≤ 8 by omega), Bool.and_false]; rfl
theorem VC_no3 {n i : Nat} {c : CH} (hi : i < c.2.2.length) (h : okB n c.2.2 i = false) : VC n c = false := by
 unfold VC
 rw [oI hi h, Bool.and_false]; rfl
theorem VC_yes {n : Nat} {c : CH} (h1 : vn c.1 = true) (h2 : 1 ≤ c.2.2.length) (h3 : c.2.2.length ≤ 8) (h4 : ∀ i, i < c.2.2.length → okB n c.2.2 i = true) : VC n c = decide (psum c.2.2 c.2.2.length = 1) := by
 unfold VC
 rw [h1, decide_eq_true h2, decide_eq_true h3, gS h4]; rfl
theorem okB_no {n i : Nat} {bs : List BR} (h : (bs.getD i default).1 ≤ lastB bs i ∨ (n : Int) ≤ (bs.getD i default).1 ∨ vn (bs.getD i default).2 = false ∨ (bs.getD i default).2.1 ≤ 0) : okB n bs i = false := by
 unfold okB
 rcases h with h | h | h | h
 ·rw [decide_eq_false (show ¬ lastB bs i < (bs.getD i default).1 by omega)]; rfl
 ·rw [decide_eq_false (show ¬ (bs.getD i default).1 < (n : Int) by omega), Bool.and_false]; rfl
 ·rw [h, Bool.and_false]; rfl
 ·rw [decide_eq_false (show ¬ 0 < (bs.getD i default).2.1 by omega), Bool.and_false]
theorem okB_yes {n i : Nat} {bs : List BR} (h1 : lastB bs i < (bs.getD i default).1) (h2 : (bs.getD i default).1 < (n : Int)) (h3 : vn (bs.getD i default).2 = true) (h4 : 0 < (bs.getD i default).2.1) : okB n bs i = true := by
 unfold okB
 rw [decide_eq_true h1, decide_eq_true h2, h3, decide_eq_true h4]; rfl
theorem sign_one {x : Rat} : ((x - 1).num.sign = 0) ↔ x = 1 := by
 rw [fH]
 constructor <;> intro h <;> grind
theorem VS_no {n : Nat} {s : ST} (h : s.1.1 < 0 ∨ 1 < s.1.1 ∨ s.1.2 < 0 ∨ 63 < s.1.2 ∨ s.2.2.length < 1 ∨ 8 < s.2.2.length) : VS n s = false := by
 unfold VS
 rcases h with h | h | h | h | h | h
 ·rw [decide_eq_false (show ¬ 0 ≤ s.1.1 by omega)]; rfl
 ·rw [decide_eq_false (show ¬ s.1.1 ≤ 1 by omega), Bool.and_false]; rfl
 ·rw [decide_eq_false (show ¬ 0 ≤ s.1.2 by omega), Bool.and_false]; rfl
 ·rw [decide_eq_false (show ¬ s.1.2 ≤ 63 by omega), Bool.and_false]; rfl
 ·rw [decide_eq_false (show ¬ 1 ≤ s.2.2.length by omega), Bool.and_false]; rfl
 ·rw [decide_eq_false (show ¬ s.2.2.length ≤ 8 by omega), Bool.and_false]; rfl
theorem VS_no2 {n j : Nat} {s : ST} (hj : j < s.2.2.length) (h : VC n (s.2.2.getD j default) = false) : VS n s = false := by
 unfold VS
 rw [all_no (i := j) hj h, Bool.and_false]
theorem VS_yes {n : Nat} {s : ST} (h1 : 0 ≤ s.1.1) (h2 : s.1.1 ≤ 1) (h3 : 0 ≤ s.1.2) (h4 : s.1.2 ≤ 63) (h5 : 1 ≤ s.2.2.length) (h6 : s.2.2.length ≤ 8) (h7 : s.2.2.all (VC n) = true) : VS n s = true := by
 unfold VS
 rw [decide_eq_true h1, decide_eq_true h2, decide_eq_true h3, decide_eq_true h4, decide_eq_true h5, decide_eq_true h6, h7]; rfl
theorem VMo_no {ss : List ST} (h : ss.length < 1 ∨ 40 < ss.length) : VMo ss = false := by
 unfold VMo
 rcases h with h | h
 ·rw [decide_eq_false (show ¬ 1 ≤ ss.length by omega)]; rfl
 ·rw [decide_eq_false (show ¬ ss.length ≤ 40 by omega), Bool.and_false]; rfl
theorem kB {i : Nat} {ss : List ST} (hi : i < ss.length) (h : VS ss.length (ss.getD i default) = false) : VMo ss = false := by
 unfold VMo
 rw [all_no (i := i) hi h, Bool.and_false]
theorem VMo_yes {ss : List ST} (h1 : 1 ≤ ss.length) (h2 : ss.length ≤ 40) (h3 : ss.all (VS ss.length) = true) : VMo ss = true := by
 unfold VMo
 rw [decide_eq_true h1, decide_eq_true h2, h3]; rfl
instance {c : CH} : DC (lvC c) := ⟨.agg _ (dchc1 c)⟩
instance {k : Nat} {ss : List ST} : DC (lvMo k ss) := ⟨.agg _ (by intro c hc; rw [List.mem_singleton] at hc; subst hc; exact .sl _ _ fun row hr c hc => dstc row hr c hc)⟩
open Go.RowKit
theorem okB_lo {n : Nat} {bs : List BR} : ∀ i, (∀ j, j < i → okB n bs j = true) → -1 ≤ lastB bs i
 | 0, _ => Int.le_refl _
 | i + 1, h => by
  have h1 := okB_lo i (fun j hj => h j om)
  have h2 := h i om
  unfold okB at h2
  rw [Bool.and_eq_true, Bool.and_eq_true, Bool.and_eq_true] at h2
  have h3 := of_decide_eq_true h2.1.1.1
  show -1 ≤ (bs.getD i default).1
  omega
def ic (n : Int) : List LV := [.v (.int .i64 n)]
theorem dic {l : List Int} : ∀ row, row ∈ l.map ic → ∀ c, c ∈ row → Data c := by
 intro row hr c hc
 obtain ⟨b, _, rfl⟩ := List.mem_map.1 hr
 rw [ic, List.mem_singleton] at hc
 subst hc; exact .v _
open Go.RowKit
section
variable {P : Program} {T : TT} {E : TypeId → Bool} {e : Env} {h : Hp}
variable {dst : Option Tmp} {ty : TypeId} {pos : String} {af : Array Edge} {g : Option (Nat × Bool)} {id : Nat} {x y : Operand} {bt el : TypeId} {ti te : TI}
end
def sb (f : Nat → Bool) : List LV := (List.range 40).map fun i => .v (.bool (f i))
def lvS (f : Nat → Bool) : LV := .agg (sb f)
theorem data_sb (f : Nat → Bool) : ∀ c, c ∈ sb f → Data c := fun c hc => by
 obtain ⟨i, _, rfl⟩ := List.mem_map.1 hc
 exact .v _
instance {f : Nat → Bool} : DC (lvS f) := ⟨.agg _ (data_sb f)⟩
section
variable {P : Program} {T : TT} {E : TypeId → Bool} {e : Env} {h : Hp}
variable {dst : Option Tmp} {ty : TypeId} {pos : String} {af : Array Edge} {g : Option (Nat × Bool)} {id : Nat} {x y : Operand} {bt el : TypeId} {ti te : TI}
end
def inl (l : List Int) (i : Nat) (s : Nat) : Bool := (l.take i).any fun t => decide (t = s)
def inL (l : List Int) (s : Nat) : Bool := l.any fun t => decide (t = s)
end Go.Ab
namespace Go.Ab
open Go.RowKit
def tab {α : Type} (n : Nat) (f : Nat → α) : List α := (List.range n).map f
def fset {α : Type} (f : Nat → α) (j : Nat) (a : α) : Nat → α := fun i => if i = j then a else f i
theorem cW {α : Type} (n : Nat) (f : Nat → α) : (tab n f).length = n := by simp [tab]
theorem iJ {α : Type} [Inhabited α] {n j : Nat} (f : Nat → α) (h : j < n) : (tab n f).getD j default = f j := by
 rw [List.getD_eq_getElem?_getD, List.getElem?_eq_getElem (by rw [cW]; exact h)]
 simp [tab]
theorem tab_set {α : Type} {n j : Nat} (f : Nat → α) (a : α) : (tab n f).set j a = tab n (fset f j a) := by
 refine List.ext_getElem (by simp [tab]) fun i h1 h2 => ?_
 rw [List.getElem_set]
 simp only [tab, fset, List.getElem_map, List.getElem_range]
 by_cases h : j = i
 ·subst h; simp
 ·rw [if_neg h, if_neg (Ne.symm h)]
theorem tab_eq {α : Type} {n : Nat} {f g : Nat → α} (h : ∀ i, i < n → f i = g i) : tab n f = tab n g := List.map_congr_left fun i hi => h i (List.mem_range.1 hi)
theorem pN {α : Type} (n : Nat) (a : α) : List.replicate n a = tab n fun _ => a := by
 refine List.ext_getElem (by simp [tab]) fun i h1 h2 => by simp [tab]
def bc (b : Bool) : List LV := [.v (.bool b)]
theorem dbc (b : Bool) : ∀ c, c ∈ bc b → Data c := by intro c hc; rw [bc, List.mem_singleton] at hc; subst hc; exact .v _
theorem dic1 (b : Int) : ∀ c, c ∈ ic b → Data c := by intro c hc; rw [ic, List.mem_singleton] at hc; subst hc; exact .v _
def fl (n : Nat) (f : Nat → Bool) : List Int := ((List.range n).filter f).map fun (i : Nat) => (i : Int)
abbrev lvL (k : Nat) (l : List Int) : LV := .sl k (l.map ic)
abbrev lvF (k n : Nat) (f : Nat → Bool) : LV := .sl k ((tab n f).map bc)
abbrev lvG (k n : Nat) (g : Nat → Int) : LV := .sl k ((tab n g).map ic)
theorem dlvL (k : Nat) (l : List Int) : Data (lvL k l) := .sl _ _ dic
theorem dlvF (k n : Nat) (f : Nat → Bool) : Data (lvF k n f) := .sl _ _ (bN dbc)
instance {k : Nat} {l : List Int} : DC (lvL k l) := ⟨dlvL k l⟩
instance {k n : Nat} {f : Nat → Bool} : DC (lvF k n f) := ⟨dlvF k n f⟩
instance {k n : Nat} {f : Nat → Int} : DC (lvG k n f) := ⟨dlvL k _⟩
section
variable {P : Program} {T : TT} {E : TypeId → Bool} {e : Env} {h : Hp}
variable {dst : Option Tmp} {ty : TypeId} {pos : String} {af : Array Edge} {g : Option (Nat × Bool)} {id : Nat}
def Lent (h : Hp) (S : List Nat) : Prop := ∀ q, q ∈ S → ∃ o, getH h q = some o ∧ o.st ≠ 2
inductive SnapB (h : Hp) (S : List Nat) : List LV → List LV → Prop
 | nil : SnapB h S [] []
 | cons {l l' : LV} {ls ls' : List LV} : (∀ m, FitsM h m → Snap m (· ∈ S) l l') → SnapB h S ls ls' → SnapB h S (l :: ls) (l' :: ls')
theorem SnapB.snap {m : Mem} {S : List Nat} {d : Delta} {ls ls' : List LV} (hm : FitsM h m) (hk : keys d = S) (hw : SnapB h S ls ls') : SnapL m d ls ls' := by
 subst hk
 induction hw with
 | nil => exact ⟨rfl, by simp⟩
 | cons h1 _ ih =>
  refine ⟨by simp [ih.1], fun i l l' hl hl' => ?_⟩
  cases i with
  | zero => simp at hl hl'; subst hl; subst hl'; exact h1 m hm
  | succ i => simp at hl hl'; exact ih.2 i l l' hl hl'
theorem SnapB.data {S : List Nat} {l : LV} {ls ls' : List LV} (hl : Data l) (k : SnapB h S ls ls') : SnapB h S (l :: ls) (l :: ls') := .cons (fun m _ => .data _ hl) k
theorem SnapB.own {S : List Nat} {q sz len : Nat} {ob : Ob} {ls ls' : List LV} (ys : List (List LV)) (hlen : len = ys.length) (hq : getH h q = some ob) (h2 : ob.st ≠ 2) (hz : ob.sz = sz) (h0 : 0 < sz) (hS : q ∈ S) (hc : ob.cells = ys.flatten) (hl : ∀ row, row ∈ ys → row.length = sz) (hd : ∀ row, row ∈ ys → ∀ c, c ∈ row → Data c) (k : SnapB h S ls ls') :
  SnapB h S (.ref q sz 0 len :: ls) (.sl 1 ys :: ls') := .cons (fun m hm => by
   subst hlen
   obtain ⟨d, hk⟩ : ∃ d : Delta, keys d = S := ⟨S.map fun q => (q, ⟨[], 0, 0, 0⟩), by simp [keys, Function.comp_def]⟩
   subst hk
   exact mF hq h2 hz h0 hS hc hl hd m hm) k
theorem snapBox {S : List Nat} {q : Nat} {ob : Ob} {ds : List LV} {m : Mem} (hq : m q = some ob) (h2 : ob.st ≠ 2) (hS : q ∈ S) (hlen : ob.cells.length = ds.length) (ho : ∀ (i : Nat) (c d : LV), ob.cells[i]? = some c → ds[i]? = some d → d.one = c.one) (hd : ∀ (i : Nat) (c d : LV), ob.cells[i]? = some c → ds[i]? = some d → Snap m (· ∈ S) c d) :
  Snap m (· ∈ S) (.ptr q 0) (.ro ds) := .ptr q 0 ob ds hq hS h2 (by simpa using hlen) (by simpa using ho) (by simpa using hd)
theorem snapBoxD {S : List Nat} {q : Nat} {ob : Ob} {m : Mem} (hq : m q = some ob) (h2 : ob.st ≠ 2) (hS : q ∈ S) (hd : ∀ c, c ∈ ob.cells → Data c) : Snap m (· ∈ S) (.ptr q 0) (.ro ob.cells) :=
 snapBox hq h2 hS rfl (fun i c d hc hd => by rw [hc] at hd; cases hd; rfl) fun i c d hc hd' => by rw [hc] at hd'; cases hd'; exact .data _ (hd c (List.mem_of_getElem? hc))
end
end Go.Ab
namespace Go.Ab
open Go.RowKit
section
variable {P : Program} {T : TT} {E : TypeId → Bool} {e : Env} {h : Hp}
variable {dst : Option Tmp} {ty : TypeId} {pos : String} {af : Array Edge} {g : Option (Nat × Bool)} {id : Nat} {x y : Operand} {bt el : TypeId} {ti te : TI}
theorem oStTi {f : Nat → Int} {b : Int} {n j r : Nat} (hx : evE e x = some (.ptr r ((0 + j) * 1))) (hy : evE e y = some (.v (.int .i64 b))) (hE : T bt = some ti) (hr : getH h r = some { cells := ((tab n f).map ic).flatten, sz := 1, elem := el, st := 0 }) (hj : j < n) (hz : 1 = ti.size) :
  OP P T E ⟨dst, .store bt x y, ty, pos, af, g⟩ id e h (.v undef) [(r, { cells := ((tab n (fset f j b)).map ic).flatten, sz := 1, elem := el, st := 0 })] [r] := by
 have := eE (P := P) (T := T) (E := E) (e := e) (h := h) (dst := dst) (ty := ty) (pos := pos) (af := af) (g := g) (id := id) (f := ic) (us := tab n f) b hx hy hE hr (fun _ => rfl) hz rfl (by rw [cW]; exact hj) rfl
 rwa [tab_set] at this
end
theorem rows_ic {n : Nat} {f : Nat → Int} : ∀ row, row ∈ (tab n f).map ic → row.length = 1 := cJ (f := ic) fun _ => rfl
def wi (c : CH) (f : Nat → Bool) : Bool := c.2.2.all fun b => f b.1.toNat
def me (c : CH) (f : Nat → Bool) : Bool := c.2.2.any fun b => f b.1.toNat
def okc (f g : Nat → Bool) (c : CH) : Bool := wi c f && me c g
def alw (ss : List ST) (s : Nat) (p : Int) (f g : Nat → Bool) : Bool :=
 if (ss.getD s default).1.1 = p then (ss.getD s default).2.2.any (okc f g) else (ss.getD s default).2.2.all (okc f g)
structure WT (ss : List ST) : Prop where
 to : ∀ s, s ∈ ss → ∀ c, c ∈ s.2.2 → ∀ b, b ∈ c.2.2 → 0 ≤ b.1 ∧ b.1 < ss.length
 len : ss.length ≤ 40
end Go.Ab
namespace Go.Ab
open Go.RowKit
theorem tab_repi (n : Nat) : (List.replicate n [LV.v (.int .i64 0)]).flatten = ((tab n fun _ => (0 : Int)).map ic).flatten := by rw [← pN, List.map_replicate]; rfl
section
variable {P : Program} {T : TT} {E : TypeId → Bool} {e : Env} {h : Hp}
variable {dst : Option Tmp} {ty : TypeId} {pos : String} {af : Array Edge} {g : Option (Nat × Bool)} {id : Nat} {x y : Operand} {bt el : TypeId} {ti te : TI}
end
end Go.Ab
namespace Go.Ab
open Go.RowKit
section
variable {P : Program} {T : TT} {E : TypeId → Bool} {e : Env} {h : Hp}
variable {dst : Option Tmp} {ty : TypeId} {pos : String} {af : Array Edge} {g : Option (Nat × Bool)} {id : Nat}
theorem SnapB.get {S : List Nat} {m : Mem} (hm : FitsM h m) {ls ls' : List LV} (hw : SnapB h S ls ls') : ls.length = ls'.length ∧ ∀ (i : Nat) (c d : LV), ls[i]? = some c → ls'[i]? = some d → Snap m (· ∈ S) c d := by
 induction hw with
 | nil => exact ⟨rfl, by simp⟩
 | cons h1 _ ih =>
  refine ⟨by simp [ih.1], fun i l l' hl hl' => ?_⟩
  cases i with
  | zero => simp at hl hl'; subst hl; subst hl'; exact h1 m hm
  | succ i => simp at hl hl'; exact ih.2 i l l' hl hl'
theorem SnapB.fn {S : List Nat} {f : Fn} {as0 as1 bs bs' ls ls' : List LV} (h1 : SnapB h S as0 as1) (h2 : SnapB h S bs bs') (k : SnapB h S ls ls') : SnapB h S (.fn f as0 bs :: ls) (.fn f as1 bs' :: ls') :=
 .cons (fun m hm => .fn f _ _ _ _ (h1.get hm).1 (h2.get hm).1 (h1.get hm).2 (h2.get hm).2) k
theorem SnapB.box {S : List Nat} {q : Nat} {ob : Ob} {ls ls' : List LV} (hq : getH h q = some ob) (hS : q ∈ S) (h2 : ob.st ≠ 2) (hd : ∀ c, c ∈ ob.cells → Data c) (k : SnapB h S ls ls') : SnapB h S (.ptr q 0 :: ls) (.ro ob.cells :: ls') :=
 .cons (fun m hm => snapBoxD (hm _ _ hq) h2 hS hd) k
theorem SnapB.app {S : List Nat} {as0 as1 bs bs' : List LV} (h1 : SnapB h S as0 as1) (h2 : SnapB h S bs bs') : SnapB h S (as0 ++ bs) (as1 ++ bs') := by
 induction h1 with
 | nil => exact h2
 | cons k _ ih => exact .cons k ih
theorem Lent.cons {q : Nat} {S : List Nat} {o : Ob} (hq : getH h q = some o) (h2 : o.st ≠ 2) (k : Lent h S) : Lent h (q :: S) := fun r hr => by
 rcases List.mem_cons.1 hr with rfl | hr
 ·exact ⟨o, hq, h2⟩
 ·exact k r hr
theorem oCallVD {t : Tmp} {f : FuncId} {first cap : List LV} {args : Array Operand} {at_ : Array TypeId} {ls : List LV} {r : LV} (hv : evE e (.tmp t) = some (.fn (.func f) first cap)) (ha : argsE e args.toList = some ls) (hr : Run P T E (.call f (first ++ ls ++ cap) r)) (hd : ∀ c, c ∈ first ++ ls ++ cap → Data c) :
  OP P T E ⟨dst, .call { callee := .value (.tmp t), args := args, argTypes := at_ }, ty, pos, af, g⟩ id e h r [] [] := fun s m hs hm =>
 .pcall _ _ _ _ _ _ _ (.tmp t) f first cap (first ++ ls ++ cap) rfl rfl (hs _ _ hv) (by
  rw [eA hs ha]
  exact ⟨rfl, fun i l l' hl hl' => by rw [hl] at hl'; cases hl'; exact .data _ (hd l (List.mem_of_getElem? hl))⟩) (by intro p hp; simp at hp) hr
end
theorem data3 {as0 bs cs : List LV} (h1 : ∀ c, c ∈ as0 → Data c) (h2 : ∀ c, c ∈ bs → Data c) (h3 : ∀ c, c ∈ cs → Data c) : ∀ c, c ∈ as0 ++ bs ++ cs → Data c := fun c hc => by
 rcases List.mem_append.1 hc with hc | hc
 ·rcases List.mem_append.1 hc with hc | hc
  ·exact h1 c hc
  ·exact h2 c hc
 ·exact h3 c hc
theorem dfn {f : Fn} {as0 bs : List LV} (h1 : ∀ c, c ∈ as0 → Data c) (h2 : ∀ c, c ∈ bs → Data c) : Data (.fn f as0 bs) := .fn f as0 bs h1 h2
theorem d0 : ∀ c, c ∈ ([] : List LV) → Data c := by intro c hc; simp at hc
def pk (x : ST) (p : Int) (q : CH → Bool) : Int := if x.1.1 = p then fidx q x.2.2 else if x.2.2.any (fun c => !q c) then -1 else 0
end Go.Ab
namespace Go.Ab
open Go.RowKit
def mixf {α : Type} (f f' : Nat → α) (j : Nat) : Nat → α := fun s => if s < j then f' s else f s
theorem mixf_set {α : Type} {f f' : Nat → α} {j : Nat} : mixf f f' (j + 1) = fset (mixf f f' j) j (f' j) := by
 funext s
 unfold mixf fset
 by_cases h : s = j
 ·subst h; rw [if_pos om, if_pos rfl]
 ·rw [if_neg h]
  show _ = if s < j then f' s else f s
  by_cases h2 : s < j
  ·rw [if_pos h2, if_pos om]
  ·rw [if_neg h2, if_neg om]
theorem mixf_zero {α : Type} {f f' : Nat → α} : mixf f f' 0 = f := by funext s; unfold mixf; rw [if_neg om]
def gstep (ss : List ST) (p : Int) (ins old : Nat → Bool) (s : Nat) : Bool := old s || (decide (s < ss.length) && ins s && alw ss s p ins old)
def newc (ss : List ST) (p : Int) (ins old : Nat → Bool) (c : Nat → Int) (s : Nat) : Int :=
 if (!old s && decide (s < ss.length) && ins s && alw ss s p ins old && decide ((ss.getD s default).1.1 = p)) = true then pk (ss.getD s default) p (okc ins old) else c s
def gx (ss : List ST) (p : Int) (ins goal : Nat → Bool) : Nat → Nat → Bool
 | 0 => goal
 | k + 1 => gstep ss p ins (gx ss p ins goal k)
def gc (ss : List ST) (p : Int) (ins goal : Nat → Bool) : Nat → Nat → Int
 | 0 => fun _ => 0
 | k + 1 => newc ss p ins (gx ss p ins goal k) (gc ss p ins goal k)
theorem cS {H h : Hp} (hnd : subsM H H) (hs : ∀ q o, getH H q = some o → getH h q = some o) : subsM H h := by
 suffices ∀ L, subsM L H → subsM L h from this H hnd
 intro L
 induction L with
 | nil => intro _; trivial
 | cons p L ih => exact fun ⟨h1, h2⟩ => ⟨hs _ _ h1, ih h2⟩
section
variable {P : Program} {T : TT} {E : TypeId → Bool} {N : Nat} {oa : Array Oper} {l : List Oper} {i b n : Nat} {e : Env} {h : Hp} {Q : Env → Hp → Nat → Prop}
theorem WN.weakH (a : Hp) (hs : Hp.le a h) (k : WN P T E N oa l i b e a n Q) : WN P T E N oa l i b e h n Q := fun hd s m hf hm => k hd s m hf fun t l hg => hm t l (hs t l hg)
theorem nG (a : Hp) (hs : subsM a h) (k : WN P T E N oa l i b e a n Q) : WN P T E N oa l i b e h n Q := WN.weakH a hs.get k
end
end Go.Ab
namespace Go.Ab
open Go.RowKit
section
variable {ss : List ST} {p : Int} {ins old : Nat → Bool} {c : Nat → Int} {j : Nat}
end
section
variable {T : TT} {e : Env} {h : Hp} {ti : TI}
end
end Go.Ab
namespace Go.Ab
open Go.RowKit
theorem tab_repiF {n : Nat} {el : TypeId} {f : Nat → Int} (hf : ∀ i, f i = 0) : Ob.mk (List.replicate n [LV.v (.int .i64 0)]).flatten 1 el 0 = Ob.mk ((tab n f).map ic).flatten 1 el 0 := by
 rw [tab_repi, tab_eq (g := f) fun i _ => (hf i).symm]
end Go.Ab
namespace Go.Ab
open Go.RowKit
theorem WN.S0 {P : Program} {T : TT} {E : TypeId → Bool} {N : Nat} {oa : Array Oper} {i b n : Nat} {e : Env} {h : Hp} {Q : Env → Hp → Nat → Prop} {op : Op} {t : TypeId} {pos : String} {af : Array Edge} {l : List Oper} {r : LV} {d : Delta} {R : List Nat} (ho : OP P T E ⟨none, op, t, pos, af, none⟩ (b + i) e h r d R)
  (k : WN P T E N oa l (i + 1) b e (appH d h) n Q) : WN P T E N oa (⟨none, op, t, pos, af, none⟩ :: l) i b e h n Q := by
 intro hdr s m hs hm
 obtain ⟨hi, hl⟩ := fO hdr
 obtain ⟨rs, s', h1, h3⟩ := k hl _ _ hs (hm.app d)
 refine ⟨⟨i, keys d, R, false⟩ :: rs, s', ?_, h3⟩
 rw [List.length_cons, List.range'_succ]
 exact .did oa i _ b ⟨s, m, n⟩ s' rs _ r d R (by simpa using hi) rfl (ho s m (fun x l hx => dW hs hx) hm) h1
section
variable {ss : List ST} {p : Int} {g : Nat → Bool} (hg : ∀ s, g s = true → s < ss.length)
include hg
end
structure VM1 (ss : List ST) : Prop where
 wt : WT ss
 own : ∀ x, x ∈ ss → 0 ≤ x.1.1 ∧ x.1.1 ≤ 1
 cs : ∀ x, x ∈ ss → 1 ≤ x.2.2.length ∧ x.2.2.length ≤ 8
 bs : ∀ x, x ∈ ss → ∀ c, c ∈ x.2.2 → 1 ≤ c.2.2.length ∧ c.2.2.length ≤ 8
 pos : 1 ≤ ss.length
theorem kW {ss : List ST} (h : VMo ss = true) : VM1 ss := by
 unfold VMo at h
 rw [Bool.and_eq_true, Bool.and_eq_true] at h
 obtain ⟨⟨h1, h2⟩, h3⟩ := h
 have h1 := of_decide_eq_true h1
 have h2 := of_decide_eq_true h2
 have hs : ∀ x, x ∈ ss → VS ss.length x = true := List.all_eq_true.1 h3
 have hc : ∀ x, x ∈ ss → ∀ c, c ∈ x.2.2 → VC ss.length c = true := fun x hx => by
  have := hs x hx
  unfold VS at this
  rw [Bool.and_eq_true] at this
  exact List.all_eq_true.1 this.2
 refine ⟨⟨fun x hx c hcx b hb => ?_, h2⟩, fun x hx => ?_, fun x hx => ?_, fun x hx c hcx => ?_, h1⟩
 ·have := hc x hx c hcx
  unfold VC at this
  rw [Bool.and_eq_true, Bool.and_eq_true] at this
  have hok := List.all_eq_true.1 this.1.2
  obtain ⟨i, hi, rfl⟩ := List.getElem_of_mem hb
  have hlo := okB_lo (n := ss.length) (bs := c.2.2) i fun j hj => hok j (List.mem_range.2 om)
  have hi2 := hok i (List.mem_range.2 hi)
  unfold okB at hi2
  rw [Bool.and_eq_true, Bool.and_eq_true, Bool.and_eq_true] at hi2
  have e1 := of_decide_eq_true hi2.1.1.1
  have e2 := of_decide_eq_true hi2.1.1.2
  rw [show c.2.2.getD i default = c.2.2[i] by rw [List.getD_eq_getElem?_getD, List.getElem?_eq_getElem hi]; rfl] at e1 e2
  omega
 ·have := hs x hx
  unfold VS at this
  simp only [Bool.and_eq_true, decide_eq_true_eq] at this
  omega
 ·have := hs x hx
  unfold VS at this
  simp only [Bool.and_eq_true, decide_eq_true_eq] at this
  omega
 ·have := hc x hx c hcx
  unfold VC at this
  simp only [Bool.and_eq_true, decide_eq_true_eq] at this
  omega
end Go.Ab
namespace Go.Ab
open Go.RowKit
section
variable {ss : List ST} {p : Int} {l : List Int} (hg : ∀ s, inL l s = true → s < ss.length)
include hg
end
theorem eqL_take {l l' : List Int} {i : Nat} (h : l.take i = l'.take i) (h1 : i < l.length) (h2 : i < l'.length) (he : l.getD i default = l'.getD i default) : l.take (i + 1) = l'.take (i + 1) := by
 rw [List.take_succ_eq_append_getElem h1, List.take_succ_eq_append_getElem h2, h]
 rw [List.getD_eq_getElem?_getD, List.getD_eq_getElem?_getD, List.getElem?_eq_getElem h1, List.getElem?_eq_getElem h2] at he
 simp only [Option.getD_some] at he
 rw [he]
theorem eqL_no {l l' : List Int} {i : Nat} (h1 : i < l.length) (h2 : i < l'.length) (he : l.getD i default ≠ l'.getD i default) : l ≠ l' := fun h => he (by rw [h])
end Go.Ab
namespace Go.Ab
open Go.RowKit
section
variable {P : Program} {T : TT} {E : TypeId → Bool} {e : Env} {h : Hp}
variable {dst : Option Tmp} {ty : TypeId} {pos : String} {af : Array Edge} {g : Option (Nat × Bool)} {id : Nat} {x y lo hi : Operand} {bt el : TypeId} {ti te : TI} {k : Nat}
theorem oStV {q sz s r off : Nat} {us : List (List LV)} {c : LV} (hx : evE e x = some (.ptr r off)) (ho : off = 0) (hy : evE e y = some (outV q sz us)) (hE : T bt = some ti) (hz : ti.size = 1) (hr : getH h r = some { cells := [c], sz := s, elem := el, st := 0 }) :
  OP P T E ⟨dst, .store bt x y, ty, pos, af, g⟩ id e h (.v undef) [(r, { cells := [outV q sz us], sz := s, elem := el, st := 0 })] [r] := by
 subst ho
 cases us with
 | nil => exact cA hx hy hE hr rfl rfl (by rw [hz]; rfl) rfl
 | cons u us => exact cA hx hy hE hr rfl rfl (by rw [hz]; rfl) rfl
end
theorem jZ {α : Type} {n : Nat} (f : Nat → α) : tab (n + 1) f = tab n f ++ [f n] := by simp [tab, List.range_succ]
def hit (bs : List BR) (t : Nat) : Bool := bs.any fun b => decide (b.1.toNat = t)
def nxt (ss : List ST) (s t : Nat) : Bool := (ss.getD s default).2.2.any fun c => hit c.2.2 t
def wst (k s : Nat) (g : Nat → Int) (t : Int) : Nat → Int := if g s < 0 ∧ g t.toNat = k then fset g s (k + 1) else g
def w3 (k s : Nat) (g : Nat → Int) (l : List Int) (i : Nat) : Nat → Int := (l.take i).foldl (wst k s) g
def w2 (ss : List ST) (k : Nat) (g : Nat → Int) : Nat → Nat → Int
 | 0 => g
 | j + 1 => w3 k j (w2 ss k g j) (fl ss.length (nxt ss j)) (fl ss.length (nxt ss j)).length
def winit (l : List Int) (s : Nat) : Int := if inL l s = true then 0 else -1
def w1 (ss : List ST) (l : List Int) : Nat → Nat → Int
 | 0 => winit l
 | k + 1 => w2 ss k (w1 ss l k) ss.length
def vSt (ss : List ST) (st : List Int) : Bool := decide (st.length = ss.length) && (List.range st.length).all fun i => decide (0 ≤ st.getD i default) && decide (st.getD i default < ((ss.getD i default).2.2.length : Int))
theorem range_take {n i : Nat} {p : Nat → Bool} (h : ∀ j, j < i → p j = true) (hi : n ≤ i) : (List.range n).all p = true := gS fun j hj => h j om
theorem mH {α : Type} {n : Nat} {f : Nat → α} {x : α} : x ∈ tab n f ↔ ∃ i, i < n ∧ f i = x := by
 unfold tab
 rw [List.mem_map]
 exact ⟨fun ⟨i, h1, h2⟩ => ⟨i, List.mem_range.1 h1, h2⟩, fun ⟨i, h1, h2⟩ => ⟨i, List.mem_range.2 h1, h2⟩⟩
theorem nC {ss : List ST} {st : List Int} (h : vSt ss st = true) {i : Nat} (hi : i < ss.length) : 0 ≤ st.getD i default ∧ st.getD i default < ((ss.getD i default).2.2.length : Int) := by
 unfold vSt at h
 rw [Bool.and_eq_true] at h
 have h1 := of_decide_eq_true h.1
 have h2 := List.all_eq_true.1 h.2 i (List.mem_range.2 om)
 rw [Bool.and_eq_true] at h2
 exact ⟨of_decide_eq_true h2.1, of_decide_eq_true h2.2⟩
theorem gU {ss : List ST} {st : List Int} (h : vSt ss st = true) : st.length = ss.length := by
 unfold vSt at h
 rw [Bool.and_eq_true] at h
 exact of_decide_eq_true h.1
end Go.Ab
namespace Go.Ab
open Go.RowKit
section
variable {P : Program} {T : TT} {E : TypeId → Bool} {e : Env} {h : Hp}
variable {dst : Option Tmp} {ty : TypeId} {pos : String} {af : Array Edge} {g : Option (Nat × Bool)} {id : Nat} {x y : Operand} {bt el : TypeId} {te : TI}
end
end Go.Ab
namespace Go.Ab
open Go.RowKit
end Go.Ab
namespace Go.Ab
open Go.RowKit
theorem HasC.i64 {T : TT} {t : TypeId} {cs : List LV} (h : HasC T t cs) (ht : dsc T t = some (.int .i64)) : ∃ z, cs = [.v (.int .i64 z)] ∧ I64 z := by
 cases h with
 | int _ k n h1 h2 h3 => rw [ht] at h1; cases h1; exact ⟨n, rfl, h2, h3⟩
 | bool _ b h1 => rw [ht] at h1; cases h1
 | nil _ e h1 => rw [ht] at h1; cases h1
 | sl _ e xs h1 => rw [ht] at h1; cases h1
 | st _ ti fs cs h1 h2 => unfold dsc at ht; rw [h1] at ht; simp only [Option.some.injEq] at ht; rw [h2] at ht; cases ht
open Go.RowKit
def Rk (k : Nat) (g g' : Nat → Int) : Prop := ∀ r, (0 ≤ g r → g' r = g r) ∧ (g r < 0 → g' r = g r ∨ g' r = k + 1)
theorem Rk.refl (k : Nat) (g : Nat → Int) : Rk k g g := fun r => ⟨fun _ => rfl, fun _ => .inl rfl⟩
theorem Rk.wst {k s : Nat} {g g' : Nat → Int} (h : Rk k g g') (t : Int) : Rk k g (wst k s g' t) := by
 unfold Go.Ab.wst
 by_cases hc : g' s < 0 ∧ g' t.toNat = k
 ·rw [if_pos hc]
  intro r
  unfold fset
  by_cases e : r = s
  ·subst e
   rw [if_pos rfl]
   refine ⟨fun h0 => ?_, fun _ => .inr rfl⟩
   have := (h r).1 h0
   omega
  ·rw [if_neg e]; exact h r
 ·rw [if_neg hc]; exact h
theorem Rk.fold {k s : Nat} {g : Nat → Int} : ∀ (L : List Int) {g' : Nat → Int}, Rk k g g' → Rk k g (L.foldl (Go.Ab.wst k s) g')
 | [], _, h => h
 | t :: L, _, h => Rk.fold L (h.wst t)
theorem Rk.w2 {ss : List ST} {k : Nat} {g : Nat → Int} : ∀ j, Rk k g (Go.Ab.w2 ss k g j)
 | 0 => .refl _ _
 | j + 1 => Rk.fold _ (Rk.w2 j)
section
variable {ss : List ST} {l : List Int}
end
end Go.Ab
namespace Go.Ab
open Go.RowKit
section
variable {ss : List ST} {p : Int} {g : Nat → Bool} (hn : ss.length ≤ 40) (hg : ∀ s, g s = true → s < ss.length)
include hn hg
end
def tos (c : CH) : List Int := c.2.2.map (·.1)
structure Alk (ss ss' : List ST) : Prop where
 len : ss.length = ss'.length
 own : ∀ s, s < ss.length → (ss.getD s default).1.1 = (ss'.getD s default).1.1
 cs : ∀ s, s < ss.length → (ss.getD s default).2.2.map tos = (ss'.getD s default).2.2.map tos
theorem wi_tos {c : CH} {f : Nat → Bool} : wi c f = (tos c).all fun t => f t.toNat := by unfold wi tos; rw [List.all_map]; rfl
theorem me_tos {c : CH} {f : Nat → Bool} : me c f = (tos c).any fun t => f t.toNat := by unfold me tos; rw [List.any_map]; rfl
theorem okc_tos {f g : Nat → Bool} : okc f g = (fun l : List Int => (l.all fun t => f t.toNat) && (l.any fun t => g t.toNat)) ∘ tos := by
 funext c; unfold okc; rw [wi_tos, me_tos]; rfl
theorem Alk.alw {ss ss' : List ST} (h : Alk ss ss') {s : Nat} (hs : s < ss.length) {p : Int} {f g : Nat → Bool} : Go.Ab.alw ss s p f g = Go.Ab.alw ss' s p f g := by
 unfold Go.Ab.alw
 rw [h.own s hs, okc_tos, ← List.any_map, ← List.all_map, h.cs s hs, List.any_map, List.all_map]
theorem Alk.gstep {ss ss' : List ST} (h : Alk ss ss') {p : Int} {ins old : Nat → Bool} : Go.Ab.gstep ss p ins old = Go.Ab.gstep ss' p ins old := by
 funext s
 unfold Go.Ab.gstep
 rw [← h.len]
 by_cases hs : s < ss.length
 ·rw [h.alw hs]
 ·rw [decide_eq_false hs]; rfl
theorem Alk.gx {ss ss' : List ST} (h : Alk ss ss') {p : Int} {ins g : Nat → Bool} : ∀ k, Go.Ab.gx ss p ins g k = Go.Ab.gx ss' p ins g k
 | 0 => rfl
 | k + 1 => by
  show Go.Ab.gstep ss p ins (Go.Ab.gx ss p ins g k) = Go.Ab.gstep ss' p ins (Go.Ab.gx ss' p ins g k)
  rw [h.gx k, h.gstep]
end Go.Ab
namespace Go.Ab
open Go.RowKit
section
variable {P : Program} {T : TT} {E : TypeId → Bool} {N : Nat} {e : Env} {h : Hp} {K : Env → Hp → Prop}
theorem Fz.cellR {q sz C z : Nat} {el el2 : TypeId} {us : List (List LV)} {A : List LV} {H : Hp} (a : Env) (hs : subs a e) (hqC : q ≠ C) (h0 : 0 < sz) (hl : ∀ row, row ∈ us → row.length = sz) (hd : ∀ row, row ∈ us → ∀ c, c ∈ row → Data c) (hH : getH H q = none)
  (k : K a ((C, { cells := A ++ [outR us], sz := z, elem := el2, st := 0 }) :: H)) : Fz N e (outH q sz el us ((C, { cells := A ++ [outV q sz us], sz := z, elem := el2, st := 0 }) :: H)) K := by
 cases us with
 | nil => exact Fz.same a _ hs (fun _ _ h => h) k
 | cons u us =>
  refine Fz.one (u :: us) a ((C, { cells := A ++ [outR (u :: us)], sz := z, elem := el2, st := 0 }) :: H) (ob := { cells := (u :: us).flatten, sz := sz, elem := el, st := 0 }) g0 (by show (0 : Nat) ≠ 2; decide) rfl h0 rfl hl hd (fun t l2 h2 => ⟨l2, hs.get t l2 h2, .inl rfl⟩) (fun r o2 hr => ?_) k
  by_cases e1 : C = r
  ·subst e1
   rw [g0] at hr; cases hr
   refine ⟨fun hc => hqC hc.symm, _, g1 hqC g0, rfl, by simp, fun i c c2 hc hc2 => ?_⟩
   rcases Nat.lt_or_ge i A.length with hi | hi
   ·rw [List.getElem?_append_left hi] at hc hc2
    rw [hc] at hc2; exact .inl (Option.some.inj hc2).symm
   ·rw [List.getElem?_append_right hi] at hc hc2
    rcases Nat.eq_zero_or_pos (i - A.length) with h1 | h1
    ·rw [h1] at hc hc2
     simp only [List.getElem?_cons_zero, Option.some.injEq] at hc hc2
     exact .inr ⟨hc.symm, hc2.symm⟩
    ·rw [List.getElem?_eq_none (by simp; omega)] at hc; cases hc
  ·rw [g1 e1 rfl] at hr
   refine ⟨fun hc => ?_, o2, g1 (fun hc => ?_) (g1 e1 hr), rfl, rfl, fun i c c2 hc hc2 => .inl (by rw [hc] at hc2; exact (Option.some.inj hc2).symm)⟩
   ·rw [hc, hH] at hr; cases hr
   ·rw [← hc, hH] at hr; cases hr
end
def KC (c : CH) : Prop := c.2.1 = 0 → c.2.2 = []
def KN (ss : List ST) : Prop := ∀ x, x ∈ ss → ∀ c, c ∈ x.2.2 → KC c
end Go.Ab
namespace Go.Ab
open Go.RowKit
section
variable {ss : List ST} {l : List Int} {p : Int} {L st : List Int} {b : Bool}
end
theorem KN.ne {ss : List ST} (h : KN ss) (hV : VM1 ss) : ∀ x, x ∈ ss → ∀ c, c ∈ x.2.2 → c.2.1 ≠ 0 := fun x hx c hc h0 => by
 have h1 := (hV.bs x hx c hc).1
 rw [h x hx c hc h0] at h1
 exact absurd h1 (by decide)
end Go.Ab
namespace Go.Ab
theorem rI {f : Nat → Rat} : ∀ n, (∀ i, 0 < i → i < n + 1 → f i = 0) → sm f (n + 1) = f 0
 | 0, _ => by show 0 + f 0 = f 0; rw [Rat.zero_add]
 | n + 1, h => by
  show sm f (n + 1) + f (n + 1) = f 0
  rw [rI n fun i h0 hi => h i h0 om, h (n + 1) om om, Rat.add_zero]
theorem det_zcol : ∀ n {M : Nat → Nat → Rat}, (∀ i, i ≤ n → M i n = 0) → det (n + 1) M = 0
 | 0, M, h => by
  show 0 + sg 0 * M 0 0 * 1 = 0
  rw [h 0 (Nat.le_refl _)]; grind
 | n + 1, M, h => by
  rw [det]
  refine (cG (g := fun _ => 0) _ fun i hi => ?_).trans (iI _)
  rw [det_zcol n fun a ha => h _ (by unfold skp; split <;> omega)]; grind
theorem det_last : ∀ n {M : Nat → Nat → Rat}, (∀ i, i < n → M i n = 0) → M n n = 1 → det (n + 1) M = det n M
 | 0, M, _, h => by
  show 0 + 1 * M 0 0 * 1 = 1
  rw [h]; grind
 | n + 1, M, h, h1 => by
  rw [det, sm, det_zcol n (M := fun a b => M (skp (n + 1) a) (b + 1)) fun a ha => h _ (by unfold skp; split <;> omega), det]
  rw [show sg (n + 1) * M (n + 1) 0 * (0 : Rat) = 0 by grind, Rat.add_zero]
  refine cG _ fun i hi => ?_
  rw [det_last n (M := fun a b => M (skp i a) (b + 1)) (fun a ha => h _ (by unfold skp; split <;> omega)) (by rw [show skp i n = n + 1 by unfold skp; split <;> omega]; exact h1)]
def colF (k : Nat) (x : Nat → Rat) : Nat → Nat → Rat := fun i b => if b = k then x i else if i = b then 1 else 0
theorem det_col : ∀ n {k : Nat} {x : Nat → Rat}, k < n → det n (colF k x) = x k
 | 0, _, _, h => absurd h om
 | n + 1, 0, x, _ => by
  rw [det, rI n fun i h0 hi => ?_]
  ·have e : det n (fun a b => colF 0 x (skp 0 a) (b + 1)) = det n oneF := dV n fun a b _ _ => by
    show (if b + 1 = 0 then x (skp 0 a) else if skp 0 a = b + 1 then 1 else 0) = if a = b then 1 else 0
    rw [show skp 0 a = a + 1 by unfold skp; rw [if_neg om], if_neg om]
    by_cases h : a = b
    ·rw [if_pos h, if_pos om]
    ·rw [if_neg h, if_neg om]
   rw [e, det_one]
   show 1 * (if 0 = 0 then x 0 else _) * 1 = x 0
   rw [if_pos rfl]; grind
  ·have e : det n (fun a b => colF 0 x (skp i a) (b + 1)) = 0 := (lB n).zero _ (r := 0) om fun b hb => by
    unfold colF skp
    rw [if_pos h0, if_neg om, if_neg om]
   rw [e]; grind
 | n + 1, k + 1, x, h => by
  rw [det, rI n fun i h0 hi => by rw [show colF (k + 1) x i 0 = 0 by unfold colF; rw [if_neg om, if_neg om]]; grind]
  have e : det n (fun a b => colF (k + 1) x (skp 0 a) (b + 1)) = det n (colF k fun a => x (a + 1)) := dV n fun a b _ _ => by
   unfold colF skp
   rw [if_neg (show ¬ a < 0 by omega)]
   by_cases h1 : b = k
   ·rw [if_pos h1, if_pos om]
   ·rw [if_neg h1, if_neg om]
    by_cases h2 : a = b
    ·rw [if_pos h2, if_pos om]
    ·rw [if_neg h2, if_neg om]
  rw [e, det_col n om, show colF (k + 1) x 0 0 = 1 by unfold colF; rw [if_neg om, if_pos rfl]]
  show 1 * 1 * x (k + 1) = _
  grind
def toL (n : Nat) (M : Nat → Nat → Rat) : List (List Rat) := (List.range n).map fun i => (List.range n).map fun j => M i j
theorem toL_ent {n : Nat} {M : Nat → Nat → Rat} {i j : Nat} (hi : i < n) (hj : j < n) : ent (toL n M) i j = M i j := by unfold ent toL; rw [fK hi, fK hj]
theorem toL_len (n : Nat) (M : Nat → Nat → Rat) : (toL n M).length = n := by simp [toL]
theorem toL_wid (n : Nat) (M : Nat → Nat → Rat) : Wid n (toL n M) := fun r hr => by
 obtain ⟨i, _, rfl⟩ := List.mem_map.1 hr
 simp
theorem oV (n : Nat) (M B : Nat → Nat → Rat) : det n (mulF n M B) = det n M * det n B := by
 have h1 : det n M = det n (fm (toL n M)) := dV n fun a b ha hb => (toL_ent ha hb).symm
 rw [h1, det_dtv (toL_len n M) (toL_wid n M), ← det_mulF (toL_len n M) (toL_wid n M)]
 refine dV n fun a b ha hb => ?_
 unfold mulF
 exact cG _ fun t ht => by rw [show fm (toL n M) a t = M a t from toL_ent ha ht]
theorem cramer {n k : Nat} (hk : k < n) (A : Nat → Nat → Rat) (x b : Nat → Rat) (h : ∀ a, a < n → sm (fun t => A a t * x t) n = b a) : det n (fun a c => if c = k then b a else A a c) = det n A * x k := by
 rw [← det_col n (x := x) hk, ← oV]
 refine dV n fun a c ha hc => ?_
 unfold mulF colF
 by_cases e : c = k
 ·rw [if_pos e, ← h a ha]
  exact cG _ fun t ht => by rw [if_pos e]
 ·rw [if_neg e, gF n hc fun i hi hne => by rw [if_neg e, if_neg hne]; grind]
  rw [if_neg e, if_pos rfl]; grind
structure PV (R S : List (List Rat)) (L : List Nat) (w : Nat) (g : Rat) (π : Nat → Nat) : Prop where
 rng : ∀ i, i < R.length → π i < R.length
 eq : ∀ i j, i < R.length → j < w → ent R (π i) j = sm (fun k => ent R (π i) (L.getD k default) * ent S k j) L.length + (if i < L.length then 0 else ent S i j)
 dt : g = det L.length (fun a b => ent R (π a) (L.getD b default)) ∨ g = -det L.length (fun a b => ent R (π a) (L.getD b default))
theorem swp_r (a r : Nat) : swp a r r = a := by
 unfold swp
 by_cases h : r = a
 ·rw [if_pos h, h]
 ·rw [if_neg h, if_pos rfl]
theorem PV.step {R S B : List (List Rat)} {L : List Nat} {w a c : Nat} {g : Rat} {π : Nat → Nat} (hSl : S.length = R.length) (hc : c < w) (ha : L.length ≤ a) (h : PV R S L w g π) (hs : Stp S B w a L.length c) :
  PV R B (L ++ [c]) w ((if a ≠ L.length then -g else g) * ent S a c) (fun i => π (swp a L.length i)) := by
 have haR : a < R.length := by have := hs.ha; omega
 have hrR : L.length < R.length := by have := hs.hr; omega
 have hsw : ∀ i, i < R.length → swp a L.length i < R.length := fun i hi => oP hi haR hrR
 have hLk : ∀ k, k < L.length → (L ++ [c]).getD k default = L.getD k default := fun k hk => mG hk
 have hLr : (L ++ [c]).getD L.length default = c := oN
 have hlen : (L ++ [c]).length = L.length + 1 := by simp
 refine ⟨fun i hi => h.rng _ (hsw i hi), fun i j hi hj => ?_, ?_⟩
 ·have e1 := h.eq (swp a L.length i) j (hsw i hi) hj
  have e2 := h.eq (swp a L.length i) c (hsw i hi) hc
  rw [hlen, sm, hLr]
  have e3 : sm (fun k => ent R (π (swp a L.length i)) ((L ++ [c]).getD k default) * ent B k j) L.length = sm (fun k => ent R (π (swp a L.length i)) (L.getD k default) * ent S k j) L.length + -(1 / ent S a c * ent S a j) * sm (fun k => ent R (π (swp a L.length i)) (L.getD k default) * ent S k c) L.length := by
   rw [gT, ← pL]
   refine cG _ fun k hk => ?_
   rw [hLk k hk, hs.oth k j om om hj, pM hk ha]; grind
  have hBr := hs.row j hj
  have hne := hs.ne
  rw [e3, hBr]
  by_cases h1 : i < L.length
  ·rw [if_pos om]
   rw [pM h1 ha, if_pos h1] at e1 e2
   rw [pM h1 ha]
   rw [e1, e2]; grind
  ·rw [if_neg (show ¬ swp a L.length i < L.length by have := swp_ge (a := a) (r := L.length) (i := i) om ha; omega)] at e1 e2
   by_cases h2 : i = L.length
   ·rw [if_pos om]
    rw [h2, swp_r] at e1 e2 ⊢
    rw [e1, e2]
    grind
   ·rw [if_neg om, hs.oth i j om h2 hj, e1, e2]; grind
 ·have hdet : det (L.length + 1) (fun x b => ent R (π (swp a L.length x)) ((L ++ [c]).getD b default)) = det L.length (fun x b => ent R (π x) (L.getD b default)) * ent S a c := by
   have h1 : det (L.length + 1) (fun x b => if b = L.length then (if x = L.length then 1 else 0) else ent R (π (swp a L.length x)) (L.getD b default)) = det L.length (fun x b => ent R (π x) (L.getD b default)) := by
    rw [det_last L.length (fun i hi => by rw [if_pos rfl, if_neg om]) (by rw [if_pos rfl, if_pos rfl])]
    refine dV _ fun x b hx hb => ?_
    rw [if_neg om, pM hx ha]
   rw [← h1]
   have hcol := det_col (L.length + 1) (k := L.length) (x := fun k => if k = L.length then ent S a c else ent S k c) om
   rw [if_pos rfl] at hcol
   rw [← hcol, ← oV]
   refine dV _ fun x b hx hb => ?_
   unfold mulF colF
   by_cases e : b = L.length
   ·have e2 := h.eq (swp a L.length x) c (hsw x om) hc
    rw [e, hLr, sm, e2]
    have e4 : sm (fun t => (if t = L.length then (if x = L.length then (1 : Rat) else 0) else ent R (π (swp a L.length x)) (L.getD t default)) * (if L.length = L.length then (if t = L.length then ent S a c else ent S t c) else if t = L.length then 1 else 0)) L.length = sm (fun k => ent R (π (swp a L.length x)) (L.getD k default) * ent S k c) L.length := cG _ fun t ht => by
     rw [if_neg om, if_pos rfl, if_neg om]
    rw [e4, if_pos rfl]
    congr 1
    show _ = (if L.length = L.length then (if x = L.length then (1 : Rat) else 0) else _) * (if L.length = L.length then ent S a c else _)
    rw [if_pos rfl, if_pos rfl]
    by_cases hx2 : x = L.length
    ·rw [if_pos hx2, hx2, swp_r, if_neg om]; grind
    ·rw [if_neg hx2, pM om ha, if_pos om]; grind
   ·rw [hLk b om, gF (L.length + 1) hb fun i hi hne => by rw [if_neg e, if_neg hne]; grind]
    show _ = (if b = L.length then _ else ent R (π (swp a L.length x)) (L.getD b default)) * (if b = L.length then _ else if b = b then 1 else 0)
    rw [if_neg e, if_neg e, if_pos rfl]; grind
  rw [hlen, hdet]
  rcases h.dt with h2 | h2 <;> (rw [h2]; by_cases h3 : a = L.length)
  ·rw [if_neg (by simp [h3])]; exact .inl rfl
  ·rw [if_pos h3]; exact .inr (by grind)
  ·rw [if_neg (by simp [h3])]; exact .inr (by grind)
  ·rw [if_pos h3]; exact .inl (by grind)
theorem PV.all {R : List (List Rat)} {w : Nat} (hw : Wid w R) (c : Nat) (hc : c ≤ w) : ∃ π, PV R (gjn R c).1 (gjn R c).2 w (gjd R c) π := by
 refine qW (P := fun c S L => ∃ π, PV R S L w (gjd R c) π) hw ⟨id, fun i hi => hi, fun i j hi hj => by simp [sm, Rat.zero_add], .inl rfl⟩ (fun c S L hcw he hSl hwS hL ⟨π, h⟩ hz => ?_) (fun c S L B a hcw he hSl hwS ha ⟨π, h⟩ hs hn hp => ?_) c hc
 ·refine ⟨π, ?_⟩
  rw [gjd_no (by rw [he]; exact jV (by show L.length ≤ S.length; omega) (Nat.le_refl _) (fun k h1 h2 => hz k h1 (by have h2' : k < S.length := h2; omega)) (.inl rfl))]
  exact h
 ·refine ⟨fun i => π (swp a L.length i), ?_⟩
  rw [nU (a := a) (by rw [he]; exact hp) (by rw [he]; exact hs.ha), he]
  exact h.step hSl hcw ha hs
def fbd (C : Nat) : Nat → Nat
 | 0 => 1
 | n + 1 => (n + 1) * (C * fbd C n)
def IsI (C : Nat) (x : Rat) : Prop := ∃ z : Int, x = (z : Rat) ∧ z.natAbs ≤ C
theorem IsI.mul {C D : Nat} {x y : Rat} (hx : IsI C x) (hy : IsI D y) : IsI (C * D) (x * y) := by
 obtain ⟨a, rfl, h1⟩ := hx
 obtain ⟨b, rfl, h2⟩ := hy
 exact ⟨a * b, by rw [Rat.intCast_mul], by rw [Int.natAbs_mul]; exact Nat.mul_le_mul h1 h2⟩
theorem IsI.mono {C D : Nat} {x : Rat} (hx : IsI C x) (h : C ≤ D) : IsI D x := let ⟨a, h1, h2⟩ := hx; ⟨a, h1, Nat.le_trans h2 h⟩
theorem IsI.sm {C : Nat} {f : Nat → Rat} : ∀ n, (∀ i, i < n → IsI C (f i)) → IsI (n * C) (Go.Ab.sm f n)
 | 0, _ => ⟨0, rfl, by simp⟩
 | n + 1, h => by
  obtain ⟨a, h1, h2⟩ := IsI.sm n fun i hi => h i om
  obtain ⟨b, h3, h4⟩ := h n om
  refine ⟨a + b, by rw [Go.Ab.sm, h1, h3, Rat.intCast_add], ?_⟩
  have := Int.natAbs_add_le a b
  rw [Nat.succ_mul]; omega
theorem sg_int : ∀ i, IsI 1 (sg i)
 | 0 => ⟨1, rfl, by decide⟩
 | i + 1 => by
  obtain ⟨a, h1, h2⟩ := sg_int i
  exact ⟨-a, by rw [sg, h1, Rat.intCast_neg], by rw [Int.natAbs_neg]; exact h2⟩
theorem det_int {C : Nat} : ∀ n {M : Nat → Nat → Rat}, (∀ a b, a < n → b < n → IsI C (M a b)) → IsI (fbd C n) (det n M)
 | 0, _, _ => ⟨1, rfl, Nat.le_refl 1⟩
 | n + 1, M, h => by
  refine IsI.sm (n + 1) fun i hi => ?_
  have h1 := det_int n (M := fun a b => M (skp i a) (b + 1)) fun a b ha hb => h _ _ (by unfold skp; split <;> omega) om
  have h2 := (((sg_int i).mul (h i 0 hi om)).mul h1)
  rwa [Nat.one_mul] at h2
theorem fbd_le {C K : Nat} : ∀ n, n ≤ K → fbd C n ≤ (K * C) ^ n
 | 0, _ => Nat.le_refl _
 | n + 1, h => by
  rw [fbd, Nat.pow_succ, ← Nat.mul_assoc, Nat.mul_comm ((K * C) ^ n)]
  exact Nat.mul_le_mul (Nat.mul_le_mul_right _ h) (fbd_le n om)
def pr : Nat → (Nat → Rat) → Rat
 | 0, _ => 1
 | n + 1, d => d 0 * pr n fun a => d (a + 1)
theorem det_diag : ∀ n (d : Nat → Rat), det n (fun a b => if a = b then d a else 0) = pr n d
 | 0, _ => rfl
 | n + 1, d => by
  rw [det, rI n fun i h0 hi => by rw [if_neg om]; grind, pr, ← det_diag n]
  rw [dV n (N := fun a b => if a = b then d (a + 1) else 0) fun a b _ _ => by
   unfold skp
   rw [if_neg (show ¬ a < 0 by omega)]
   by_cases e : a = b
   ·rw [if_pos e, if_pos om]
   ·rw [if_neg e, if_neg om]]
  rw [if_pos rfl]
  show 1 * d 0 * _ = _
  grind
theorem det_rows (n : Nat) (d : Nat → Rat) (M : Nat → Nat → Rat) : det n (fun a b => d a * M a b) = pr n d * det n M := by
 rw [← det_diag, ← oV]
 refine dV n fun a b ha hb => ?_
 unfold mulF
 rw [gF n ha fun i hi hne => by show (if a = i then d a else 0) * M i b = 0; rw [if_neg (Ne.symm hne)]; grind]
 show d a * M a b = (if a = a then d a else 0) * M a b
 rw [if_pos rfl]
theorem pr_int {C : Nat} : ∀ n {d : Nat → Rat}, (∀ a, a < n → IsI C (d a)) → IsI (C ^ n) (pr n d)
 | 0, _, _ => ⟨1, rfl, Nat.le_refl 1⟩
 | n + 1, d, h => by
  have h1 := (h 0 om).mul (pr_int n (d := fun a => d (a + 1)) fun a ha => h _ om)
  rw [Nat.pow_succ, Nat.mul_comm]; exact h1
theorem pr_ne : ∀ n {d : Nat → Rat}, (∀ a, a < n → d a ≠ 0) → pr n d ≠ 0
 | 0, _, _ => by show (1 : Rat) ≠ 0; decide
 | n + 1, d, h => by
  have h1 := h 0 om
  have h2 := pr_ne n (d := fun a => d (a + 1)) fun a ha => h _ om
  show d 0 * _ ≠ 0
  grind
theorem IsI.quot {C n : Nat} {x y : Rat} (hx : IsI C x) (hy : IsI C y) (h0 : y ≠ 0) (hC : C < 4294967296 ^ n) : Bd n (x / y) := by
 obtain ⟨a, rfl, h1⟩ := hx
 obtain ⟨b, rfl, h2⟩ := hy
 rw [← Rat.divInt_eq_div]
 refine Bd.raw (fun h => h0 (by rw [h]; rfl)) (eH om) (eH om)
theorem sm_bd {q : Nat} {f : Nat → Rat} : ∀ n, (∀ k, k < n → Bd q (f k)) → Bd (1 + n * (q + 1)) (sm f n)
 | 0, _ => Bd0 om
 | n + 1, h => ((sm_bd n fun k hk => h k om).add (h n om)).mono (by rw [Nat.succ_mul]; omega)
theorem pow_a {B n d x y z : Nat} (hB : 0 < B) (hn : n ≤ B ^ x) (hd : d ≤ (B ^ x) ^ y) (hz : x + x * y ≤ z) : n * d ≤ B ^ z := by
 refine Nat.le_trans (Nat.mul_le_mul hn hd) ?_
 rw [← Nat.pow_mul, ← Nat.pow_add]
 exact Nat.pow_le_pow_right hB hz
theorem pow_b {B d x y z : Nat} (hB : 0 < B) (hd : d ≤ (B ^ x) ^ y) (hz : x * y ≤ z) : d ≤ B ^ z := by
 rw [← Nat.pow_mul] at hd
 exact Nat.le_trans hd (Nat.pow_le_pow_right hB hz)
theorem pow_c {B n f z y k : Nat} (hB : k ≤ B) (hk : 1 < k) (hn : n ≤ k) (hf : f ≤ (k * B ^ z) ^ n) (hy : (z + 1) * k < y) : f < B ^ y := by
 have h2 : k * B ^ z ≤ B ^ (z + 1) := by
  rw [Nat.pow_succ, Nat.mul_comm]
  exact Nat.mul_le_mul_left _ hB
 have h3 : (k * B ^ z) ^ n ≤ (B ^ (z + 1)) ^ k := Nat.le_trans (Nat.pow_le_pow_left h2 n) (Nat.pow_le_pow_right (Nat.pow_pos om) hn)
 rw [← Nat.pow_mul] at h3
 have h4 : B ^ ((z + 1) * k) < B ^ y := Nat.pow_lt_pow_right om hy
 omega
theorem pow_d {B n z y k : Nat} (hB : 2 ≤ B) (hn : n ≤ k) (hy : z * k < y) : (B ^ z) ^ n < B ^ y := by
 rw [← Nat.pow_mul]
 exact Nat.pow_lt_pow_right om (by have : z * n ≤ z * k := Nat.mul_le_mul_left _ hn; omega)
theorem row_int {l : List Rat} {b z : Nat} (hz : 672 ≤ z) (hb : b ≤ 16) (hl : l.length ≤ 41) (h : ∀ x, x ∈ l → Bd b x) {x : Rat} (hx : x ∈ l) : IsI (4294967296 ^ z) ((dd l : Rat) * x) := by
 obtain ⟨e, he⟩ := dd_dvd hx
 have hd : dd l ≤ (4294967296 ^ 16) ^ 41 := Nat.le_trans (dd_le (b := 4294967296 ^ 16) fun y hy => Nat.le_of_lt (Nat.lt_of_lt_of_le (h y hy).abs.2 (Nat.pow_le_pow_right (by decide) hb))) (Nat.pow_le_pow_right (Nat.pow_pos (by decide)) hl)
 have hn : x.num.natAbs ≤ 4294967296 ^ 16 := Nat.le_of_lt (Nat.lt_of_lt_of_le (h x hx).abs.1 (Nat.pow_le_pow_right (by decide) hb))
 have hdp := x.den_pos
 have hed : e ≤ dd l := by rw [he]; exact Nat.le_mul_of_pos_left _ hdp
 refine ⟨x.num * (e : Int), ?_, ?_⟩
 ·have hx2 : x = (x.num : Rat) / (x.den : Rat) := by rw [← Rat.intCast_natCast, ← Rat.divInt_eq_div]; exact (Rat.num_divInt_den x).symm
  have hden : (x.den : Rat) ≠ 0 := by exact_mod_cast Nat.pos_iff_ne_zero.1 hdp
  rw [he, Rat.intCast_mul, Rat.intCast_natCast, Rat.natCast_mul]
  generalize hq : (x.den : Rat) = q at *
  generalize (e : Rat) = e'
  generalize hp : (x.num : Rat) = p at *
  rw [hx2]
  grind
 ·rw [Int.natAbs_mul, Int.natAbs_natCast]
  exact pow_a (by decide) hn (Nat.le_trans hed hd) hz
theorem GB_all {R : List (List Rat)} {w cols b : Nat} (hb : BdL b R) (h1 : 1 ≤ b) (hb16 : b ≤ 16) (hw : Wid w R) (hm : R.length ≤ 41) (hw41 : w ≤ 41) (hcw : cols ≤ w) : GB R cols 268435456 := by
 obtain ⟨z, hz⟩ : ∃ z, z = 672 := ⟨_, rfl⟩
 obtain ⟨y, hy⟩ : ∃ y, y = 27594 := ⟨_, rfl⟩
 have key : ∀ c, c < cols → BdL 2000000 (gjn R c).1 ∧ Bd 2000000 (gjd R c) := by
  intro c hc
  obtain ⟨π, hP⟩ := PV.all hw c om
  have hS := St0.all hw c om
  have hSl := cY R c
  have hRI := gjn_RI hw c om
  have hg := gjd_ne hw c om
  have hled := hS.led
  have hwS := hS.wid
  generalize (gjn R c).1 = S at *
  generalize (gjn R c).2 = L at *
  generalize gjd R c = g at *
  have hLt : ∀ k, k < L.length → L.getD k default < w := fun k hk => by have := hRI.lt k hk; omega
  let D : Nat → Rat := fun i => (dd (R.getD (π i) default) : Rat)
  have hDi : ∀ i j, i < R.length → j < w → IsI (4294967296 ^ z) (D i * ent R (π i) j) := fun i j hi hj => by
   have hm2 := bJ (us := R) (hP.rng i hi)
   have hl := hw _ hm2
   exact row_int om hb16 om (hb _ hm2) (bJ (us := R.getD (π i) default) om)
  have hD1 : ∀ i, i < R.length → IsI (4294967296 ^ z) (D i) := fun i hi => by
   have hm2 := bJ (us := R) (hP.rng i hi)
   have hl := hw _ hm2
   refine ⟨(dd (R.getD (π i) default) : Int), by rw [Rat.intCast_natCast], ?_⟩
   rw [Int.natAbs_natCast]
   have hd : dd (R.getD (π i) default) ≤ (4294967296 ^ 16) ^ 41 := Nat.le_trans (dd_le (b := 4294967296 ^ 16) fun y hy => Nat.le_of_lt (Nat.lt_of_lt_of_le (hb _ hm2 y hy).abs.2 (Nat.pow_le_pow_right (by decide) hb16))) (Nat.pow_le_pow_right (Nat.pow_pos (by decide)) om)
   exact pow_b (by decide) hd om
  have hDne : ∀ i, D i ≠ 0 := fun i => by
   have := dd_pos (R.getD (π i) default)
   show ((dd (R.getD (π i) default) : Nat) : Rat) ≠ 0
   exact_mod_cast Nat.pos_iff_ne_zero.1 this
  have hdA : det L.length (fun a b => ent R (π a) (L.getD b default)) ≠ 0 := fun h0 => by
   rcases hP.dt with h | h <;> rw [h, h0] at hg <;> exact hg (by grind)
  have hdA2 : IsI (fbd (4294967296 ^ z) L.length) (det L.length (fun a b => D a * ent R (π a) (L.getD b default))) := det_int _ fun a b ha hb => hDi a _ om (hLt b hb)
  have hdA3 : det L.length (fun a b => D a * ent R (π a) (L.getD b default)) ≠ 0 := by
   rw [det_rows]
   have := pr_ne L.length (d := D) fun a _ => hDne a
   grind
  have hbig : fbd (4294967296 ^ z) L.length < 4294967296 ^ y := pow_c (k := 41) (by decide) (by decide) om (fbd_le (C := 4294967296 ^ z) L.length om) om
  have hx : ∀ k j, k < L.length → j < w → Bd y (ent S k j) := fun k j hk hj => by
   have hcr := cramer hk (fun a b => D a * ent R (π a) (L.getD b default)) (fun t => ent S t j) (fun a => D a * ent R (π a) j) fun a ha => by
    have e := hP.eq a j om hj
    rw [if_pos ha, Rat.add_zero] at e
    show sm (fun t => D a * ent R (π a) (L.getD t default) * ent S t j) L.length = D a * ent R (π a) j
    rw [e, gT]
    exact cG _ fun t _ => by rw [Rat.mul_assoc]
   have e2 : ent S k j = det L.length (fun a c => if c = k then D a * ent R (π a) j else D a * ent R (π a) (L.getD c default)) / det L.length (fun a b => D a * ent R (π a) (L.getD b default)) := by
    rw [hcr]
    grind
   rw [e2]
   refine IsI.quot (det_int _ fun a b ha hb => ?_) hdA2 hdA3 hbig
   split
   ·exact hDi a j om hj
   ·exact hDi a _ om (hLt b hb)
  refine ⟨fun row hr x hxr => ?_, ?_⟩
  ·obtain ⟨i, hi, rfl⟩ := List.getElem_of_mem hr
   obtain ⟨j, hj, rfl⟩ := List.getElem_of_mem hxr
   have hwj : j < w := by rw [hwS _ (List.getElem_mem hi)] at hj; exact hj
   have hent : S[i][j] = ent S i j := by
    unfold ent
    rw [show S.getD i default = S[i] by rw [List.getD_eq_getElem?_getD, List.getElem?_eq_getElem hi]; rfl, List.getD_eq_getElem?_getD, List.getElem?_eq_getElem hj]; rfl
   rw [hent]
   by_cases hiL : i < L.length
   ·exact (hx i j hiL hwj).mono om
   ·have e := hP.eq i j om hwj
    rw [if_neg hiL] at e
    have e3 : ent S i j = ent R (π i) j + -sm (fun k => ent R (π i) (L.getD k default) * ent S k j) L.length := by rw [e]; grind
    rw [e3]
    have b1 : Bd 16 (ent R (π i) j) := (BdL.ent h1 hb _ _).mono hb16
    have b2 := (sm_bd (q := 16 + y) (f := fun k => ent R (π i) (L.getD k default) * ent S k j) L.length fun k hk => ((BdL.ent h1 hb _ _).mono hb16).mul (hx k j hk hwj)).neg
    refine (b1.add b2).mono ?_
    have : L.length * (16 + y + 1) ≤ 41 * (16 + y + 1) := Nat.mul_le_mul_right _ om
    omega
  ·have e4 : det L.length (fun a b => ent R (π a) (L.getD b default)) = det L.length (fun a b => D a * ent R (π a) (L.getD b default)) / pr L.length D := by
    rw [det_rows]
    have := pr_ne L.length (d := D) fun a _ => hDne a
    grind
   have b3 : Bd y (det L.length (fun a b => ent R (π a) (L.getD b default))) := by
    rw [e4]
    have hp := pr_int L.length (C := 4294967296 ^ z) (d := D) fun a ha => hD1 a om
    have hpl : (4294967296 ^ z) ^ L.length < 4294967296 ^ y := pow_d (k := 41) (by decide) om om
    refine IsI.quot (C := max (fbd (4294967296 ^ z) L.length) ((4294967296 ^ z) ^ L.length)) (hdA2.mono (Nat.le_max_left _ _)) (hp.mono (Nat.le_max_right _ _)) (pr_ne _ fun a _ => hDne a) (Nat.max_lt.2 ⟨hbig, hpl⟩)
   rcases hP.dt with h | h <;> rw [h]
   ·exact b3.mono om
   ·exact b3.neg.mono om
 exact ⟨by decide, fun c hc => (key c hc).1.mono (by decide), fun c hc => (key c hc).2.mono (by decide)⟩
open Go.RowKit
def mnF (bs : List BR) (v : Nat → Rat) : Nat → Rat
 | 0 => 0
 | i + 1 => mnF bs v i + nq (bs.getD i default).2 * v (bs.getD i default).1.toNat
def mn (c : CH) (v : Nat → Rat) : Rat := mnF c.2.2 v c.2.2.length
def yl (d : Rat) (c : CH) (v : Nat → Rat) : Rat := nq c.1 + d * mn c v
structure WB (n : Nat) (bs : List BR) : Prop where
 pos : ∀ i, i < bs.length → 0 < nq (bs.getD i default).2
 sum : psum bs bs.length = 1
 to : ∀ i, i < bs.length → (bs.getD i default).1.toNat < n
theorem mnF_sub (bs : List BR) (u v : Nat → Rat) : ∀ i, mnF bs v i - mnF bs u i = mnF bs (fun s => v s - u s) i
 | 0 => by unfold mnF; grind
 | i + 1 => by
  have ih := mnF_sub bs u v i
  unfold mnF
  rw [← ih]; grind
theorem mnF_le {n : Nat} {bs : List BR} (h : WB n bs) {v : Nat → Rat} {M : Rat} (hv : ∀ j, j < n → v j ≤ M) : ∀ i, i ≤ bs.length → mnF bs v i ≤ M * psum bs i
 | 0, _ => by unfold mnF psum; grind
 | i + 1, hi => by
  have ih := mnF_le h hv i om
  have hp := h.pos i om
  have hj := hv _ (h.to i om)
  have h2 : nq (bs.getD i default).2 * v (bs.getD i default).1.toNat ≤ nq (bs.getD i default).2 * M := Rat.mul_le_mul_of_nonneg_left hj (Rat.le_of_lt hp)
  unfold mnF psum
  grind
theorem mnF_mono {n : Nat} {bs : List BR} (h : WB n bs) {u v : Nat → Rat} (hv : ∀ j, j < n → u j ≤ v j) : ∀ i, i ≤ bs.length → mnF bs u i ≤ mnF bs v i
 | 0, _ => by unfold mnF; grind
 | i + 1, hi => by
  have ih := mnF_mono h hv i om
  have hp := h.pos i om
  have h2 := Rat.mul_le_mul_of_nonneg_left (hv _ (h.to i om)) (Rat.le_of_lt hp)
  unfold mnF
  grind
theorem mnF_congr {n : Nat} {bs : List BR} (h : WB n bs) {u v : Nat → Rat} (hv : ∀ j, j < n → u j = v j) : ∀ i, i ≤ bs.length → mnF bs u i = mnF bs v i
 | 0, _ => rfl
 | i + 1, hi => by
  unfold mnF
  rw [mnF_congr h hv i om, hv _ (h.to i om)]
theorem argmax (f : Nat → Rat) : ∀ n, 0 < n → ∃ m, m < n ∧ ∀ i, i < n → f i ≤ f m
 | 0, h => absurd h om
 | 1, _ => ⟨0, om, fun i hi => (show i = 0 by omega) ▸ Rat.le_refl⟩
 | n + 2, _ => by
  obtain ⟨m, h1, h2⟩ := argmax f (n + 1) om
  by_cases h : f m ≤ f (n + 1)
  ·refine ⟨n + 1, om, fun i hi => ?_⟩
   by_cases e : i = n + 1
   ·rw [e]; exact Rat.le_refl
   ·exact Rat.le_trans (h2 i om) h
  ·refine ⟨m, om, fun i hi => ?_⟩
   by_cases e : i = n + 1
   ·rw [e]; grind
   ·exact h2 i om
theorem comp {n : Nat} {d : Rat} (hd0 : 0 ≤ d) (hd1 : d < 1) {u v : Nat → Rat} (h : ∀ i, i < n → ∃ bs, WB n bs ∧ v i - u i ≤ d * (mnF bs v bs.length - mnF bs u bs.length)) : ∀ i, i < n → v i ≤ u i := by
 intro i hi
 obtain ⟨m, hm, hmax⟩ := argmax (fun s => v s - u s) n om
 obtain ⟨bs, hb, hle⟩ := h m hm
 have h1 := mnF_le hb (v := fun s => v s - u s) hmax bs.length (Nat.le_refl _)
 rw [hb.sum, ← mnF_sub] at h1
 have h2 := hmax i hi
 by_cases hD : v m - u m ≤ 0
 ·grind
 ·exfalso
  have h3 := Rat.mul_le_mul_of_nonneg_left h1 hd0
  have h4 : 0 < (1 - d) * (v m - u m) := Rat.mul_pos (by grind) (by grind)
  grind
structure DM (ss : List ST) (d : Rat) : Prop where
 d0 : 0 < d
 d1 : d < 1
 pos : 1 ≤ ss.length
 cs : ∀ x, x ∈ ss → 1 ≤ x.2.2.length
 wb : ∀ x, x ∈ ss → ∀ c, c ∈ x.2.2 → WB ss.length c.2.2
abbrev ch (ss : List ST) (i k : Nat) : CH := (ss.getD i default).2.2.getD k default
def WV (ss : List ST) (d : Rat) (st : List Int) (v : Nat → Rat) : Prop := ∀ i, i < ss.length → v i = yl d (ch ss i (st.getD i default).toNat) v
theorem yl_mono {ss : List ST} {d : Rat} (h : DM ss d) {c : CH} (hc : WB ss.length c.2.2) {u v : Nat → Rat} (hv : ∀ j, j < ss.length → u j ≤ v j) : yl d c u ≤ yl d c v := by
 have := Rat.mul_le_mul_of_nonneg_left (mnF_mono hc hv c.2.2.length (Nat.le_refl _)) (Rat.le_of_lt h.d0)
 unfold yl mn
 grind
section
variable {ss : List ST} {d : Rat} (h : DM ss d)
include h
theorem ch_wb {i k : Nat} (hi : i < ss.length) (hk : k < (ss.getD i default).2.2.length) : WB ss.length (ch ss i k).2.2 := h.wb _ (bJ hi) _ (bJ hk)
theorem st_wb {st : List Int} (hst : vSt ss st = true) {i : Nat} (hi : i < ss.length) : WB ss.length (ch ss i (st.getD i default).toNat).2.2 := by
 have := nC hst hi
 exact ch_wb h hi om
theorem WV.le {st : List Int} (hst : vSt ss st = true) {u v : Nat → Rat} (hv : WV ss d st v) (hu : ∀ i, i < ss.length → yl d (ch ss i (st.getD i default).toNat) u ≤ u i) : ∀ i, i < ss.length → v i ≤ u i :=
 comp (Rat.le_of_lt h.d0) h.d1 fun i hi => ⟨_, st_wb h hst hi, by
  have h1 := hv i hi
  have h2 := hu i hi
  unfold yl mn at h1 h2
  grind⟩
theorem WV.ge {st : List Int} (hst : vSt ss st = true) {u v : Nat → Rat} (hv : WV ss d st v) (hu : ∀ i, i < ss.length → u i ≤ yl d (ch ss i (st.getD i default).toNat) u) : ∀ i, i < ss.length → u i ≤ v i :=
 comp (Rat.le_of_lt h.d0) h.d1 fun i hi => ⟨_, st_wb h hst hi, by
  have h1 := hv i hi
  have h2 := hu i hi
  unfold yl mn at h1 h2
  grind⟩
theorem WV.uniq {st : List Int} (hst : vSt ss st = true) {u v : Nat → Rat} (hv : WV ss d st v) (hu : WV ss d st u) : ∀ i, i < ss.length → v i = u i := fun i hi => by
 have h1 := hv.le h hst (u := u) (fun j hj => by rw [← hu j hj]; exact Rat.le_refl) i hi
 have h2 := hu.le h hst (u := v) (fun j hj => by rw [← hv j hj]; exact Rat.le_refl) i hi
 grind
end
def btr (p : Int) (a b : Rat) : Prop := if p = 1 then a < b else b < a
def NoImp (ss : List ST) (d : Rat) (p : Int) (v : Nat → Rat) : Prop := ∀ i, i < ss.length → (ss.getD i default).1.1 = p → ∀ k, k < (ss.getD i default).2.2.length → ¬ btr p (yl d (ch ss i k) v) (v i)
def Val (ss : List ST) (d : Rat) (v : Nat → Rat) : Prop := ∀ i, i < ss.length → (∃ k, k < (ss.getD i default).2.2.length ∧ v i = yl d (ch ss i k) v) ∧ ∀ k, k < (ss.getD i default).2.2.length → if (ss.getD i default).1.1 = 1 then v i ≤ yl d (ch ss i k) v else yl d (ch ss i k) v ≤ v i
theorem Val.uniq {ss : List ST} {d : Rat} (h : DM ss d) {u v : Nat → Rat} (hu : Val ss d u) (hv : Val ss d v) : ∀ i, i < ss.length → v i = u i := by
 have key : ∀ {u v : Nat → Rat}, Val ss d u → Val ss d v → ∀ i, i < ss.length → v i ≤ u i := by
  intro u v hu hv
  refine comp (Rat.le_of_lt h.d0) h.d1 fun i hi => ?_
  obtain ⟨⟨k, hk, e1⟩, a1⟩ := hu i hi
  obtain ⟨⟨l, hl, e2⟩, a2⟩ := hv i hi
  by_cases ho : (ss.getD i default).1.1 = 1
  ·have := a2 k hk
   rw [if_pos ho] at this
   refine ⟨_, ch_wb h hi hk, ?_⟩
   unfold yl mn at this e1
   grind
  ·have := a1 l hl
   rw [if_neg ho] at this
   refine ⟨_, ch_wb h hi hl, ?_⟩
   unfold yl mn at this e2
   grind
 intro i hi
 have h1 := key hu hv i hi
 have h2 := key hv hu i hi
 grind
theorem val_of {ss : List ST} {d : Rat} (ho : ∀ x, x ∈ ss → x.1.1 = 0 ∨ x.1.1 = 1) {st : List Int} (hst : vSt ss st = true) {v : Nat → Rat} (hv : WV ss d st v) (h0 : NoImp ss d 0 v) (h1 : NoImp ss d 1 v) : Val ss d v := fun i hi => by
 have hs := nC hst hi
 refine ⟨⟨(st.getD i default).toNat, om, hv i hi⟩, fun k hk => ?_⟩
 rcases ho _ (bJ hi) with e | e
 ·have := h0 i hi e k hk
  unfold btr at this
  rw [if_neg (by decide)] at this
  rw [if_neg om]; grind
 ·have := h1 i hi e k hk
  unfold btr at this
  rw [if_pos rfl] at this
  rw [if_pos e]; grind
theorem lM {st : List Int} {i j : Nat} {k : Int} (hi : i < st.length) : (st.set i k).getD j default = if i = j then k else st.getD j default := by
 rcases Nat.lt_or_ge j st.length with hj | hj
 ·exact cB hj
 ·rw [List.getD_eq_getElem?_getD, List.getElem?_eq_none (by simpa using hj), if_neg om, List.getD_eq_getElem?_getD, List.getElem?_eq_none hj]
theorem vSt_set {ss : List ST} {st : List Int} (h : vSt ss st = true) {i k : Nat} (hk : k < (ss.getD i default).2.2.length) : vSt ss (st.set i (k : Int)) = true := by
 have hl := gU h
 unfold vSt
 rw [decide_eq_true (by rw [List.length_set]; exact hl), Bool.true_and]
 refine gS fun j hj => ?_
 rw [List.length_set] at hj
 have ha := nC h (i := j) om
 rw [show (st.set i (k : Int)).getD j default = if i = j then (k : Int) else st.getD j default from cB hj]
 by_cases e : i = j
 ·rw [if_pos e, ← e, decide_eq_true om, decide_eq_true om]; rfl
 ·rw [if_neg e, decide_eq_true ha.1, decide_eq_true ha.2]; rfl
section
variable {ss : List ST} {d : Rat} (h : DM ss d)
include h
theorem imp1 {st : List Int} {i k : Nat} {u v : Nat → Rat} (hst : vSt ss st = true) (hi : i < ss.length) (hk : k < (ss.getD i default).2.2.length) (hv : WV ss d st v) (hb : yl d (ch ss i k) v < v i) (hu : WV ss d (st.set i (k : Int)) u) : (∀ j, j < ss.length → u j ≤ v j) ∧ u i < v i := by
 have hl := gU hst
 have hle := hu.le h (vSt_set hst hk) (u := v) fun j hj => by
  rw [lM om]
  by_cases e : i = j
  ·subst e; rw [if_pos rfl, Int.toNat_natCast]; exact Rat.le_of_lt hb
  ·rw [if_neg e, ← hv j hj]; exact Rat.le_refl
 refine ⟨hle, ?_⟩
 have h1 := hu i hi
 rw [lM om, if_pos rfl, Int.toNat_natCast] at h1
 have h2 := yl_mono h (ch_wb h hi hk) hle
 grind
theorem imp0 {st st' : List Int} {i k : Nat} {u v : Nat → Rat} (hst : vSt ss st = true) (hst' : vSt ss st' = true) (hi : i < ss.length) (ho : (ss.getD i default).1.1 ≠ 1) (hk : k < (ss.getD i default).2.2.length) (hv : WV ss d st v) (hn : NoImp ss d 1 v) (hb : v i < yl d (ch ss i k) v)
  (hs : ∀ j, j < ss.length → (ss.getD j default).1.1 ≠ 1 → st'.getD j default = (st.set i (k : Int)).getD j default) (hu : WV ss d st' u) : (∀ j, j < ss.length → v j ≤ u j) ∧ v i < u i := by
 have hl := gU hst
 have hge := hu.ge h hst' (u := v) fun j hj => by
  by_cases hoj : (ss.getD j default).1.1 = 1
  ·have hs' := nC hst' hj
   have := hn j hj hoj (st'.getD j default).toNat om
   unfold btr at this
   rw [if_pos rfl] at this
   grind
  ·rw [hs j hj hoj, lM om]
   by_cases e : i = j
   ·subst e; rw [if_pos rfl, Int.toNat_natCast]; exact Rat.le_of_lt hb
   ·rw [if_neg e, ← hv j hj]; exact Rat.le_refl
 refine ⟨hge, ?_⟩
 have h1 := hu i hi
 rw [hs i hi ho, lM om, if_pos rfl, Int.toNat_natCast] at h1
 have h2 := yl_mono h (ch_wb h hi hk) hge
 grind
end
theorem all_lists (m : Nat) : ∀ n, ∃ L : List (List Int), ∀ st : List Int, st.length = n → (∀ x, x ∈ st → 0 ≤ x ∧ x < (m : Int)) → st ∈ L
 | 0 => ⟨[[]], fun st h _ => by rw [List.length_eq_zero_iff.1 h]; simp⟩
 | n + 1 => by
  obtain ⟨L, hL⟩ := all_lists m n
  refine ⟨(List.range m).flatMap fun (k : Nat) => L.map fun t => (k : Int) :: t, fun st h1 h2 => ?_⟩
  match st, h1, h2 with
  | x :: t, h1, h2 =>
   have hx := h2 x (by simp)
   refine List.mem_flatMap.2 ⟨x.toNat, List.mem_range.2 om, List.mem_map.2 ⟨t, hL t (by simpa using h1) (fun y hy => h2 y (by simp [hy])), ?_⟩⟩
   rw [Int.toNat_of_nonneg hx.1]
theorem filter_lt {α : Type} {p q : α → Bool} : ∀ {l : List α}, (∀ a, a ∈ l → p a = true → q a = true) → (∃ a, a ∈ l ∧ p a = false ∧ q a = true) → (l.filter p).length < (l.filter q).length
 | [], _, ⟨_, h, _⟩ => by simp at h
 | a :: l, h1, ⟨b, hb, h2, h3⟩ => by
  have hle : ∀ l : List α, (∀ a, a ∈ l → p a = true → q a = true) → (l.filter p).length ≤ (l.filter q).length := fun l => by
   induction l with
   | nil => exact fun _ => Nat.le_refl _
   | cons a l ih =>
    intro h
    have := ih fun b hb => h b (by simp [hb])
    rw [List.filter_cons, List.filter_cons]
    cases e : p a
    ·cases q a <;> simp <;> omega
    ·rw [h a (by simp) e]; simpa using this
  rw [List.filter_cons, List.filter_cons]
  rcases List.mem_cons.1 hb with rfl | hb
  ·rw [h2, h3]
   have := hle l fun c hc => h1 c (by simp [hc])
   simp; omega
  ·have ih := filter_lt (l := l) (fun c hc => h1 c (by simp [hc])) ⟨b, hb, h2, h3⟩
   cases e : p a
   ·cases q a <;> simp <;> omega
   ·rw [h1 a (by simp) e]; simpa using ih
theorem rank {ss : List ST} (R : List Int → List Int → Prop) (hir : ∀ a, ¬ R a a) (htr : ∀ a b c, R a b → R b c → R a c) (hv : ∀ a b, R a b → vSt ss a = true) : ∃ (μ : List Int → Nat) (M : Nat), (∀ a, μ a < M) ∧ ∀ a b, R a b → μ a < μ b := by
 obtain ⟨m, hm⟩ : ∃ m, ∀ x, x ∈ ss → x.2.2.length ≤ m := by
  clear hv
  induction ss with
  | nil => exact ⟨0, by simp⟩
  | cons x ss ih =>
   obtain ⟨m, h⟩ := ih
   refine ⟨max x.2.2.length m, fun y hy => ?_⟩
   rcases List.mem_cons.1 hy with rfl | hy
   ·omega
   ·have := h y hy; omega
 obtain ⟨L, hL⟩ := all_lists m ss.length
 have hin : ∀ a, vSt ss a = true → a ∈ L := fun a ha => hL a (gU ha) fun x hx => by
  obtain ⟨i, hi, rfl⟩ := List.getElem_of_mem hx
  have hl := gU ha
  have h1 := nC ha (i := i) om
  have h2 := hm _ (bJ (us := ss) (i := i) om)
  rw [show a.getD i default = a[i] by rw [List.getD_eq_getElem?_getD, List.getElem?_eq_getElem hi]; rfl] at h1
  omega
 refine ⟨fun b => (L.filter fun a => @decide (R a b) (Classical.propDecidable _)).length, L.length + 1, fun a => Nat.lt_succ_of_le (List.length_filter_le _ _), fun a b hab => ?_⟩
 refine filter_lt (fun c _ hc => ?_) ⟨a, hin a (hv a b hab), ?_, ?_⟩
 ·have := @of_decide_eq_true _ (Classical.propDecidable _) hc
  exact @decide_eq_true _ (Classical.propDecidable _) (htr c a b this hab)
 ·exact @decide_eq_false _ (Classical.propDecidable _) (hir a)
 ·exact @decide_eq_true _ (Classical.propDecidable _) hab
section
variable {ss : List ST} {d : Rat} (h : DM ss d)
include h
theorem rank1 : ∃ (μ : List Int → Nat) (M : Nat), (∀ a, μ a < M) ∧ ∀ a b u v i, vSt ss a = true → vSt ss b = true → WV ss d a u → WV ss d b v → (∀ j, j < ss.length → u j ≤ v j) → i < ss.length → u i < v i → μ a < μ b := by
 obtain ⟨μ, M, hM, hμ⟩ := rank (ss := ss) (fun a b => vSt ss a = true ∧ vSt ss b = true ∧ ∃ u v i, WV ss d a u ∧ WV ss d b v ∧ (∀ j, j < ss.length → u j ≤ v j) ∧ i < ss.length ∧ u i < v i) (fun a ⟨ha, _, u, v, i, h1, h2, _, hi, h4⟩ => by
  have := h1.uniq h ha h2 i hi
  grind) (fun a b c ⟨ha, hb, u, v, i, h1, h2, h3, hi, h4⟩ ⟨_, hc, v', w, k, k1, k2, k3, hk, k4⟩ => ⟨ha, hc, u, w, i, h1, k2, fun j hj => by
   have e := h2.uniq h hb k1 j hj
   have := h3 j hj
   have := k3 j hj
   grind, hi, by
   have e := h2.uniq h hb k1 i hi
   have := k3 i hi
   grind⟩) (fun a b hab => hab.1)
 exact ⟨μ, M, hM, fun a b u v i ha hb h1 h2 h3 hi h4 => hμ a b ⟨ha, hb, u, v, i, h1, h2, h3, hi, h4⟩⟩
theorem rank0 : ∃ (μ : List Int → Nat) (M : Nat), (∀ a, μ a < M) ∧ ∀ a b u v i, vSt ss a = true → vSt ss b = true → WV ss d a u → WV ss d b v → (∀ j, j < ss.length → v j ≤ u j) → i < ss.length → v i < u i → μ a < μ b := by
 obtain ⟨μ, M, hM, hμ⟩ := rank (ss := ss) (fun a b => vSt ss a = true ∧ vSt ss b = true ∧ ∃ u v i, WV ss d a u ∧ WV ss d b v ∧ (∀ j, j < ss.length → v j ≤ u j) ∧ i < ss.length ∧ v i < u i) (fun a ⟨ha, _, u, v, i, h1, h2, _, hi, h4⟩ => by
  have := h1.uniq h ha h2 i hi
  grind) (fun a b c ⟨ha, hb, u, v, i, h1, h2, h3, hi, h4⟩ ⟨_, hc, v', w, k, k1, k2, k3, hk, k4⟩ => ⟨ha, hc, u, w, i, h1, k2, fun j hj => by
   have e := h2.uniq h hb k1 j hj
   have := h3 j hj
   have := k3 j hj
   grind, hi, by
   have e := h2.uniq h hb k1 i hi
   have := k3 i hi
   grind⟩) (fun a b hab => hab.1)
 exact ⟨μ, M, hM, fun a b u v i ha hb h1 h2 h3 hi h4 => hμ a b ⟨ha, hb, u, v, i, h1, h2, h3, hi, h4⟩⟩
end
end Go.Ab
namespace Go.Ab
open Go.RowKit
theorem sm_upd {f g : Nat → Rat} {t : Nat} : ∀ n, t < n → (∀ i, i < n → i ≠ t → f i = g i) → sm f n = sm g n + (f t - g t)
 | 0, h, _ => absurd h om
 | n + 1, h, he => by
  show sm f n + f n = sm g n + g n + (f t - g t)
  by_cases e : t = n
  ·subst e
   rw [cG t fun i hi => he i om om]; grind
  ·rw [sm_upd n om fun i hi hne => he i om hne, he n om (Ne.symm e)]; grind
theorem nQ {a : List Rat} {t : Nat} {x : Rat} (ht : t < a.length) (v : List Rat) : dotR (a.set t x) v = dotR a v + (x - a.getD t default) * v.getD t default := by
 rw [nR, nR, List.length_set, sm_upd (t := t) a.length ht fun i hi hne => by rw [cB hi, if_neg (Ne.symm hne)]]
 rw [cB ht, if_pos rfl]; grind
theorem dotR_zero (n : Nat) (v : List Rat) : dotR (List.replicate n 0) v = 0 := by
 rw [nR]
 refine (cG _ fun i hi => ?_).trans (iI _)
 rw [List.length_replicate] at hi
 rw [List.getD_eq_getElem?_getD, List.getElem?_replicate, if_pos hi]
 exact Rat.zero_mul _
theorem full_rank {A : List (List Rat)} {n : Nat} (hl : A.length = n) (hw : Wid n A) (hk : ∀ x : Nat → Rat, (∀ i, i < n → sm (fun j => ent A i j * x j) n = 0) → ∀ j, j < n → x j = 0) : (gjn A n).2.length = n := by
 have hR := gjn_RI hw n (Nat.le_refl _)
 have hS := cY A n
 have hsol := fun x => gjn_sol hw x n (Nat.le_refl _)
 have hrk := hR.rk
 apply Classical.byContradiction
 intro hne
 have hlt : (gjn A n).2.length < n := by omega
 generalize (gjn A n).1 = S at *
 generalize (gjn A n).2 = L at *
 obtain ⟨j, hj, hj1, hj2⟩ : ∃ j, j ≤ L.length ∧ (∀ t, t < j → L.getD t default = t) ∧ ∀ t, j ≤ t → t < L.length → j < L.getD t default := by
  have key : ∀ m, m ≤ L.length → (∀ t, t < m → L.getD t default = t) ∨ ∃ j, j < m ∧ (∀ t, t < j → L.getD t default = t) ∧ L.getD j default ≠ j := by
   intro m
   induction m with
   | zero => exact fun _ => .inl fun t ht => absurd ht om
   | succ m ih =>
    intro hm
    rcases ih om with h | ⟨j, h1, h2⟩
    ·by_cases e : L.getD m default = m
     ·exact .inl fun t ht => by
       by_cases e2 : t = m
       ·rw [e2]; exact e
       ·exact h t om
     ·exact .inr ⟨m, om, h, e⟩
    ·exact .inr ⟨j, om, h2⟩
  rcases key L.length (Nat.le_refl _) with h | ⟨j, h1, h2, h3⟩
  ·exact ⟨L.length, Nat.le_refl _, h, fun t h1 h2 => by omega⟩
  ·refine ⟨j, om, h2, fun t h4 h5 => ?_⟩
   have h6 := hR.ge j h1
   by_cases e : t = j
   ·rw [e]; omega
   ·have := hR.mono j t om h5
    omega
 have hjn : j < n := by omega
 let x : Nat → Rat := fun t => if t < j then -ent S t j else if t = j then 1 else 0
 have hx := hk x ?_ j hjn
 ·have : x j = 1 := by show (if j < j then _ else if j = j then (1 : Rat) else 0) = 1; rw [if_neg om, if_pos rfl]
  rw [this] at hx
  exact absurd hx (by decide)
 ·have h1 : Sol S n x := by
   intro i hi
   unfold rd
   have h2 : ∀ t, t < n → t ≠ j → (t < j → i ≠ t) → ent S i t * x t = 0 := fun t ht hne hti => by
    by_cases e : t < j
    ·have := hR.piv t om i hi
     rw [hj1 t e, if_neg (hti e)] at this
     rw [this]; exact Rat.zero_mul _
    ·show _ * (if t < j then _ else if t = j then (1 : Rat) else 0) = 0
     rw [if_neg e, if_neg hne]; exact Rat.mul_zero _
   by_cases e : i < j
   ·
    have h3 : sm (fun t => ent S i t * x t) n = sm (fun t => if t = j then ent S i j else 0) n + (ent S i i * x i - 0) := by
     have := sm_upd (f := fun t => ent S i t * x t) (g := fun t => if t = j then ent S i j else 0) (t := i) n om fun t ht hne => by
      show ent S i t * x t = if t = j then ent S i j else 0
      by_cases e2 : t = j
      ·rw [if_pos e2, e2]
       show ent S i j * (if j < j then _ else if j = j then (1 : Rat) else 0) = _
       rw [if_neg om, if_pos rfl, Rat.mul_one]
      ·rw [if_neg e2]; exact h2 t ht e2 fun _ h => hne h.symm
     rw [if_neg om] at this
     exact this
    rw [h3, gF n hjn fun t _ hne => if_neg hne, if_pos rfl]
    have h4 := hR.piv i om i hi
    rw [hj1 i e, if_pos rfl] at h4
    rw [h4, show x i = -ent S i j from if_pos e]
    grind
   ·refine (cG n fun t ht => ?_).trans (iI n)
    by_cases e2 : t = j
    ·have h5 : ent S i j = 0 := by
      by_cases e3 : i < L.length
      ·exact hR.low i e3 j (hj2 i om e3)
      ·exact hR.zer i om hi j hjn
     rw [e2, h5]; exact Rat.zero_mul _
    ·exact h2 t ht e2 fun h => by omega
  have h6 := (hsol x).1 h1
  intro i hi
  exact h6 i om
theorem lin_ok {A : List (List Rat)} {b : List Rat} {n : Nat} (hl : A.length = n) (hw : Wid n A) (hk : ∀ x : Nat → Rat, (∀ i, i < n → sm (fun j => ent A i j * x j) n = 0) → ∀ j, j < n → x j = 0) :
  nosol (gjn (wR A b) n) n = false ∧ ∀ i, i < n → dotR (A.getD i default) (solv (gjn (wR A b) n) n (gjn (wR A b) n).2.length) = b.getD i default := by
 have hf := full_rank hl hw hk
 have hW : Wid (n + 1) (wR A b) := wR_wid hw
 have he := gjn_ext hw hW om (nD A b) (fun i j hi hj => ent_wR hw hi hj) n (Nat.le_refl _)
 have hns : nosol (gjn (wR A b) n) n = false := by
  have hgl := cY (wR A b) n
  rw [nD] at hgl
  exact nosol_no (by rw [he.1]; omega) fun k h1 h2 => by rw [he.1] at h1; omega
 exact ⟨hns, fun i hi => solv_ok hw hns i om⟩
theorem solv_bd {S : GS} {w β : Nat} (h1 : 1 ≤ β) (hb : BdL β S.1) : ∀ i, ∀ x, x ∈ solv S w i → Bd β x
 | 0, x, hx => by
  rw [solv] at hx
  obtain ⟨_, rfl⟩ := List.mem_replicate.1 hx
  exact Bd0 h1
 | i + 1, x, hx => by
  rw [solv] at hx
  rcases List.mem_or_eq_of_mem_set hx with h | h
  ·exact solv_bd h1 hb i x h
  ·rw [h]; exact BdL.ent h1 hb _ _
open Go.RowKit
structure VB (n : Nat) (bs : List BR) : Prop where
 len : 1 ≤ bs.length ∧ bs.length ≤ 8
 to : ∀ i, i < bs.length → 0 ≤ (bs.getD i default).1 ∧ (bs.getD i default).1 < n
 inc : ∀ i j, i < j → j < bs.length → (bs.getD i default).1 < (bs.getD j default).1
 vn : ∀ i, i < bs.length → VN (bs.getD i default).2
 pos : ∀ i, i < bs.length → 0 < (bs.getD i default).2.1
 sum : psum bs bs.length = 1
theorem okB_inc {n : Nat} {bs : List BR} (h : ∀ j, j < bs.length → okB n bs j = true) : ∀ i j, i < j → j < bs.length → (bs.getD i default).1 < (bs.getD j default).1 := by
 intro i j hij
 induction j with
 | zero => exact absurd hij om
 | succ j ih =>
  intro hj
  have h1 := h (j + 1) hj
  unfold okB at h1
  rw [Bool.and_eq_true, Bool.and_eq_true, Bool.and_eq_true] at h1
  have h2 : (bs.getD j default).1 < (bs.getD (j + 1) default).1 := of_decide_eq_true h1.1.1.1
  by_cases e : i = j
  ·rw [e]; exact h2
  ·have := ih om om; omega
theorem VC_VB {n : Nat} {c : CH} (h : VC n c = true) : VN c.1 ∧ VB n c.2.2 := by
 unfold VC at h
 simp only [Bool.and_eq_true] at h
 obtain ⟨⟨⟨⟨h1, h2⟩, h3⟩, h4⟩, h5⟩ := h
 have h2 := of_decide_eq_true h2
 have h3 := of_decide_eq_true h3
 have hok : ∀ j, j < c.2.2.length → okB n c.2.2 j = true := fun j hj => List.all_eq_true.1 h4 j (List.mem_range.2 hj)
 refine ⟨of_decide_eq_true h1, ⟨h2, h3⟩, fun i hi => ?_, okB_inc hok, fun i hi => of_decide_eq_true (okB_vn (hok i hi)).1, fun i hi => (okB_vn (hok i hi)).2, of_decide_eq_true h5⟩
 have hlo := okB_lo (n := n) (bs := c.2.2) i fun j hj => hok j om
 have h6 := hok i hi
 unfold okB at h6
 rw [Bool.and_eq_true, Bool.and_eq_true, Bool.and_eq_true] at h6
 have e1 := of_decide_eq_true h6.1.1.1
 have e2 := of_decide_eq_true h6.1.1.2
 omega
theorem jI {ss : List ST} (h : VMo ss = true) {x : ST} (hx : x ∈ ss) {c : CH} (hc : c ∈ x.2.2) : VN c.1 ∧ VB ss.length c.2.2 := by
 unfold VMo at h
 rw [Bool.and_eq_true] at h
 have h1 := List.all_eq_true.1 h.2 x hx
 unfold VS at h1
 rw [Bool.and_eq_true] at h1
 exact VC_VB (List.all_eq_true.1 h1.2 c hc)
theorem nq_pos {a : NM} (h : VN a) (h0 : 0 < a.1) : 0 < nq a := by
 have h2 : 0 < a.2 := by have := h.1; omega
 unfold nq
 rw [Rat.divInt_eq_div]
 have e1 : (0 : Rat) < (a.1 : Rat) := by exact_mod_cast h0
 have e2 : (0 : Rat) < (a.2 : Rat) := by exact_mod_cast h2
 generalize (a.1 : Rat) = p at *
 generalize (a.2 : Rat) = q at *
 apply Classical.byContradiction
 intro hn
 have h3 : 0 ≤ -(p / q) * q := Rat.mul_nonneg (by grind) (Rat.le_of_lt e2)
 have h4 : p / q * q = p := by grind
 grind
theorem VB.wb {n : Nat} {bs : List BR} (h : VB n bs) : WB n bs := ⟨fun i hi => nq_pos (h.vn i hi) (h.pos i hi), h.sum, fun i hi => by have := h.to i hi; omega⟩
theorem iP {ss : List ST} {d : Rat} (h : VMo ss = true) (h0 : 0 < d) (h1 : d < 1) : DM ss d :=
 ⟨h0, h1, (kW h).pos, fun x hx => ((kW h).cs x hx).1, fun x hx c hc => (jI h hx hc).2.wb⟩
def fn_ (v : List Rat) : Nat → Rat := fun s => v.getD s default
def RowOk (n : Nat) (d : Rat) (bs : List BR) (i : Nat) (row : List Rat) : Prop := row.length = n ∧ ∀ v : List Rat, dotR row v = v.getD i default - d * mnF bs (fn_ v) bs.length
def RowP (n : Nat) (d : Rat) (bs : List BR) (j : Nat) (row : List Rat) : Prop := row.length = n ∧ (∀ v : List Rat, dotR row v = -(d * mnF bs (fn_ v) j)) ∧ (∀ t, t < n → (∀ i, i < j → (bs.getD i default).1 ≠ t) → row.getD t default = 0) ∧ ∀ x, x ∈ row → Bd 4 x
theorem RowP.init (n : Nat) (d : Rat) (bs : List BR) : RowP n d bs 0 (List.replicate n 0) := by
 refine ⟨by simp, fun v => by rw [dotR_zero]; unfold mnF; grind, fun t ht _ => by rw [List.getD_eq_getElem?_getD, List.getElem?_replicate, if_pos ht]; rfl, fun x hx => by rw [(List.mem_replicate.1 hx).2]; exact Bd0 (by decide)⟩
theorem RowP.step {n : Nat} {d : Rat} {bs : List BR} {j : Nat} {row : List Rat} (h : RowP n d bs j row) (hb : VB n bs) (hj : j < bs.length) (hd : Bd 2 d) : RowP n d bs (j + 1) (row.set (bs.getD j default).1.toNat (-(d * nq (bs.getD j default).2))) := by
 obtain ⟨h1, h2, h3, h4⟩ := h
 have ht := hb.to j hj
 have hz := h3 (bs.getD j default).1.toNat om fun i hi => by have := hb.inc i j hi hj; omega
 refine ⟨by rw [List.length_set]; exact h1, fun v => ?_, fun t htn hne => ?_, fun x hx => ?_⟩
 ·rw [nQ om, h2, hz]
  show _ = -(d * (mnF bs (fn_ v) j + nq (bs.getD j default).2 * v.getD (bs.getD j default).1.toNat default))
  grind
 ·rw [cB om, if_neg (fun e => hne j om om)]
  exact h3 t htn fun i hi => hne i om
 ·rcases List.mem_or_eq_of_mem_set hx with h | h
  ·exact h4 x h
  ·rw [h]; exact (hd.mul (hb.vn j hj).bd).neg
theorem RowP.done {n : Nat} {d : Rat} {bs : List BR} {i : Nat} {row : List Rat} (h : RowP n d bs bs.length row) (hi : i < n) : RowOk n d bs i (row.set i (row.getD i default + 1)) ∧ ∀ x, x ∈ row.set i (row.getD i default + 1) → Bd 8 x := by
 obtain ⟨h1, h2, h3, h4⟩ := h
 refine ⟨⟨by rw [List.length_set]; exact h1, fun v => ?_⟩, fun x hx => ?_⟩
 ·rw [nQ om, h2]; grind
 ·rcases List.mem_or_eq_of_mem_set hx with h | h
  ·exact (h4 x h).mono (by decide)
  ·rw [h]; exact ((oJ (b := 4) (by decide) h4 i).add Bd1).mono (by decide)
def RowR (n : Nat) (d : Rat) (bs : List BR) (a j : Nat) (row : List Rat) : Prop := row.length = n ∧ (∀ v : List Rat, dotR row v = v.getD a default - d * mnF bs (fn_ v) j) ∧ (∀ t, t < n → (∀ i, i < j → (bs.getD i default).1 ≠ t) → Bd 1 (row.getD t default)) ∧ ∀ x, x ∈ row → Bd 8 x
theorem RowR.init {n : Nat} (d : Rat) (bs : List BR) {a : Nat} (ha : a < n) : RowR n d bs a 0 ((List.replicate n 0).set a 1) := by
 have hb : ∀ x, x ∈ (List.replicate n (0 : Rat)).set a 1 → Bd 1 x := fun x hx => by
  rcases List.mem_or_eq_of_mem_set hx with h | h
  ·rw [(List.mem_replicate.1 h).2]; exact Bd0 (by decide)
  ·rw [h]; exact Bd1
 refine ⟨by simp, fun v => ?_, fun t ht _ => oJ (by decide) hb t, fun x hx => (hb x hx).mono (by decide)⟩
 rw [nQ (by simpa using ha), dotR_zero, List.getD_eq_getElem?_getD (l := List.replicate n 0), List.getElem?_replicate, if_pos ha]
 unfold mnF
 show 0 + (1 - (0 : Rat)) * _ = _
 grind
theorem RowR.step {n : Nat} {d : Rat} {bs : List BR} {a j : Nat} {row : List Rat} (h : RowR n d bs a j row) (hb : VB n bs) (hj : j < bs.length) (hd : Bd 2 d) : RowR n d bs a (j + 1) (row.set (bs.getD j default).1.toNat (row.getD (bs.getD j default).1.toNat default - d * nq (bs.getD j default).2)) := by
 obtain ⟨h1, h2, h3, h4⟩ := h
 have ht := hb.to j hj
 have hz := h3 (bs.getD j default).1.toNat om fun i hi => by have := hb.inc i j hi hj; omega
 refine ⟨by rw [List.length_set]; exact h1, fun v => ?_, fun t htn hne => ?_, fun x hx => ?_⟩
 ·rw [nQ om, h2]
  show _ = v.getD a default - d * (mnF bs (fn_ v) j + nq (bs.getD j default).2 * v.getD (bs.getD j default).1.toNat default)
  grind
 ·rw [cB om, if_neg (fun e => hne j om om)]
  exact h3 t htn fun i hi => hne i om
 ·rcases List.mem_or_eq_of_mem_set hx with h | h
  ·exact h4 x h
  ·rw [h, Rat.sub_eq_add_neg]; exact (hz.add (hd.mul (hb.vn j hj).bd).neg).mono (by decide)
theorem worth_sys {ss : List ST} {d : Rat} (h : DM ss d) (hn : ss.length ≤ 40) {st : List Int} (hst : vSt ss st = true) {A : List (List Rat)} {b : List Rat} (hl : A.length = ss.length) (hbl : b.length = ss.length)
  (hA : ∀ i, i < ss.length → RowOk ss.length d (ch ss i (st.getD i default).toNat).2.2 i (A.getD i default)) (hb : ∀ i, i < ss.length → b.getD i default = nq (ch ss i (st.getD i default).toNat).1) (hbA : BdL 8 A) (hbb : ∀ x, x ∈ b → Bd 8 x) :
  GB (wR A b) ss.length 268435456 ∧ GB (wR A b) (ss.length + 1) 268435456 ∧ nosol (gjn (wR A b) ss.length) ss.length = false ∧ (solv (gjn (wR A b) ss.length) ss.length (gjn (wR A b) ss.length).2.length).length = ss.length ∧
   WV ss d st (fn_ (solv (gjn (wR A b) ss.length) ss.length (gjn (wR A b) ss.length).2.length)) ∧ ∀ x, x ∈ solv (gjn (wR A b) ss.length) ss.length (gjn (wR A b) ss.length).2.length → Bd 268435456 x := by
 have hw : Wid ss.length A := fun r hr => by
  obtain ⟨i, hi, rfl⟩ := List.getElem_of_mem hr
  have := (hA i om).1
  rwa [show A.getD i default = A[i] by rw [List.getD_eq_getElem?_getD, List.getElem?_eq_getElem hi]; rfl] at this
 have hW : Wid (ss.length + 1) (wR A b) := wR_wid hw
 have hbW : BdL 8 (wR A b) := wR_bd om hbA hbb
 have hG : ∀ c, c ≤ ss.length + 1 → GB (wR A b) c 268435456 := fun c hc => GB_all hbW (by decide) (by decide) hW (by rw [nD]; omega) om hc
 have hk : ∀ x : Nat → Rat, (∀ i, i < ss.length → sm (fun j => ent A i j * x j) ss.length = 0) → ∀ j, j < ss.length → x j = 0 := by
  intro x hx
  have hrow : ∀ i, i < ss.length → x i = d * mnF (ch ss i (st.getD i default).toNat).2.2 x (ch ss i (st.getD i default).toNat).2.2.length := fun i hi => by
   have h1 := (hA i hi).2 ((List.range ss.length).map x)
   rw [nR, (hA i hi).1, cG (g := fun j => ent A i j * x j) ss.length fun j hj => by rw [fK hj]; rfl, hx i hi, fK hi] at h1
   have h2 := mnF_congr (st_wb h hst hi) (u := fn_ ((List.range ss.length).map x)) (v := x) (fun j hj => fK hj) _ (Nat.le_refl _)
   rw [h2] at h1
   grind
  have hz : ∀ bs : List BR, ∀ i, mnF bs (fun _ => 0) i = 0 := fun bs i => by
   induction i with
   | zero => rfl
   | succ i ih => unfold mnF; rw [ih]; grind
  have k1 := comp (Rat.le_of_lt h.d0) h.d1 (u := fun _ => 0) (v := x) fun i hi => ⟨_, st_wb h hst hi, by have := hrow i hi; rw [hz]; grind⟩
  have k2 := comp (Rat.le_of_lt h.d0) h.d1 (u := x) (v := fun _ => 0) fun i hi => ⟨_, st_wb h hst hi, by have := hrow i hi; rw [hz]; grind⟩
  intro j hj
  have a1 := k1 j hj
  have a2 := k2 j hj
  grind
 obtain ⟨hns, hsol⟩ := lin_ok (b := b) hl hw hk
 refine ⟨hG _ om, hG _ (Nat.le_refl _), hns, solv_len _ _ _, fun i hi => ?_, solv_bd (by decide) ((hG _ (Nat.le_refl _)).bds _ om) _⟩
 have h1 := hsol i hi
 rw [(hA i hi).2, hb i hi] at h1
 show (solv _ _ _).getD i default = nq _ + d * mnF _ _ _
 grind
open Go.RowKit
def xmean (bs : List BR) (vx : List X) : Nat → X
 | 0 => x0
 | i + 1 => xadd (xmean bs vx i) (xmul (nx (bs.getD i default).2) (vx.getD (bs.getD i default).1.toNat default))
def xyl (c : CH) (d : X) (vx : List X) : X := xadd (nx c.1) (xmul d (xmean c.2.2 vx c.2.2.length))
def vl (vx : List X) : Nat → Rat := fn_ (vx.map (·.1))
theorem jK (vx : List X) (i : Nat) : (vx.getD i default).1 = vl vx i := by
 unfold vl fn_
 rw [List.getD_eq_getElem?_getD, List.getD_eq_getElem?_getD, List.getElem?_map]
 cases vx[i]? <;> rfl
theorem xmean_v (bs : List BR) (vx : List X) : ∀ i, (xmean bs vx i).1 = mnF bs (vl vx) i
 | 0 => rfl
 | i + 1 => by
  show (xmean bs vx i).1 + nq _ * (vx.getD _ default).1 = _
  rw [xmean_v bs vx i, jK]; rfl
theorem xyl_v (c : CH) (d : X) (vx : List X) : (xyl c d vx).1 = yl d.1 c (vl vx) := by
 show nq c.1 + d.1 * (xmean _ _ _).1 = _
 rw [xmean_v]; rfl
theorem VN.all3 {a : NM} (h : VN a) : I64 a.1 ∧ I64 a.2 ∧ a.2 ≠ 0 := by
 obtain ⟨h1, h2, h3, h4, _⟩ := h
 unfold I64
 omega
theorem kK {vx : List X} {β : Nat} (h0 : 1 ≤ β) (h : ∀ x, x ∈ vx → Bd β x.1) (t : Nat) : Bd β (vx.getD t default).1 := by
 rcases Nat.lt_or_ge t vx.length with ht | ht
 ·exact h _ (bJ ht)
 ·rw [List.getD_eq_getElem?_getD, List.getElem?_eq_none ht]; exact Bd0 h0
theorem oR {n : Nat} {bs : List BR} (hb : VB n bs) {vx : List X} {β : Nat} (h0 : 1 ≤ β) (h : ∀ x, x ∈ vx → Bd β x.1) : ∀ i, i ≤ bs.length → Bd (1 + i * (β + 3)) (xmean bs vx i).1
 | 0, _ => Bd0 om
 | i + 1, hi => ((oR hb h0 h i om).add ((hb.vn i om).bd.mul (kK h0 h _))).mono (by rw [Nat.succ_mul]; omega)
theorem xyl_bd {n : Nat} {c : CH} (hr : VN c.1) (hb : VB n c.2.2) {d : X} (hd : Bd 2 d.1) {vx : List X} {β : Nat} (h0 : 1 ≤ β) (h : ∀ x, x ∈ vx → Bd β x.1) : Bd (8 * β + 40) (xyl c d vx).1 := by
 have h1 := oR hb h0 h c.2.2.length (Nat.le_refl _)
 refine (hr.bd.add (hd.mul h1)).mono ?_
 have : c.2.2.length * (β + 3) ≤ 8 * (β + 3) := Nat.mul_le_mul_right _ hb.len.2
 omega
def sgnF (p : Int) (a b : Rat) : Int := if p = 1 then (b - a).num.sign else (a - b).num.sign
theorem oL {p : Int} {a b : Rat} : 0 < sgnF p a b ↔ btr p a b := by
 have key : ∀ x : Rat, 0 < x.num.sign ↔ 0 < x := fun x => by
  rw [Int.sign_pos_iff]
  have h1 := Rat.num_nonneg (q := x)
  have h2 := Rat.num_eq_zero (q := x)
  constructor
  ·intro h
   have h3 := h1.1 om
   have h4 : x ≠ 0 := fun e => by have := h2.2 e; omega
   grind
  ·intro h
   have h3 := h1.2 (by grind)
   have h4 : x.num ≠ 0 := fun e => by have := h2.1 e; grind
   omega
 unfold sgnF btr
 by_cases h : p = 1
 ·rw [if_pos h, if_pos h, key]; constructor <;> intro h <;> grind
 ·rw [if_neg h, if_neg h, key]; constructor <;> intro h <;> grind
section
variable {P : Program} {T : TT} {E : TypeId → Bool} {N : Nat} {oa : Array Oper} {i b : Nat} {e : Env} {h : Hp} {Q : Env → Hp → Nat → Prop}
theorem WN.Gv {u : Tmp} {fn : Func} {f : FuncId} {c : Code} {args : Array Operand} {at_ : Array TypeId} {t : TypeId} {pos : String} {af : Array Edge} {l : List Oper} {dst : Tmp} {first cap ls : List LV} {n : Nat} {Φ : LV → Hp → Nat → Prop} (hv : evE e (.tmp u) = some (.fn (.func f) first cap)) (ha : argsE e args.toList = some ls) (hf : P.funcs[f]? = some fn) (hb : fn.body = some c) (hn : (fn.name == "runtime.NumGoroutine") = false)
  (hl : (first ++ ls ++ cap).length ≤ fn.ntmps) (hd : Nat.blt dst N = true)
  (k : WC P T E fn.ntmps c (argsEnv 0 (first ++ ls ++ cap)) h n (fun x e' h' n' => (x = .normal ∨ x = .ret) ∧ ∃ ls', resE e' T h' fn.results.toList = some ls' ∧ Φ (resultLV ls') h' n'))
  (kk : ∀ r h' n', Φ r h' n' → WN P T E N oa l (i + 1) b ((dst, r) :: e) h' n' Q) :
  WN P T E N oa (⟨some dst, .call { callee := .value (.tmp u), args := args, argTypes := at_ }, t, pos, af, none⟩ :: l) i b e h n Q := by
 intro hdr s m hs hm
 obtain ⟨hi, hl'⟩ := fO hdr
 obtain ⟨x, s', h1, e', h', h2, h3, hx, ls', hr, hΦ⟩ := k (frame fn (first ++ ls ++ cap)) m ⟨by simp [frame]; simp at hl; omega, fun t l ht => by
  obtain ⟨_, k⟩ := fY (first ++ ls ++ cap) 0 t l ht
  simp only [Nat.sub_zero] at k
  unfold frame
  rw [List.getElem?_append_left (List.getElem?_eq_some_iff.1 k).1]; exact k⟩ hm
 have hg : Run P T E (.gcall f (first ++ ls ++ cap) m n (resultLV ls') s'.m s'.n) := .gcall f fn c (first ++ ls ++ cap) m n x s' ls' hf hb hn hl h1 hx (fV h2 h3 hr)
 obtain ⟨rs, s2, k1, k2⟩ := kk _ h' s'.n hΦ hl' _ _ (hs.put hd (resultLV ls')) h3
 refine ⟨⟨i, [], [], true⟩ :: rs, s2, ?_, k2⟩
 rw [List.length_cons, List.range'_succ]
 refine .gdid oa i _ b ⟨s, m, n⟩ s2 rs _ _ (.tmp u) f first cap (resultLV ls') s'.m s'.n (by simpa using hi) rfl rfl rfl (dW hs hv) ?_ k1
 rw [eA (fun x l hx => dW hs hx) ha]
 exact hg
theorem Fz.weakH {K : Env → Hp → Prop} (a : Hp) (hs : Hp.le a h) (k : Fz N e a K) : Fz N e h K := fun s m hf hm => k s m hf fun t l hg => hm t l (hs t l hg)
end
end Go.Ab
namespace Go.Ab
def rq2 (a b n x : Nat) : Nat := if x = a then 0 else if x = b then 1 else rn n x + 2
theorem rq2_a (a b n : Nat) : rq2 a b n a = 0 := if_pos rfl
theorem rq2_b {a b n : Nat} (h : b ≠ a) : rq2 a b n b = 1 := by unfold rq2; rw [if_neg h, if_pos rfl]
theorem rq2_lt {a b n x : Nat} (h : x < n) (h1 : x ≠ a) (h2 : x ≠ b) : rq2 a b n x = 2 := by unfold rq2; rw [if_neg h1, if_neg h2, rn_lt h]
theorem rq2_add {a b n : Nat} (h1 : a < n) (h2 : b < n) (k : Nat) : rq2 a b n (n + k) = k + 3 := by unfold rq2; rw [if_neg om, if_neg om, mZ]
end Go.Ab
namespace Go.Ab
open Go.RowKit
theorem WN.B {P : Program} {T : TT} {E : TypeId → Bool} {N : Nat} {oa : Array Oper} {i b n : Nat} {e : Env} {h : Hp} {Q : Env → Hp → Nat → Prop} {l : List Oper} {dst : Tmp} {p : Bool} (h1 : p = true → WN P T E N oa l i b ((dst, .v (.bool true)) :: e) h n Q) (h2 : p = false → WN P T E N oa l i b ((dst, .v (.bool false)) :: e) h n Q) : WN P T E N oa l i b ((dst, .v (.bool p)) :: e) h n Q := by
 cases p
 ·exact h2 rfl
 ·exact h1 rfl
theorem four_lt {n a b c d : Nat} {o1 o2 o3 o4 : Ob} (h1 : a < n) (h2 : b < n) (h3 : c < n) (h4 : d < n) : ∀ q o, getH [(a, o1), (b, o2), (c, o3), (d, o4)] q = some o → q < n := by
 intro q o hq
 by_cases e1 : a = q
 ·omega
 ·rw [g1 e1 rfl] at hq
  by_cases e2 : b = q
  ·omega
  ·rw [g1 e2 rfl] at hq
   by_cases e3 : c = q
   ·omega
   ·rw [g1 e3 rfl] at hq
    by_cases e4 : d = q
    ·omega
    ·rw [g1 e4 rfl] at hq; simp [getH] at hq
end Go.Ab
namespace Go.Ab
open Go.RowKit
def btB (p : Int) (a b : Rat) : Bool := if p = 1 then decide (a < b) else decide (b < a)
theorem btB_iff {p : Int} {a b : Rat} : btB p a b = true ↔ btr p a b := by
 unfold btB btr
 by_cases h : p = 1
 ·rw [if_pos h, if_pos h, decide_eq_true_eq]
 ·rw [if_neg h, if_neg h, decide_eq_true_eq]
theorem qS {p : Int} {a : Rat} : ¬ btr p a a := by unfold btr; split <;> grind
def bkF (p : Int) (ys : Nat → Rat) : Nat → Nat
 | 0 => 0
 | i + 1 => if btB p (ys i) (ys (bkF p ys i)) = true then i else bkF p ys i
section
variable {p : Int} {ys : Nat → Rat}
theorem bkF_yes {i : Nat} (h : btr p (ys i) (ys (bkF p ys i))) : bkF p ys (i + 1) = i := if_pos (btB_iff.2 h)
theorem rQ {i : Nat} (h : ¬ btr p (ys i) (ys (bkF p ys i))) : bkF p ys (i + 1) = bkF p ys i := if_neg fun k => h (btB_iff.1 k)
theorem nM : bkF p ys 1 = 0 := by rw [rQ qS]; rfl
theorem rP : ∀ n, 0 < n → bkF p ys n < n
 | 0, h => absurd h om
 | 1, _ => by rw [nM]; decide
 | n + 2, _ => by
  have := rP (n + 1) om
  unfold bkF
  split <;> omega
theorem btr_trans {a b c : Rat} (h1 : ¬ btr p a b) (h2 : ¬ btr p b c) : ¬ btr p a c := by
 unfold btr at *
 split at h1
 ·rename_i h; rw [if_pos h] at h2 ⊢; grind
 ·rename_i h; rw [if_neg h] at h2 ⊢; grind
theorem btr_asym {a b : Rat} (h : btr p a b) : ¬ btr p b a := by
 unfold btr at *
 split at h
 ·rename_i k; rw [if_pos k]; grind
 ·rename_i k; rw [if_neg k]; grind
theorem nL : ∀ n i, i < n → ¬ btr p (ys i) (ys (bkF p ys n))
 | 0, _, h => absurd h om
 | n + 1, i, h => by
  by_cases hb : btr p (ys n) (ys (bkF p ys n))
  ·rw [bkF_yes hb]
   by_cases e : i = n
   ·rw [e]; exact qS
   ·exact btr_trans (nL n i om) (btr_asym hb)
  ·rw [rQ hb]
   by_cases e : i = n
   ·rw [e]; exact hb
   ·exact nL n i om
end
def ysF (x : ST) (d : Rat) (v : Nat → Rat) : Nat → Rat := fun k => yl d (x.2.2.getD k default) v
def bsK (x : ST) (d : Rat) (v : Nat → Rat) : Nat := bkF x.1.1 (ysF x d v) x.2.2.length
def bsV (x : ST) (d : Rat) (v : Nat → Rat) : Rat := ysF x d v (bsK x d v)
def isV (ss : List ST) (d : Rat) (v : Nat → Rat) : Bool := (List.range ss.length).all fun i => decide (bsV (ss.getD i default) d v = v i)
theorem qY {ss : List ST} {d : Rat} {v : Nat → Rat} (h : DM ss d) : isV ss d v = true ↔ Val ss d v := by
 unfold isV
 rw [List.all_eq_true]
 constructor
 ·intro hv i hi
  have h1 : bsV (ss.getD i default) d v = v i := of_decide_eq_true (hv i (List.mem_range.2 hi))
  have hl := h.cs _ (bJ hi)
  have hk := rP (p := (ss.getD i default).1.1) (ys := ysF (ss.getD i default) d v) (ss.getD i default).2.2.length om
  refine ⟨⟨_, hk, h1.symm⟩, fun k hkl => ?_⟩
  have h2 := nL (p := (ss.getD i default).1.1) (ys := ysF (ss.getD i default) d v) (ss.getD i default).2.2.length k hkl
  have h3 : ysF (ss.getD i default) d v (bkF (ss.getD i default).1.1 (ysF (ss.getD i default) d v) (ss.getD i default).2.2.length) = v i := h1
  rw [h3] at h2
  unfold btr at h2
  by_cases ho : (ss.getD i default).1.1 = 1
  ·rw [if_pos ho] at h2 ⊢
   show v i ≤ ysF (ss.getD i default) d v k
   grind
  ·rw [if_neg ho] at h2 ⊢
   show ysF (ss.getD i default) d v k ≤ v i
   grind
 ·intro hv i hi
  have hi := List.mem_range.1 hi
  obtain ⟨⟨k, hk, e⟩, ha⟩ := hv i hi
  have hl := h.cs _ (bJ hi)
  have hb := rP (p := (ss.getD i default).1.1) (ys := ysF (ss.getD i default) d v) (ss.getD i default).2.2.length om
  have h2 := nL (p := (ss.getD i default).1.1) (ys := ysF (ss.getD i default) d v) (ss.getD i default).2.2.length k hk
  have h3 := ha _ hb
  refine decide_eq_true ?_
  show ysF (ss.getD i default) d v _ = v i
  have e' : v i = ysF (ss.getD i default) d v k := e
  unfold btr at h2
  by_cases ho : (ss.getD i default).1.1 = 1
  ·rw [if_pos ho] at h2 h3
   have h3' : v i ≤ ysF (ss.getD i default) d v (bkF (ss.getD i default).1.1 (ysF (ss.getD i default) d v) (ss.getD i default).2.2.length) := h3
   unfold bsK
   grind
  ·rw [if_neg ho] at h2 h3
   have h3' : ysF (ss.getD i default) d v (bkF (ss.getD i default).1.1 (ysF (ss.getD i default) d v) (ss.getD i default).2.2.length) ≤ v i := h3
   unfold bsK
   grind
def absR (x : Rat) : Rat := if x < 0 then -x else x
def gapF (ss : List ST) (d : Rat) (v : Nat → Rat) : Nat → Rat
 | 0 => 0
 | i + 1 => if gapF ss d v i < absR (bsV (ss.getD i default) d v - v i) then absR (bsV (ss.getD i default) d v - v i) else gapF ss d v i
def yds (ss : List ST) (d : Rat) (v : Nat → Rat) : List (List Rat) := tab ss.length fun i => tab (ss.getD i default).2.2.length (ysF (ss.getD i default) d v)
def eD (ss : List ST) (f : NM) (ns : List NM) : Int := if VMo ss = true ∧ VN f ∧ ns.all vn = true then if 0 < f.1 ∧ f.1 < f.2 then 0 else 6 else 1
theorem eD_ok {ss : List ST} {f : NM} {ns : List NM} (h : eD ss f ns = 0) : VMo ss = true ∧ VN f ∧ ns.all vn = true ∧ 0 < f.1 ∧ f.1 < f.2 := by
 unfold eD at h
 by_cases h1 : VMo ss = true ∧ VN f ∧ ns.all vn = true
 ·rw [if_pos h1] at h
  by_cases h2 : 0 < f.1 ∧ f.1 < f.2
  ·exact ⟨h1.1, h1.2.1, h1.2.2, h2⟩
  ·rw [if_neg h2] at h; cases h
 ·rw [if_neg h1] at h; cases h
theorem lE {f : NM} (h : VN f) (h0 : 0 < f.1) (h1 : f.1 < f.2) : 0 < nq f ∧ nq f < 1 := by
 refine ⟨nq_pos h h0, ?_⟩
 unfold nq
 rw [Rat.divInt_eq_div]
 have e1 : (f.1 : Rat) < (f.2 : Rat) := by exact_mod_cast h1
 have e2 : (0 : Rat) < (f.2 : Rat) := by
  have : 0 < f.2 := by omega
  exact_mod_cast this
 generalize (f.1 : Rat) = p at *
 generalize (f.2 : Rat) = q at *
 apply Classical.byContradiction
 intro hn
 have h3 : 0 ≤ (p / q - 1) * q := Rat.mul_nonneg (by grind) (Rat.le_of_lt e2)
 have h4 : p / q * q = p := by grind
 grind
def bestO (ss : List ST) (d : Rat) (vv : List Rat) : LV :=
 match vv.mapM outN with
 | none => .tup [.sl 0 [], .sl 0 [], .v (.int .i64 3)]
 | some o => .tup [.sl (kd o.length) (o.map mc), .sl 1 ((tab ss.length fun i => ((bsK (ss.getD i default) d (fn_ vv) : Nat) : Int)).map ic), .v (.int .i64 0)]
theorem val_list {ss : List ST} {d : Rat} (h : DM ss d) {u v : List Rat} (hu : u.length = ss.length) (hv : v.length = ss.length) (h1 : Val ss d (fn_ u)) (h2 : Val ss d (fn_ v)) : u = v :=
 glist_eq om fun i hi => (Val.uniq h h2 h1 i om)
end Go.Ab
namespace Go.Ab
open Go.RowKit
theorem vl_nx (ns : List NM) : vl (ns.map nx) = fn_ (ns.map nq) := by unfold vl; rw [List.map_map]; rfl
theorem sign_num0 {a b : Rat} : (a - b).num.sign = 0 ↔ a = b := by
 rw [Int.sign_eq_zero_iff_zero]
 constructor
 ·intro h
  have : a - b = 0 := Rat.num_eq_zero.1 h
  grind
 ·rintro rfl
  rw [Rat.sub_self]; rfl
def chkO (ss : List ST) (f : NM) (ns : List NM) : LV := if eD ss f [] = 0 then .tup [.v (.bool (decide (ns.length = ss.length) && ns.all vn && isV ss (nq f) (fn_ (ns.map nq)))), .v (.int .i64 0)] else .tup [.v (.bool false), .v (.int .i64 (eD ss f []))]
def ydM (ss : List ST) (f : NM) (ns : List NM) : Option (List (List NM)) := (yds ss (nq f) (fn_ (ns.map nq))).mapM fun r => r.mapM outN
def ydsO (ss : List ST) (f : NM) (ns : List NM) : LV := if eD ss f ns = 0 then if ns.length = ss.length then lvOM (ydM ss f ns) else .tup [.sl 0 [], .v (.int .i64 2)] else .tup [.sl 0 [], .v (.int .i64 (eD ss f ns))]
def gapO (ss : List ST) (f : NM) (ns : List NM) : LV := if eD ss f ns = 0 then if ns.length = ss.length then if (ydM ss f ns).isSome = true then lvO (outN (gapF ss (nq f) (fn_ (ns.map nq)) ss.length / (1 - nq f))) else .tup [lvM (0, 0), .v (.int .i64 3)] else .tup [lvM (0, 0), .v (.int .i64 2)] else .tup [lvM (0, 0), .v (.int .i64 (eD ss f ns))]
theorem eD_full {ss : List ST} {f : NM} {ns : List NM} (h : eD ss f [] = 0) (ha : ns.all vn = true) : eD ss f ns = 0 := by
 obtain ⟨h1, h2, _, h3, h4⟩ := eD_ok h
 unfold eD; rw [if_pos ⟨h1, h2, ha⟩, if_pos ⟨h3, h4⟩]
theorem vn_all {ns : List NM} (h : ns.all vn = true) : ∀ a, a ∈ ns → VN a := fun a ha => of_decide_eq_true (List.all_eq_true.1 h a ha)
theorem nx_bd {ns : List NM} (h : ∀ a, a ∈ ns → VN a) : ∀ x, x ∈ ns.map nx → Bd 2 x.1 := fun x hx => by
 obtain ⟨a, ha, rfl⟩ := List.mem_map.1 hx
 exact (h a ha).bd
theorem bsK_lt {x : ST} {d : Rat} {v : Nat → Rat} (h : 1 ≤ x.2.2.length) : bsK x d v < x.2.2.length := rP _ om
theorem pV {a b : LV} (ha : Data a) (hb : Data b) : Data (.tup [a, b]) := .tup _ (by intro c hc; simp only [List.mem_cons, List.not_mem_nil, or_false] at hc; rcases hc with rfl | rfl <;> assumption)
theorem jP {ss : List ST} {f : NM} {ns : List NM} : Data (chkO ss f ns) := by unfold chkO; split <;> exact pV (.v _) (.v _)
theorem lvOM_data (o : Option (List (List NM))) : Data (lvOM o) := pV (.sl _ _ fun row hr => bN dfM row hr) (.v _)
theorem pS {ss : List ST} {f : NM} {ns : List NM} : Data (ydsO ss f ns) := by
 unfold ydsO
 split
 ·split
  ·exact lvOM_data _
  ·exact pV (.sl _ _ (by simp)) (.v _)
 ·exact pV (.sl _ _ (by simp)) (.v _)
theorem lvO_data (o : Option NM) : Data (lvO o) := by cases o <;> exact pV (by simp) (.v _)
theorem lT {ss : List ST} {f : NM} {ns : List NM} : Data (gapO ss f ns) := by
 unfold gapO
 split
 ·split
  ·split
   ·exact lvO_data _
   ·exact pV (by simp) (.v _)
  ·exact pV (by simp) (.v _)
 ·exact pV (by simp) (.v _)
end Go.Ab
namespace Go.Ab
open Go.RowKit
theorem lvO_pair (o : Option NM) : lvO o = .tup [lvM (o.getD (0, 0)), .v (.int .i64 (if o.isSome = true then 0 else 3))] := by cases o <;> rfl
theorem gD {x : Rat} : x.num.sign < 0 ↔ x < 0 := by
 rw [Int.sign_neg_iff]
 have h := Rat.num_nonneg (q := x)
 constructor
 ·intro h1; apply Classical.byContradiction; intro h2; have := h.2 (by grind); omega
 ·intro h1; apply Classical.byContradiction; intro h2; have := h.1 om; grind
theorem iF {x : Rat} : 0 < x.num.sign ↔ 0 < x := by
 have h1 := gD (x := x)
 have h2 := fH (q := x)
 constructor
 ·intro h; apply Classical.byContradiction; intro h3
  by_cases h4 : x = 0
  ·have := h2.2 h4; omega
  ·have := h1.2 (by grind); omega
 ·intro h; apply Classical.byContradiction; intro h3
  by_cases h4 : x.num.sign = 0
  ·have := h2.1 h4; grind
  ·have := h1.1 om; grind
theorem absR_neg {x : Rat} (h : x < 0) : absR x = -x := if_pos h
theorem absR_pos {x : Rat} (h : ¬ x < 0) : absR x = x := if_neg h
theorem gapF_yes {ss : List ST} {d : Rat} {v : Nat → Rat} {i : Nat} (h : gapF ss d v i < absR (bsV (ss.getD i default) d v - v i)) : gapF ss d v (i + 1) = absR (bsV (ss.getD i default) d v - v i) := if_pos h
theorem gapF_no {ss : List ST} {d : Rat} {v : Nat → Rat} {i : Nat} (h : ¬ gapF ss d v i < absR (bsV (ss.getD i default) d v - v i)) : gapF ss d v (i + 1) = gapF ss d v i := if_neg h
end Go.Ab
namespace Go.Ab
open Go.RowKit
theorem Bd_0 : Bd 2 (0 : Rat) := Bd_int (z := 0) (by decide)
theorem Bd_1 : Bd 2 (1 : Rat) := Bd_int (z := 1) (by decide)
theorem I64_1 : I64 1 := by unfold I64; omega
theorem I64_0 : I64 0 := by unfold I64; omega
theorem den1_ne {d : Rat} (h : d < 1) : (1 : Rat) + -d ≠ 0 := by grind
open Go.RowKit
open Classical in
noncomputable def vals (ss : List ST) (d : Rat) : List Rat := if h : ∃ v : List Rat, v.length = ss.length ∧ Val ss d (fn_ v) then Classical.choose h else []
theorem oQ {ss : List ST} {d : Rat} (hD : DM ss d) {v : List Rat} (hl : v.length = ss.length) (hv : Val ss d (fn_ v)) : vals ss d = v := by
 have h : ∃ v : List Rat, v.length = ss.length ∧ Val ss d (fn_ v) := ⟨v, hl, hv⟩
 have e : vals ss d = Classical.choose h := dif_pos h
 rw [e]
 exact val_list hD (Classical.choose_spec h).1 hl (Classical.choose_spec h).2 hv
noncomputable def dbO (ss : List ST) (f : NM) : LV := if eD ss f [] = 0 then bestO ss (nq f) (vals ss (nq f)) else .tup [.sl 0 [], .sl 0 [], .v (.int .i64 (eD ss f []))]
theorem dtup3 {a b c : LV} (ha : Data a) (hb : Data b) (hc : Data c) : Data (.tup [a, b, c]) := .tup _ (by intro x hx; simp only [List.mem_cons, List.not_mem_nil, or_false] at hx; rcases hx with rfl | rfl | rfl <;> assumption)
theorem rN {ss : List ST} {d : Rat} {v : List Rat} (h : v.mapM outN = none) : bestO ss d v = .tup [.sl 0 [], .sl 0 [], .v (.int .i64 3)] := by unfold bestO; rw [h]
theorem gL {ss : List ST} {d : Rat} {v : List Rat} {o : List NM} (h : v.mapM outN = some o) : bestO ss d v = .tup [.sl (kd o.length) (o.map mc), .sl 1 ((tab ss.length fun i => ((bsK (ss.getD i default) d (fn_ v) : Nat) : Int)).map ic), .v (.int .i64 0)] := by unfold bestO; rw [h]
theorem bestO_data {ss : List ST} {d : Rat} {v : List Rat} : Data (bestO ss d v) := by
 cases h : v.mapM outN with
 | none => rw [rN h]; exact dtup3 (.sl _ _ (by simp)) (.sl _ _ (by simp)) (.v _)
 | some o => rw [gL h]; exact dtup3 (.sl _ _ (bN dmc)) (.sl _ _ (bN dic1)) (.v _)
theorem dbO_data {ss : List ST} {f : NM} : Data (dbO ss f) := by
 unfold dbO
 split
 ·exact bestO_data
 ·exact dtup3 (.sl _ _ (by simp)) (.sl _ _ (by simp)) (.v _)
def awk (p : Int) : List ST := [((p, 0), (2, [((1, 1), (2, [(0, (1, 1))])), ((2, 1), (2, [(0, (1, 1))]))]))]
theorem awk_is (p : Int) (h : I64 p) : ∀ s, s ∈ awk p → IS s := by
 intro s hs
 simp only [awk, List.mem_cons, List.not_mem_nil, or_false] at hs
 subst hs
 refine ⟨h, I64_0, ?_⟩
 intro c hc
 simp only [List.mem_cons, List.not_mem_nil, or_false] at hc
 rcases hc with rfl | rfl <;> refine ⟨?_, ?_, ?_⟩ <;> simp [I64, IB]
theorem awk_data (p : Int) : Data (lvMo 2 (awk p)) := .agg _ fun c hc => by rw [List.mem_singleton] at hc; subst hc; exact .sl _ _ fun row hr c hc => dstc row hr c hc
theorem lZ (k : Nat) (a : NM) : Data (.sl k [mc a]) := .sl _ _ fun row hr c hc => by rw [List.mem_singleton] at hr; subst hr; exact dmc a c hc
theorem lV (k : Nat) (a : Int) : Data (.sl k [ic a]) := .sl _ _ fun row hr c hc => by rw [List.mem_singleton] at hr; subst hr; exact dic1 a c hc
theorem awk_e0 : eD (awk 0) (1, 2) [] = 0 := by decide +kernel
theorem awk_e1 : eD (awk 1) (1, 2) [] = 0 := by decide +kernel
theorem awk_DM {p : Int} (h : eD (awk p) (1, 2) [] = 0) : DM (awk p) (nq (1, 2)) := by
 obtain ⟨h1, h2, _, h3, h4⟩ := eD_ok h
 exact iP h1 (lE h2 h3 h4).1 (lE h2 h3 h4).2
theorem awk_b0 : dbO (awk 0) (1, 2) = .tup [.sl 1 [mc (4, 1)], .sl 1 [ic 1], .v (.int .i64 0)] := by
 have hv : Val (awk 0) (nq (1, 2)) (fn_ [4]) := (qY (awk_DM awk_e0)).1 (by decide +kernel)
 unfold dbO
 rw [if_pos awk_e0, oQ (awk_DM awk_e0) (v := [4]) rfl hv, gL (o := [(4, 1)]) (by decide +kernel)]
 have h2 : (tab (awk 0).length fun i => ((bsK ((awk 0).getD i default) (nq (1, 2)) (fn_ [4]) : Nat) : Int)) = [1] := by decide +kernel
 rw [h2]; rfl
theorem awk_b1 : dbO (awk 1) (1, 2) = .tup [.sl 1 [mc (2, 1)], .sl 1 [ic 0], .v (.int .i64 0)] := by
 have hv : Val (awk 1) (nq (1, 2)) (fn_ [2]) := (qY (awk_DM awk_e1)).1 (by decide +kernel)
 unfold dbO
 rw [if_pos awk_e1, oQ (awk_DM awk_e1) (v := [2]) rfl hv, gL (o := [(2, 1)]) (by decide +kernel)]
 have h2 : (tab (awk 1).length fun i => ((bsK ((awk 1).getD i default) (nq (1, 2)) (fn_ [2]) : Nat) : Int)) = [0] := by decide +kernel
 rw [h2]; rfl
end Go.Ab
namespace Go.Ab
open Go.RowKit
end Go.Ab
namespace Go.Ab
open Go.RowKit
def chkB (ss : List ST) (f : NM) (ns : List NM) : Bool := decide (eD ss f [] = 0) && decide (ns.length = ss.length) && ns.all vn && isV ss (nq f) (fn_ (ns.map nq))
theorem chkO_pair (ss : List ST) (f : NM) (ns : List NM) : chkO ss f ns = .tup [.v (.bool (chkB ss f ns)), .v (.int .i64 (eD ss f []))] := by
 unfold chkO chkB
 by_cases h : eD ss f [] = 0
 ·rw [if_pos h, decide_eq_true h, Bool.true_and, h]
 ·rw [if_neg h, decide_eq_false h, Bool.false_and, Bool.false_and, Bool.false_and]
theorem chkB_yes {ss : List ST} {f : NM} {ns : List NM} (h1 : eD ss f [] = 0) (h2 : ns.length = ss.length) (h3 : ns.all vn = true) : chkB ss f ns = isV ss (nq f) (fn_ (ns.map nq)) := by unfold chkB; rw [decide_eq_true h1, decide_eq_true h2, h3]; rfl
open Go.RowKit
def CO (D C : Nat) (x : Rat) : Prop := ∃ a : Int, x * (D : Rat) = (a : Rat) ∧ a.natAbs * 16 ≤ C
theorem CO.mean {D C t : Nat} {d : Rat} {bs : List BR} {v : Nat → Rat} (hc : ∀ b, b ∈ bs → CO D C (d * nq b.2)) (hv : ∀ j, QB D C 8 t (v j)) : ∀ i, i ≤ bs.length → ∃ z : Int, (d * mnF bs v i) * (D : Rat) ^ (t + 1) = (z : Rat) ∧ z.natAbs * 16 ≤ i * C ^ (t + 1)
 | 0, _ => ⟨0, by unfold mnF; rw [Rat.mul_zero, Rat.zero_mul]; rfl, by simp⟩
 | i + 1, hi => by
  obtain ⟨z, h1, h2⟩ := CO.mean hc hv i om
  obtain ⟨a, h3, h4⟩ := hc _ (bJ (us := bs) (i := i) om)
  obtain ⟨q, h5, h6⟩ := hv (bs.getD i default).1.toNat
  refine ⟨z + a * q, ?_, ?_⟩
  ·have e : (d * mnF bs v (i + 1)) * (D : Rat) ^ (t + 1) = (d * mnF bs v i) * (D : Rat) ^ (t + 1) + (d * nq (bs.getD i default).2 * (D : Rat)) * (v (bs.getD i default).1.toNat * (D : Rat) ^ t) := by
    rw [show mnF bs v (i + 1) = mnF bs v i + nq (bs.getD i default).2 * v (bs.getD i default).1.toNat from rfl, Rat.pow_succ]
    generalize (D : Rat) ^ t = p
    grind
   rw [e, h1, h3, h5, Rat.intCast_add, Rat.intCast_mul]
  ·have h7 := Int.natAbs_add_le z (a * q)
   rw [Int.natAbs_mul] at h7
   have h8 : (a.natAbs * 16) * q.natAbs ≤ C * C ^ t := Nat.mul_le_mul h4 om
   rw [← Nat.pow_succ'] at h8
   replace h8 : _ ≤ C ^ (t + 1) := h8
   have h9 : (a.natAbs * 16) * q.natAbs = a.natAbs * q.natAbs * 16 := by rw [Nat.mul_right_comm]
   rw [h9] at h8
   rw [Nat.succ_mul]
   omega
theorem CO.step {D C t : Nat} {d : Rat} {c : CH} {v : Nat → Rat} (hr : CO D C (nq c.1)) (hc : ∀ b, b ∈ c.2.2 → CO D C (d * nq b.2)) (hv : ∀ j, QB D C 8 t (v j)) (hl : c.2.2.length ≤ 8) (hDC : D ≤ C) : QB D C 8 (t + 1) (yl d c v) := by
 obtain ⟨z, h1, h2⟩ := CO.mean hc hv c.2.2.length (Nat.le_refl _)
 obtain ⟨a, h3, h4⟩ := hr
 refine ⟨z + a * ((D ^ t : Nat) : Int), ?_, ?_⟩
 ·have e : yl d c v * (D : Rat) ^ (t + 1) = (d * mnF c.2.2 v c.2.2.length) * (D : Rat) ^ (t + 1) + (nq c.1 * (D : Rat)) * (D : Rat) ^ t := by
   unfold yl mn
   rw [Rat.pow_succ]
   generalize (D : Rat) ^ t = p
   grind
  rw [e, h1, h3, Rat.intCast_add, Rat.intCast_mul, Rat.intCast_natCast, Rat.natCast_pow]
 ·have h7 := Int.natAbs_add_le z (a * ((D ^ t : Nat) : Int))
  rw [Int.natAbs_mul, Int.natAbs_natCast] at h7
  have h8 : (a.natAbs * 16) * D ^ t ≤ C * C ^ t := Nat.mul_le_mul h4 (Nat.pow_le_pow_left hDC t)
  rw [← Nat.pow_succ'] at h8
  replace h8 : _ ≤ C ^ (t + 1) := h8
  have h9 : (a.natAbs * 16) * D ^ t = a.natAbs * D ^ t * 16 := by rw [Nat.mul_right_comm]
  rw [h9] at h8
  have h10 : c.2.2.length * C ^ (t + 1) ≤ 8 * C ^ (t + 1) := Nat.mul_le_mul_right _ hl
  omega
theorem CO.base {W : List Rat} (h : ∀ x, x ∈ W → Bd 4 x) (hl : W.length ≤ 2880) : ∃ D C e : Nat, e = 11525 ∧ 0 < D ∧ D ≤ C ∧ D ≤ 4294967296 ^ e ∧ C ≤ 4294967296 ^ e ∧ ∀ x, x ∈ W → CO D C x := by
 obtain ⟨a, ha⟩ : ∃ a : Nat, a = 11520 := ⟨_, rfl⟩
 have hD : dd W ≤ 4294967296 ^ a := by
  refine Nat.le_trans (dd_le (b := 4294967296 ^ 4) fun x hx => Nat.le_of_lt (h x hx).abs.2) ?_
  rw [← Nat.pow_mul]
  exact Nat.pow_le_pow_right (by decide) om
 refine ⟨dd W, 16 * (4294967296 ^ 4 * dd W), a + 5, om, dd_pos _, ?_, Nat.le_trans hD (Nat.pow_le_pow_right (by decide) om), ?_, fun x hx => ?_⟩
 ·have := dd_pos W
  have h2 : dd W ≤ 4294967296 ^ 4 * dd W := Nat.le_mul_of_pos_left _ (by decide)
  omega
 ·rw [Nat.add_comm, Nat.pow_add, show (4294967296 : Nat) ^ 5 = 4294967296 * 4294967296 ^ 4 by decide +kernel, Nat.mul_assoc]
  exact Nat.mul_le_mul (by decide) (Nat.mul_le_mul_left _ hD)
 ·obtain ⟨q, hq⟩ := dd_dvd hx
  have hb := (h x hx).abs.1
  have hdq : q ≤ dd W := by
   have := x.den_pos
   rw [hq]; exact Nat.le_mul_of_pos_left q this
  have hxd : x * (x.den : Rat) = (x.num : Rat) := by
   have h1 : x = (x.num : Rat) / ((x.den : Int) : Rat) := by rw [← Rat.divInt_eq_div, Rat.num_divInt_den]
   have h2 : ((x.den : Int) : Rat) ≠ 0 := by
    intro h0
    have : (x.den : Int) = 0 := by exact_mod_cast h0
    have := x.den_pos
    omega
   rw [← Rat.intCast_natCast]
   conv => lhs; lhs; rw [h1]
   exact Rat.div_mul_cancel h2
  refine ⟨x.num * (q : Int), ?_, ?_⟩
  ·rw [hq, Rat.natCast_mul, ← Rat.mul_assoc, hxd, Rat.intCast_mul, Rat.intCast_natCast]
  ·rw [Int.natAbs_mul, Int.natAbs_natCast, Nat.mul_comm _ 16]
   exact Nat.mul_le_mul_left 16 (Nat.mul_le_mul (Nat.le_of_lt hb) hdq)
end Go.Ab
namespace Go.Ab
end Go.Ab
namespace Go.Ab
end Go.Ab
namespace Go.Ab
open Go.RowKit
open Go.RowKit
def bst (ss : List ST) (d : Rat) (v : List Rat) : List Int := tab ss.length fun i : Nat => ((bsK (ss.getD i default) d (fn_ v) : Nat) : Int)
end Go.Ab
namespace Go.Ab
open Go.RowKit
open Go.RowKit
def oneC (a : Int) (t : Nat) : CH := ((a, 1), (2, [((t : Int), (1, 1))]))
def rg1 (o : Nat → Int) (n : Nat) (r : Int) : Nat → ST := fun s => ((o s, 0), (2, [oneC r ((s + 1) % n), oneC r s]))
def rg2 (n : Nat) (r : Int) : Nat → ST := fun s => ((0, 0), (2, [oneC (r - 1) s, oneC r ((s + 1) % n), oneC r s]))
def rgV (r : Int) (f : NM) : Rat := (r : Rat) / (1 - nq f)
theorem oD {n t : Nat} {a : Int} (ht : t < n) (ha : -1000 ≤ a ∧ a ≤ 1000) : VC n (oneC a t) = true := by
 have hv : vn (oneC a t).1 = true := decide_eq_true ⟨by show (1 : Int) ≤ 1; omega, by show (1 : Int) ≤ _; omega, by show a ≤ _; omega, by show _ ≤ a; omega, by show Int.gcd a 1 = 1; simp⟩
 rw [VC_yes hv (by show 1 ≤ 1; omega) (by show 1 ≤ 8; omega) (fun i hi => by
  have hi : i < 1 := hi
  obtain rfl : i = 0 := by omega
  exact okB_yes (by show (-1 : Int) < (t : Int); omega) (by show (t : Int) < (n : Int); omega) (by show vn (1, 1) = true; decide) (by show (0 : Int) < 1; omega))]
 refine decide_eq_true ?_
 show (0 : Rat) + nq (1, 1) = 1
 decide +kernel
theorem rg1_vm {o : Nat → Int} {n : Nat} {r : Int} (h1 : 1 ≤ n) (h2 : n ≤ 40) (hr : -100 ≤ r ∧ r ≤ 100) (ho : ∀ s, 0 ≤ o s ∧ o s ≤ 1) : VMo (tab n (rg1 o n r)) = true := by
 refine VMo_yes (by rw [cW]; exact h1) (by rw [cW]; exact h2) (List.all_eq_true.2 fun x hx => ?_)
 obtain ⟨s, hs, rfl⟩ := mH.1 hx
 rw [cW]
 refine VS_yes (ho s).1 (ho s).2 (by show (0 : Int) ≤ 0; omega) (by show (0 : Int) ≤ 63; omega) (by show 1 ≤ 2; omega) (by show 2 ≤ 8; omega) (List.all_eq_true.2 fun c hc => ?_)
 simp only [rg1, List.mem_cons, List.not_mem_nil, or_false] at hc
 rcases hc with rfl | rfl
 ·exact oD (Nat.mod_lt _ om) ⟨om, om⟩
 ·exact oD hs ⟨om, om⟩
theorem rg2_vm {n : Nat} {r : Int} (h1 : 1 ≤ n) (h2 : n ≤ 40) (hr : -100 ≤ r ∧ r ≤ 100) : VMo (tab n (rg2 n r)) = true := by
 refine VMo_yes (by rw [cW]; exact h1) (by rw [cW]; exact h2) (List.all_eq_true.2 fun x hx => ?_)
 obtain ⟨s, hs, rfl⟩ := mH.1 hx
 rw [cW]
 refine VS_yes (by show (0 : Int) ≤ 0; omega) (by show (0 : Int) ≤ 1; omega) (by show (0 : Int) ≤ 0; omega) (by show (0 : Int) ≤ 63; omega) (by show 1 ≤ 3; omega) (by show 3 ≤ 8; omega) (List.all_eq_true.2 fun c hc => ?_)
 simp only [rg2, List.mem_cons, List.not_mem_nil, or_false] at hc
 rcases hc with rfl | rfl | rfl
 ·exact oD hs ⟨om, om⟩
 ·exact oD (Nat.mod_lt _ om) ⟨om, om⟩
 ·exact oD hs ⟨om, om⟩
theorem nq11 : nq (1, 1) = 1 := by decide +kernel
theorem oneC_yl {a : Int} {t : Nat} {d : Rat} {v : Nat → Rat} : yl d (oneC a t) v = (a : Rat) + d * v t := by
 have e1 : nq (oneC a t).1 = (a : Rat) := by
  show Rat.divInt a 1 = _
  rw [Rat.divInt_eq_div]; grind
 have e2 : mn (oneC a t) v = v t := by
  show (0 : Rat) + nq (1, 1) * v ((t : Int)).toNat = v t
  rw [nq11, Int.toNat_natCast]; grind
 unfold yl
 rw [e1, e2]
theorem fn_rep {n i : Nat} {v : Rat} (h : i < n) : fn_ (List.replicate n v) i = v := by
 unfold fn_
 rw [List.getD_eq_getElem?_getD, List.getElem?_replicate, if_pos h]; rfl
section
variable {n : Nat} {r : Int} {f : NM} (hd : 0 < nq f ∧ nq f < 1)
include hd
theorem rg_yl {t : Nat} (ht : t < n) : yl (nq f) (oneC r t) (fn_ (List.replicate n (rgV r f))) = rgV r f := by
 rw [oneC_yl, fn_rep ht]
 unfold rgV
 have h1 : 1 - nq f ≠ 0 := by intro h; have := hd.2; grind
 grind
theorem rg_yl' {t : Nat} (ht : t < n) : yl (nq f) (oneC (r - 1) t) (fn_ (List.replicate n (rgV r f))) = rgV r f - 1 := by
 have h1 := rg_yl (r := r) hd ht
 rw [oneC_yl] at h1 ⊢
 rw [Rat.intCast_sub] at *
 grind
theorem rg1_y {o : Nat → Int} {i k : Nat} (hi : i < n) (hk : k < 2) : yl (nq f) (ch (tab n (rg1 o n r)) i k) (fn_ (List.replicate n (rgV r f))) = rgV r f := by
 unfold ch
 rw [iJ _ hi]
 match k, hk with
 | 0, _ => exact rg_yl hd (Nat.mod_lt _ om)
 | 1, _ => exact rg_yl hd hi
theorem rg2_y {i k : Nat} (hi : i < n) (hk : k < 3) : yl (nq f) (ch (tab n (rg2 n r)) i k) (fn_ (List.replicate n (rgV r f))) = if k = 0 then rgV r f - 1 else rgV r f := by
 unfold ch
 rw [iJ _ hi]
 match k, hk with
 | 0, _ => exact rg_yl' hd hi
 | 1, _ => exact rg_yl hd (Nat.mod_lt _ om)
 | 2, _ => exact rg_yl hd hi
theorem rg1_val {o : Nat → Int} (hD : DM (tab n (rg1 o n r)) (nq f)) : Val (tab n (rg1 o n r)) (nq f) (fn_ (List.replicate n (rgV r f))) := fun i hi => by
 rw [cW] at hi
 have hl : ((tab n (rg1 o n r)).getD i default).2.2.length = 2 := by rw [iJ _ hi]; rfl
 rw [hl]
 refine ⟨⟨0, om, ?_⟩, fun k hk => ?_⟩
 ·rw [rg1_y hd hi om, fn_rep hi]
 ·rw [rg1_y hd hi hk, fn_rep hi]; split <;> exact Rat.le_refl
theorem rg2_val (hD : DM (tab n (rg2 n r)) (nq f)) : Val (tab n (rg2 n r)) (nq f) (fn_ (List.replicate n (rgV r f))) := fun i hi => by
 rw [cW] at hi
 have hl : ((tab n (rg2 n r)).getD i default).2.2.length = 3 := by rw [iJ _ hi]; rfl
 have ho : ((tab n (rg2 n r)).getD i default).1.1 = 0 := by rw [iJ _ hi]; rfl
 rw [hl, ho]
 refine ⟨⟨1, om, ?_⟩, fun k hk => ?_⟩
 ·rw [rg2_y hd hi om, if_neg om, fn_rep hi]
 ·rw [if_neg om, rg2_y hd hi hk, fn_rep hi]
  split
  ·grind
  ·exact Rat.le_refl
theorem rg1_vals {o : Nat → Int} (hD : DM (tab n (rg1 o n r)) (nq f)) : vals (tab n (rg1 o n r)) (nq f) = List.replicate n (rgV r f) := oQ hD (by rw [List.length_replicate, cW]) (rg1_val hd hD)
theorem rg2_vals (hD : DM (tab n (rg2 n r)) (nq f)) : vals (tab n (rg2 n r)) (nq f) = List.replicate n (rgV r f) := oQ hD (by rw [List.length_replicate, cW]) (rg2_val hd hD)
theorem rg1_bst {o : Nat → Int} : bst (tab n (rg1 o n r)) (nq f) (List.replicate n (rgV r f)) = List.replicate n 0 := by
 unfold bst
 rw [cW, pN n (_ : Int)]
 refine tab_eq fun i hi => ?_
 have hy : ∀ k, k < 2 → ysF ((tab n (rg1 o n r)).getD i default) (nq f) (fn_ (List.replicate n (rgV r f))) k = rgV r f := fun k hk => rg1_y hd hi hk
 have hl : ((tab n (rg1 o n r)).getD i default).2.2.length = 2 := by rw [iJ _ hi]; rfl
 have : bsK ((tab n (rg1 o n r)).getD i default) (nq f) (fn_ (List.replicate n (rgV r f))) = 0 := by
  unfold bsK
  rw [hl, rQ (by rw [nM, hy 0 om, hy 1 om]; exact qS), nM]
 rw [this]; rfl
theorem rg2_bst : bst (tab n (rg2 n r)) (nq f) (List.replicate n (rgV r f)) = List.replicate n 1 := by
 unfold bst
 rw [cW, pN n (_ : Int)]
 refine tab_eq fun i hi => ?_
 have hy : ∀ k, k < 3 → ysF ((tab n (rg2 n r)).getD i default) (nq f) (fn_ (List.replicate n (rgV r f))) k = if k = 0 then rgV r f - 1 else rgV r f := fun k hk => rg2_y hd hi hk
 have hl : ((tab n (rg2 n r)).getD i default).2.2.length = 3 := by rw [iJ _ hi]; rfl
 have ho : ((tab n (rg2 n r)).getD i default).1.1 = 0 := by rw [iJ _ hi]; rfl
 have : bsK ((tab n (rg2 n r)).getD i default) (nq f) (fn_ (List.replicate n (rgV r f))) = 1 := by
  unfold bsK
  rw [hl, ho]
  have h2 : bkF 0 (ysF ((tab n (rg2 n r)).getD i default) (nq f) (fn_ (List.replicate n (rgV r f)))) 2 = 1 := bkF_yes (by
   rw [nM, hy 0 om, hy 1 om, if_pos rfl, if_neg om]
   unfold btr
   rw [if_neg om]; grind)
  rw [rQ (by rw [h2, hy 2 om, hy 1 om, if_neg om, if_neg om]; exact qS), h2]
 rw [this]; rfl
theorem rg1_gap {o : Nat → Int} (hD : DM (tab n (rg1 o n r)) (nq f)) : gapF (tab n (rg1 o n r)) (nq f) (fn_ (List.replicate n (rgV r f))) n = 0 := by
 have hv := (qY hD).2 (rg1_val hd hD)
 unfold isV at hv
 have h1 : ∀ i, i < n → bsV ((tab n (rg1 o n r)).getD i default) (nq f) (fn_ (List.replicate n (rgV r f))) = fn_ (List.replicate n (rgV r f)) i := fun i hi => of_decide_eq_true (List.all_eq_true.1 hv i (List.mem_range.2 (by rw [cW]; exact hi)))
 have h2 : ∀ m, m ≤ n → gapF (tab n (rg1 o n r)) (nq f) (fn_ (List.replicate n (rgV r f))) m = 0 := fun m => by
  induction m with
  | zero => intro _; rfl
  | succ m ih =>
   intro hm
   unfold gapF
   rw [ih om, h1 m om, Rat.sub_self]
   have : absR 0 = 0 := by unfold absR; rw [if_neg (by decide)]
   rw [this, ite_self]
 exact h2 n (Nat.le_refl _)
end
theorem mapM_all {α β : Type} {f : α → Option β} : ∀ {l : List α}, (∀ a, a ∈ l → (f a).isSome = true) → (l.mapM f).isSome = true
 | [], _ => rfl
 | a :: l, h => by
  have h1 := h a (by simp)
  have h2 := mapM_all (l := l) fun b hb => h b (by simp [hb])
  rw [List.mapM_cons]
  cases e1 : f a with
  | none => rw [e1] at h1; cases h1
  | some b =>
   cases e2 : l.mapM f with
   | none => rw [e2] at h2; cases h2
   | some bs => rfl
theorem mapM_rep {α β : Type} {f : α → Option β} {a : α} {b : β} (h : f a = some b) : ∀ n, (List.replicate n a).mapM f = some (List.replicate n b)
 | 0 => rfl
 | n + 1 => by rw [List.replicate_succ, List.mapM_cons, h, mapM_rep h n]; rfl
theorem rgV_out {r : Int} {f : NM} (hr : -100 ≤ r ∧ r ≤ 100) (h0 : 0 < f.1) (h1 : f.1 < f.2) (h2 : f.2 ≤ 12) : ∃ g, outN (rgV r f) = some g ∧ VN g ∧ nq g = rgV r f := by
 obtain ⟨a, b⟩ := f
 have hb : (0 : Int) < b - a := by show (0 : Int) < (a, b).2 - (a, b).1; omega
 have h0 : 0 < a := h0
 have h1 : a < b := h1
 have h2 : b ≤ 12 := h2
 have e : rgV r (a, b) = Rat.divInt (r * b) (b - a) := by
  unfold rgV nq
  rw [Rat.divInt_eq_div, Rat.divInt_eq_div, Rat.intCast_mul, Rat.intCast_sub]
  have k1 : (b : Rat) ≠ 0 := fun h => absurd (show b = 0 by exact_mod_cast h) om
  have k2 : (b : Rat) - (a : Rat) ≠ 0 := fun h => absurd (show b - a = 0 by rw [← Rat.intCast_sub] at h; exact_mod_cast h) om
  have k3 : 1 - (a : Rat) / (b : Rat) ≠ 0 := fun h => k2 (by have h5 : (b : Rat) * (1 - (a : Rat) / (b : Rat)) = 0 := (by rw [h, Rat.mul_zero]); grind)
  grind
 generalize hg : Int.gcd (r * b) (b - a) = g at *
 have hg0 : (0 : Int) < (g : Int) := by
  have : 0 < Int.gcd (r * b) (b - a) := Int.gcd_pos_of_ne_zero_right _ om
  omega
 obtain ⟨x, hx⟩ : ∃ x, r * b = (g : Int) * x := by have := Int.gcd_dvd_left (r * b) (b - a); rw [hg] at this; exact this
 obtain ⟨y, hy⟩ : ∃ y, b - a = (g : Int) * y := by have := Int.gcd_dvd_right (r * b) (b - a); rw [hg] at this; exact this
 have hxy : Int.gcd x y = 1 := by
  have h3 : Int.gcd ((g : Int) * x) ((g : Int) * y) = g := by rw [← hx, ← hy]; exact hg
  rw [Int.gcd_mul_left, Int.natAbs_natCast] at h3
  have h4 : g * Int.gcd x y = g * 1 := by omega
  exact Nat.eq_of_mul_eq_mul_left om h4
 have hy0 : 0 < y := by
  rcases Int.lt_trichotomy y 0 with h | h | h
  ·have := Int.mul_neg_of_pos_of_neg hg0 h; omega
  ·rw [h, Int.mul_zero] at hy; omega
  ·exact h
 have hyb : y ≤ 12 := by have := Int.mul_le_mul_of_nonneg_right (show (1 : Int) ≤ (g : Int) by omega) (Int.le_of_lt hy0); omega
 have hrb : -1200 ≤ r * b ∧ r * b ≤ 1200 := by
  have k1 := Int.mul_le_mul_of_nonneg_right hr.1 (show (0 : Int) ≤ b by omega)
  have k2 := Int.mul_le_mul_of_nonneg_right hr.2 (show (0 : Int) ≤ b by omega)
  omega
 have hxb : -1200 ≤ x ∧ x ≤ 1200 := by
  have hn : x.natAbs ≤ (r * b).natAbs := by
   rw [hx, Int.natAbs_mul]
   exact Nat.le_mul_of_pos_left _ om
  omega
 have hV : VN (x, y) := ⟨by show (1 : Int) ≤ y; omega, by show y ≤ _; omega, by show x ≤ _; omega, by show _ ≤ x; omega, hxy⟩
 have hq : nq (x, y) = rgV r (a, b) := by
  rw [e, hx, hy]
  unfold nq
  exact (Rat.divInt_mul_left om).symm
 exact ⟨(x, y), by rw [← hq]; exact outN_nq hV, hV, hq⟩
theorem rg_e0 {ss : List ST} {f : NM} (hV : VMo ss = true) (hf : VN f) (h0 : 0 < f.1) (h1 : f.1 < f.2) : eD ss f [] = 0 := by
 unfold eD
 rw [if_pos ⟨hV, hf, rfl⟩, if_pos ⟨h0, h1⟩]
theorem rep_all {n : Nat} {g : NM} (h : VN g) : (List.replicate n g).all vn = true := List.all_eq_true.2 fun a ha => by rw [(List.mem_replicate.1 ha).2]; exact decide_eq_true h
theorem rg1_ydM {o : Nat → Int} {n : Nat} {r : Int} {f g : NM} (hd : 0 < nq f ∧ nq f < 1) (hg : outN (rgV r f) = some g) (hq : nq g = rgV r f) : (ydM (tab n (rg1 o n r)) f (List.replicate n g)).isSome = true := by
 unfold ydM yds
 rw [List.map_replicate, hq, cW]
 refine mapM_all fun row hrow => ?_
 obtain ⟨i, hi, rfl⟩ := mH.1 hrow
 refine mapM_all fun x hx => ?_
 obtain ⟨k, hk, rfl⟩ := mH.1 hx
 have hl : ((tab n (rg1 o n r)).getD i default).2.2.length = 2 := by rw [iJ _ hi]; rfl
 rw [hl] at hk
 rw [show ysF ((tab n (rg1 o n r)).getD i default) (nq f) (fn_ (List.replicate n (rgV r f))) k = rgV r f from rg1_y hd hi hk, hg]; rfl
theorem rg_all {n : Nat} {o : Nat → Int} {r : Int} {f : NM} (h1 : 1 ≤ n) (h2 : n ≤ 40) (hr : -100 ≤ r ∧ r ≤ 100) (ho : ∀ s, 0 ≤ o s ∧ o s ≤ 1) (hf : VN f) (hf0 : 0 < f.1) (hf1 : f.1 < f.2) (hf2 : f.2 ≤ 12) :
  ∃ g, outN (rgV r f) = some g ∧ VN g ∧ dbO (tab n (rg1 o n r)) f = .tup [.sl (kd n) ((List.replicate n g).map mc), .sl 1 ((List.replicate n 0).map ic), .v (.int .i64 0)] ∧
   dbO (tab n (rg2 n r)) f = .tup [.sl (kd n) ((List.replicate n g).map mc), .sl 1 ((List.replicate n 1).map ic), .v (.int .i64 0)] ∧
   chkO (tab n (rg2 n r)) f (List.replicate n g) = .tup [.v (.bool true), .v (.int .i64 0)] ∧ gapO (tab n (rg1 o n r)) f (List.replicate n g) = .tup [lvM (0, 1), .v (.int .i64 0)] := by
 obtain ⟨g, hg, hV, hq⟩ := rgV_out hr hf0 hf1 hf2
 have hd := lE hf hf0 hf1
 have hV1 := rg1_vm h1 h2 hr ho
 have hV2 := rg2_vm h1 h2 hr
 have hD1 := iP hV1 hd.1 hd.2
 have hD2 := iP hV2 hd.1 hd.2
 have he1 := rg_e0 hV1 hf hf0 hf1
 have he2 := rg_e0 hV2 hf hf0 hf1
 refine ⟨g, hg, hV, ?_, ?_, ?_, ?_⟩
 ·unfold dbO
  rw [if_pos he1, rg1_vals hd hD1, gL (mapM_rep hg n), List.length_replicate]
  have := rg1_bst (n := n) (r := r) (o := o) hd
  unfold bst at this
  rw [this]
 ·unfold dbO
  rw [if_pos he2, rg2_vals hd hD2, gL (mapM_rep hg n), List.length_replicate]
  have := rg2_bst (n := n) (r := r) hd
  unfold bst at this
  rw [this]
 ·rw [chkO_pair, chkB_yes he2 (by rw [List.length_replicate, cW]) (rep_all hV), he2, List.map_replicate, hq, (qY hD2).2 (rg2_val hd hD2)]
 ·unfold gapO
  rw [if_pos (eD_full he1 (rep_all hV)), if_pos (by rw [List.length_replicate, cW]), if_pos (rg1_ydM hd hg hq), List.map_replicate, hq, cW, rg1_gap hd hD1]
  have : outN (0 / (1 - nq f)) = some (0, 1) := by rw [show (0 : Rat) / (1 - nq f) = 0 by rw [Rat.div_def, Rat.zero_mul]]; decide +kernel
  rw [this]; rfl
theorem oneC_ic {a : Int} {t : Nat} (ha : -1000 ≤ a ∧ a ≤ 1000) (ht : t < 1000) : IC (oneC a t) := ⟨by show I64 a; unfold I64; omega, by show I64 1; unfold I64; omega, fun b hb => by
 obtain rfl : b = ((t : Int), (1, 1)) := by simpa [oneC] using hb
 exact ⟨by show I64 (t : Int); unfold I64; omega, by show I64 1; unfold I64; omega, by show I64 1; unfold I64; omega⟩⟩
theorem rg1_is {o : Nat → Int} {n : Nat} {r : Int} (h2 : n ≤ 40) (hr : -100 ≤ r ∧ r ≤ 100) (ho : ∀ s, 0 ≤ o s ∧ o s ≤ 1) : ∀ x, x ∈ tab n (rg1 o n r) → IS x := fun x hx => by
 obtain ⟨s, hs, rfl⟩ := mH.1 hx
 have hm : (s + 1) % n < n := Nat.mod_lt _ om
 refine ⟨by have := ho s; show I64 (o s); unfold I64; omega, by show I64 0; unfold I64; omega, fun c hc => ?_⟩
 simp only [rg1, List.mem_cons, List.not_mem_nil, or_false] at hc
 rcases hc with rfl | rfl <;> exact oneC_ic ⟨om, om⟩ om
theorem rg2_is {n : Nat} {r : Int} (h2 : n ≤ 40) (hr : -100 ≤ r ∧ r ≤ 100) : ∀ x, x ∈ tab n (rg2 n r) → IS x := fun x hx => by
 obtain ⟨s, hs, rfl⟩ := mH.1 hx
 have hm : (s + 1) % n < n := Nat.mod_lt _ om
 refine ⟨by show I64 0; unfold I64; omega, by show I64 0; unfold I64; omega, fun c hc => ?_⟩
 simp only [rg2, List.mem_cons, List.not_mem_nil, or_false] at hc
 rcases hc with rfl | rfl | rfl <;> exact oneC_ic ⟨om, om⟩ om
def u8c (b : Int) : List LV := [.v (.int .u8 b)]
def ow (l : List Int) (s : Nat) : Int := if s < l.length then (l.getD s default).tmod 2 else 0
theorem ow_in {l : List Int} (hl : ∀ b, b ∈ l → 0 ≤ b ∧ b ≤ 255) (s : Nat) : 0 ≤ ow l s ∧ ow l s ≤ 1 := by
 unfold ow
 split
 ·rename_i h
  have := hl _ (bJ (us := l) h)
  rw [Int.tmod_eq_emod_of_nonneg this.1]
  omega
 ·omega
theorem wrap_u8 {b : Int} (h : 0 ≤ b ∧ b ≤ 255) : IntKind.i64.wrap b = b := by
 have h1 : -9223372036854775808 ≤ b ∧ b ≤ 9223372036854775807 := by omega
 unfold IntKind.wrap
 simp [IntKind.bits, IntKind.signed]
 omega
theorem rep_get {α : Type} [Inhabited α] {n i : Nat} {a : α} (h : i < n) : (List.replicate n a).getD i default = a := by
 rw [List.getD_eq_getElem?_getD, List.getElem?_replicate, if_pos h]; rfl
end Go.Ab
set_option maxRecDepth 100000
namespace Go.Proofs.YtahljdjhhapngaaGreat
open Go.Ab Go.RowKit
def ti1 : TI := ⟨1, 8, [.nilFunc], .func⟩
def ti2 : TI := ⟨1, 8, [.int .i64 0], (.int .i64)⟩
def ti3 : TI := ⟨1, 8, [.int .i64 0], (.int .i64)⟩
def ti4 : TI := ⟨1, 1, [.bool false], .bool⟩
def ti5 : TI := ⟨1, 1, [.int .u8 0], (.int .u8)⟩
def ti6 : TI := ⟨1, 1, [.int .u8 0], (.int .u8)⟩
def ti7 : TI := ⟨4, 24, [.int .i64 0, .int .i64 0, .bool false, .int .u8 0], (.st [(0, 2), (1, 3), (2, 4), (3, 6)])⟩
def ti8 : TI := ⟨4, 24, [.int .i64 0, .int .i64 0, .bool false, .int .u8 0], (.st [(0, 2), (1, 3), (2, 4), (3, 6)])⟩
def ti9 : TI := ⟨1, 16, [.string ⟨#[]⟩], .str⟩
def ti10 : TI := ⟨1, 16, [.string ⟨#[]⟩], .str⟩
def ti11 : TI := ⟨1, 16, [.string ⟨#[]⟩], .str⟩
def ti12 : TI := ⟨1, 8, [.int .u64 0], (.int .u64)⟩
def ti13 : TI := ⟨2, 24, [.string ⟨#[]⟩, .int .u64 0], (.st [(0, 9), (1, 12)])⟩
def ti14 : TI := ⟨2, 24, [.string ⟨#[]⟩, .int .u64 0], (.st [(0, 9), (1, 12)])⟩
def ti21 : TI := ⟨1, 4, [.int .i32 0], (.int .i32)⟩
def ti22 : TI := ⟨1, 24, [.slice none 0 0], (.sl 54)⟩
def ti23 : TI := ⟨1, 24, [.slice none 0 0], (.st [(0, 22)])⟩
def ti24 : TI := ⟨1, 24, [.slice none 0 0], (.st [(0, 22)])⟩
def ti25 : TI := ⟨2, 16, [.int .i64 0, .int .i64 0], (.st [(0, 3), (1, 3)])⟩
def ti26 : TI := ⟨2, 16, [.int .i64 0, .int .i64 0], (.st [(0, 3), (1, 3)])⟩
def ti27 : TI := ⟨1, 8, [.nilFunc], .func⟩
def ti28 : TI := ⟨1, 8, [.nilFunc], .func⟩
def ti29 : TI := ⟨1, 8, [.nilFunc], .func⟩
def ti30 : TI := ⟨1, 8, [.int .i64 0], (.int .i64)⟩
def ti31 : TI := ⟨1, 8, [.nilFunc], .func⟩
def ti32 : TI := ⟨1, 24, [.slice none 0 0], (.sl 26)⟩
def ti33 : TI := ⟨1, 24, [.slice none 0 0], (.sl 3)⟩
def ti34 : TI := ⟨1, 24, [.slice none 0 0], (.sl 39)⟩
def ti35 : TI := ⟨1, 8, [.nilFunc], .func⟩
def ti36 : TI := ⟨3, 40, [.int .i64 0, .bool false, .slice none 0 0], (.st [(0, 3), (1, 4), (2, 33)])⟩
def ti37 : TI := ⟨3, 40, [.int .i64 0, .bool false, .slice none 0 0], (.st [(0, 3), (1, 4), (2, 33)])⟩
def ti38 : TI := ⟨6, 80, [.int .i64 0, .bool false, .slice none 0 0, .int .i64 0, .bool false, .slice none 0 0], (.st [(0, 37), (3, 37)])⟩
def ti39 : TI := ⟨6, 80, [.int .i64 0, .bool false, .slice none 0 0, .int .i64 0, .bool false, .slice none 0 0], (.st [(0, 37), (3, 37)])⟩
def ti40 : TI := ⟨1, 8, [.nilFunc], .func⟩
def ti42 : TI := ⟨1, 8, [.nilFunc], .func⟩
def ti43 : TI := ⟨1, 8, [.nilFunc], .func⟩
def ti45 : TI := ⟨1, 8, [.nilFunc], .func⟩
def ti46 : TI := ⟨1, 8, [.nilFunc], .func⟩
def ti47 : TI := ⟨1, 8, [.nilFunc], .func⟩
def ti48 : TI := ⟨1, 8, [.nilFunc], .func⟩
def ti49 : TI := ⟨1, 8, [.nilFunc], .func⟩
def ti50 : TI := ⟨1, 8, [.nilFunc], .func⟩
def ti51 : TI := ⟨1, 8, [.nilFunc], .func⟩
def ti52 : TI := ⟨1, 24, [.slice none 0 0], (.sl 57)⟩
def ti53 : TI := ⟨3, 40, [.int .i64 0, .int .i64 0, .slice none 0 0], (.st [(0, 3), (1, 3), (2, 52)])⟩
def ti54 : TI := ⟨3, 40, [.int .i64 0, .int .i64 0, .slice none 0 0], (.st [(0, 3), (1, 3), (2, 52)])⟩
def ti55 : TI := ⟨1, 24, [.slice none 0 0], (.sl 84)⟩
def ti56 : TI := ⟨3, 40, [.int .i64 0, .int .i64 0, .slice none 0 0], (.st [(0, 26), (2, 55)])⟩
def ti57 : TI := ⟨3, 40, [.int .i64 0, .int .i64 0, .slice none 0 0], (.st [(0, 26), (2, 55)])⟩
def ti58 : TI := ⟨1, 8, [.nilFunc], .func⟩
def ti60 : TI := ⟨1, 8, [.nilFunc], .func⟩
def ti61 : TI := ⟨1, 8, [.nilFunc], .func⟩
def ti62 : TI := ⟨1, 8, [.nilFunc], .func⟩
def ti63 : TI := ⟨1, 8, [.nilFunc], .func⟩
def ti64 : TI := ⟨1, 8, [.nilFunc], .func⟩
def ti65 : TI := ⟨1, 8, [.nilFunc], .func⟩
def ti66 : TI := ⟨1, 8, [.nilFunc], .func⟩
def ti67 : TI := ⟨1, 8, [.nilFunc], .func⟩
def ti68 : TI := ⟨1, 8, [.nilFunc], .func⟩
def ti69 : TI := ⟨1, 8, [.nilFunc], .func⟩
def ti70 : TI := ⟨1, 8, [.nilFunc], .func⟩
def ti72 : TI := ⟨1, 8, [.nilFunc], .func⟩
def ti73 : TI := ⟨1, 8, [.nilFunc], .func⟩
def ti74 : TI := ⟨1, 24, [.slice none 0 0], (.sl 32)⟩
def ti76 : TI := ⟨1, 8, [.nilFunc], .func⟩
def ti78 : TI := ⟨1, 8, [.nilFunc], .func⟩
def ti79 : TI := ⟨1, 8, [.nilFunc], .func⟩
def ti80 : TI := ⟨1, 8, [.nilFunc], .func⟩
def ti81 : TI := ⟨1, 24, [.slice none 0 0], (.sl 5)⟩
def ti82 : TI := ⟨1, 8, [.nilFunc], .func⟩
def ti83 : TI := ⟨3, 24, [.int .i64 0, .int .i64 0, .int .i64 0], (.st [(0, 3), (1, 26)])⟩
def ti84 : TI := ⟨3, 24, [.int .i64 0, .int .i64 0, .int .i64 0], (.st [(0, 3), (1, 26)])⟩
def ti85 : TI := ⟨1, 8, [.nilFunc], .func⟩
def ti86 : TI := ⟨1, 8, [.nilFunc], .func⟩
def ti87 : TI := ⟨1, 8, [.nilFunc], .func⟩
def ti88 : TI := ⟨1, 8, [.nilFunc], .func⟩
def ti89 : TI := ⟨1, 8, [.nilFunc], .func⟩
def ti90 : TI := ⟨1, 8, [.nilFunc], .func⟩
def ti92 : TI := ⟨1, 8, [.nilFunc], .func⟩
def ti94 : TI := ⟨1, 8, [.nilFunc], .func⟩
def ti96 : TI := ⟨1, 8, [.nilFunc], .func⟩
def ti97 : TI := ⟨1, 8, [.nilFunc], .func⟩
def ti98 : TI := ⟨1, 24, [.slice none 0 0], (.sl 160)⟩
def ti99 : TI := ⟨2, 32, [.int .i64 0, .slice none 0 0], (.st [(0, 3), (1, 98)])⟩
def ti100 : TI := ⟨2, 32, [.int .i64 0, .slice none 0 0], (.st [(0, 3), (1, 98)])⟩
def ti101 : TI := ⟨4, 64, [.int .i64 0, .slice none 0 0, .int .i64 0, .slice none 0 0], (.st [(0, 100), (2, 100)])⟩
def ti102 : TI := ⟨4, 64, [.int .i64 0, .slice none 0 0, .int .i64 0, .slice none 0 0], (.st [(0, 100), (2, 100)])⟩
def ti103 : TI := ⟨1, 8, [.nilFunc], .func⟩
def ti104 : TI := ⟨1, 24, [.slice none 0 0], (.sl 102)⟩
def ti105 : TI := ⟨1, 8, [.nilFunc], .func⟩
def ti106 : TI := ⟨1, 8, [.nilFunc], .func⟩
def ti108 : TI := ⟨1, 8, [.nilFunc], .func⟩
def ti109 : TI := ⟨1, 8, [.nilFunc], .func⟩
def ti110 : TI := ⟨1, 8, [.nilFunc], .func⟩
def ti111 : TI := ⟨1, 8, [.nilFunc], .func⟩
def ti112 : TI := ⟨1, 8, [.nilFunc], .func⟩
def ti113 : TI := ⟨1, 24, [.slice none 0 0], (.sl 34)⟩
def ti114 : TI := ⟨1, 8, [.nilFunc], .func⟩
def ti116 : TI := ⟨1, 8, [.nilFunc], .func⟩
def ti117 : TI := ⟨1, 8, [.nilFunc], .func⟩
def ti118 : TI := ⟨1, 8, [.nilFunc], .func⟩
def ti119 : TI := ⟨1, 8, [.nilFunc], .func⟩
def ti120 : TI := ⟨1, 8, [.nilFunc], .func⟩
def ti121 : TI := ⟨1, 8, [.nilFunc], .func⟩
def ti122 : TI := ⟨1, 8, [.nilFunc], .func⟩
def ti123 : TI := ⟨1, 8, [.nilFunc], .func⟩
def ti124 : TI := ⟨1, 24, [.slice none 0 0], (.sl 104)⟩
def ti125 : TI := ⟨1, 8, [.nilFunc], .func⟩
def ti126 : TI := ⟨1, 8, [.nilFunc], .func⟩
def ti127 : TI := ⟨1, 8, [.nilFunc], .func⟩
def ti128 : TI := ⟨1, 8, [.nilFunc], .func⟩
def ti129 : TI := ⟨1, 8, [.nilFunc], .func⟩
def ti130 : TI := ⟨1, 8, [.nilFunc], .func⟩
def ti131 : TI := ⟨1, 8, [.nilFunc], .func⟩
def ti132 : TI := ⟨1, 8, [.nilFunc], .func⟩
def ti133 : TI := ⟨1, 8, [.nilFunc], .func⟩
def ti134 : TI := ⟨1, 8, [.nilFunc], .func⟩
def ti135 : TI := ⟨1, 8, [.nilFunc], .func⟩
def ti136 : TI := ⟨1, 8, [.nilFunc], .func⟩
def ti137 : TI := ⟨1, 8, [.nilFunc], .func⟩
def ti138 : TI := ⟨1, 8, [.nilFunc], .func⟩
def ti140 : TI := ⟨1, 8, [.nilFunc], .func⟩
def ti141 : TI := ⟨1, 8, [.nilFunc], .func⟩
def ti142 : TI := ⟨1, 8, [.nilFunc], .func⟩
def ti143 : TI := ⟨1, 8, [.nilFunc], .func⟩
def ti144 : TI := ⟨1, 8, [.nilFunc], .func⟩
def ti146 : TI := ⟨1, 8, [.nilFunc], .func⟩
def ti148 : TI := ⟨1, 8, [.nilFunc], .func⟩
def ti149 : TI := ⟨1, 8, [.nilFunc], .func⟩
def ti150 : TI := ⟨1, 8, [.nilFunc], .func⟩
def ti151 : TI := ⟨1, 8, [.nilFunc], .func⟩
def ti152 : TI := ⟨1, 8, [.nilFunc], .func⟩
def ti153 : TI := ⟨1, 8, [.nilFunc], .func⟩
def ti154 : TI := ⟨1, 8, [.nilFunc], .func⟩
def ti155 : TI := ⟨1, 8, [.nilFunc], .func⟩
def ti156 : TI := ⟨1, 8, [.nilFunc], .func⟩
def ti158 : TI := ⟨1, 8, [.nilFunc], .func⟩
def ti159 : TI := ⟨1, 8, [.int .u64 0], (.int .u64)⟩
def ti160 : TI := ⟨1, 4, [.int .u32 0], (.int .u32)⟩
def ti161 : TI := ⟨1, 8, [.int .u64 0], (.int .u64)⟩
def ti163 : TI := ⟨1, 8, [.nilFunc], .func⟩
def ti164 : TI := ⟨1, 8, [.nilFunc], .func⟩
def ti165 : TI := ⟨1, 8, [.nilFunc], .func⟩
def ti166 : TI := ⟨1, 8, [.nilFunc], .func⟩
def ti168 : TI := ⟨1, 8, [.nilFunc], .func⟩
def ti170 : TI := ⟨1, 8, [.nilFunc], .func⟩
def ti172 : TI := ⟨1, 8, [.nilFunc], .func⟩
def ti173 : TI := ⟨1, 8, [.nilFunc], .func⟩
def ti174 : TI := ⟨1, 8, [.nilFunc], .func⟩
def ti176 : TI := ⟨1, 8, [.nilFunc], .func⟩
def ti178 : TI := ⟨1, 8, [.nilFunc], .func⟩
def ti180 : TI := ⟨1, 8, [.nilFunc], .func⟩
def ti181 : TI := ⟨1, 8, [.nilFunc], .func⟩
def ti182 : TI := ⟨1, 8, [.nilFunc], .func⟩
def ti183 : TI := ⟨1, 8, [.nilFunc], .func⟩
def ti184 : TI := ⟨1, 8, [.nilFunc], .func⟩
def ti185 : TI := ⟨1, 8, [.nilFunc], .func⟩
def ti186 : TI := ⟨1, 8, [.nilFunc], .func⟩
def ti187 : TI := ⟨1, 8, [.nilFunc], .func⟩
def ti189 : TI := ⟨1, 8, [.nilFunc], .func⟩
def ti190 : TI := ⟨1, 8, [.nilFunc], .func⟩
def ti191 : TI := ⟨1, 8, [.nilFunc], .func⟩
def ti195 : TI := ⟨1, 8, [.nilFunc], .func⟩
def ti201 : TI := ⟨1, 1, [.int .u8 0], (.int .u8)⟩
def ti202 : TI := ⟨1, 1, [.int .u8 0], (.int .u8)⟩
def ti203 : TI := ⟨1, 8, [.nilFunc], .func⟩
def ti205 : TI := ⟨1, 4, [.int .i32 0], (.int .i32)⟩
def ti206 : TI := ⟨1, 4, [.int .i32 0], (.int .i32)⟩
def ti209 : TI := ⟨1, 16, [.string ⟨#[]⟩], (.st [(0, 9)])⟩
def ti210 : TI := ⟨1, 16, [.string ⟨#[]⟩], (.st [(0, 9)])⟩
theorem tok1 : TypeOk Tryz.prog 1 ti1 := aE (z := (.nilFunc)) (by kernel_rfl) rfl Tryz.underlying1 ⟨_, _, _, rfl⟩ rfl (by decide)
theorem tok2 : TypeOk Tryz.prog 2 ti2 := aE (z := (.int .i64 0)) (by kernel_rfl) rfl Tryz.underlying2 rfl rfl (by decide)
theorem tok3 : TypeOk Tryz.prog 3 ti3 := aE (z := (.int .i64 0)) (by kernel_rfl) rfl Tryz.underlying3 rfl rfl (by decide)
theorem tok4 : TypeOk Tryz.prog 4 ti4 := aE (z := (.bool false)) (by kernel_rfl) rfl Tryz.underlying4 rfl rfl (by decide)
theorem tok5 : TypeOk Tryz.prog 5 ti5 := aE (z := (.int .u8 0)) (by kernel_rfl) rfl Tryz.underlying5 rfl rfl (by decide)
theorem tok6 : TypeOk Tryz.prog 6 ti6 := aE (z := (.int .u8 0)) (by kernel_rfl) rfl Tryz.underlying6 rfl rfl (by decide)
theorem tok7 : TypeOk Tryz.prog 7 ti7 := aE (z := (.agg #[.int .i64 0, .int .i64 0, .bool false, .int .u8 0])) (by kernel_rfl) rfl Tryz.underlying7 ⟨_, rfl, rfl⟩ rfl (by decide)
theorem tok8 : TypeOk Tryz.prog 8 ti8 := aE (z := (.agg #[.int .i64 0, .int .i64 0, .bool false, .int .u8 0])) (by kernel_rfl) rfl Tryz.underlying8 ⟨_, rfl, rfl⟩ rfl (by decide)
theorem tok9 : TypeOk Tryz.prog 9 ti9 := aE (z := (.string ⟨#[]⟩)) (by kernel_rfl) rfl Tryz.underlying9 rfl rfl (by decide)
theorem tok10 : TypeOk Tryz.prog 10 ti10 := aE (z := (.string ⟨#[]⟩)) (by kernel_rfl) rfl Tryz.underlying10 rfl rfl (by decide)
theorem tok11 : TypeOk Tryz.prog 11 ti11 := aE (z := (.string ⟨#[]⟩)) (by kernel_rfl) rfl Tryz.underlying11 rfl rfl (by decide)
theorem tok12 : TypeOk Tryz.prog 12 ti12 := aE (z := (.int .u64 0)) (by kernel_rfl) rfl Tryz.underlying12 rfl rfl (by decide)
theorem tok13 : TypeOk Tryz.prog 13 ti13 := aE (z := (.agg #[.string ⟨#[]⟩, .int .u64 0])) (by kernel_rfl) rfl Tryz.underlying13 ⟨_, rfl, rfl⟩ rfl (by decide)
theorem tok14 : TypeOk Tryz.prog 14 ti14 := aE (z := (.agg #[.string ⟨#[]⟩, .int .u64 0])) (by kernel_rfl) rfl Tryz.underlying14 ⟨_, rfl, rfl⟩ rfl (by decide)
theorem tok21 : TypeOk Tryz.prog 21 ti21 := aE (z := (.int .i32 0)) (by kernel_rfl) rfl Tryz.underlying21 rfl rfl (by decide)
theorem tok22 : TypeOk Tryz.prog 22 ti22 := aE (z := (.slice none 0 0)) (by kernel_rfl) rfl Tryz.underlying22 rfl rfl (by decide)
theorem tok23 : TypeOk Tryz.prog 23 ti23 := aE (z := (.agg #[.slice none 0 0])) (by kernel_rfl) rfl Tryz.underlying23 ⟨_, rfl, rfl⟩ rfl (by decide)
theorem tok24 : TypeOk Tryz.prog 24 ti24 := aE (z := (.agg #[.slice none 0 0])) (by kernel_rfl) rfl Tryz.underlying24 ⟨_, rfl, rfl⟩ rfl (by decide)
theorem tok25 : TypeOk Tryz.prog 25 ti25 := aE (z := (.agg #[.int .i64 0, .int .i64 0])) (by kernel_rfl) rfl Tryz.underlying25 ⟨_, rfl, rfl⟩ rfl (by decide)
theorem tok26 : TypeOk Tryz.prog 26 ti26 := aE (z := (.agg #[.int .i64 0, .int .i64 0])) (by kernel_rfl) rfl Tryz.underlying26 ⟨_, rfl, rfl⟩ rfl (by decide)
theorem tok27 : TypeOk Tryz.prog 27 ti27 := aE (z := (.nilFunc)) (by kernel_rfl) rfl Tryz.underlying27 ⟨_, _, _, rfl⟩ rfl (by decide)
theorem tok28 : TypeOk Tryz.prog 28 ti28 := aE (z := (.nilFunc)) (by kernel_rfl) rfl Tryz.underlying28 ⟨_, _, _, rfl⟩ rfl (by decide)
theorem tok29 : TypeOk Tryz.prog 29 ti29 := aE (z := (.nilFunc)) (by kernel_rfl) rfl Tryz.underlying29 ⟨_, _, _, rfl⟩ rfl (by decide)
theorem tok30 : TypeOk Tryz.prog 30 ti30 := aE (z := (.int .i64 0)) (by kernel_rfl) rfl Tryz.underlying30 rfl rfl (by decide)
theorem tok31 : TypeOk Tryz.prog 31 ti31 := aE (z := (.nilFunc)) (by kernel_rfl) rfl Tryz.underlying31 ⟨_, _, _, rfl⟩ rfl (by decide)
theorem tok32 : TypeOk Tryz.prog 32 ti32 := aE (z := (.slice none 0 0)) (by kernel_rfl) rfl Tryz.underlying32 rfl rfl (by decide)
theorem tok33 : TypeOk Tryz.prog 33 ti33 := aE (z := (.slice none 0 0)) (by kernel_rfl) rfl Tryz.underlying33 rfl rfl (by decide)
theorem tok34 : TypeOk Tryz.prog 34 ti34 := aE (z := (.slice none 0 0)) (by kernel_rfl) rfl Tryz.underlying34 rfl rfl (by decide)
theorem tok35 : TypeOk Tryz.prog 35 ti35 := aE (z := (.nilFunc)) (by kernel_rfl) rfl Tryz.underlying35 ⟨_, _, _, rfl⟩ rfl (by decide)
theorem tok36 : TypeOk Tryz.prog 36 ti36 := aE (z := (.agg #[.int .i64 0, .bool false, .slice none 0 0])) (by kernel_rfl) rfl Tryz.underlying36 ⟨_, rfl, rfl⟩ rfl (by decide)
theorem tok37 : TypeOk Tryz.prog 37 ti37 := aE (z := (.agg #[.int .i64 0, .bool false, .slice none 0 0])) (by kernel_rfl) rfl Tryz.underlying37 ⟨_, rfl, rfl⟩ rfl (by decide)
theorem tok38 : TypeOk Tryz.prog 38 ti38 := aE (z := (.agg #[.int .i64 0, .bool false, .slice none 0 0, .int .i64 0, .bool false, .slice none 0 0])) (by kernel_rfl) rfl Tryz.underlying38 ⟨_, rfl, rfl⟩ rfl (by decide)
theorem tok39 : TypeOk Tryz.prog 39 ti39 := aE (z := (.agg #[.int .i64 0, .bool false, .slice none 0 0, .int .i64 0, .bool false, .slice none 0 0])) (by kernel_rfl) rfl Tryz.underlying39 ⟨_, rfl, rfl⟩ rfl (by decide)
theorem tok40 : TypeOk Tryz.prog 40 ti40 := aE (z := (.nilFunc)) (by kernel_rfl) rfl Tryz.underlying40 ⟨_, _, _, rfl⟩ rfl (by decide)
theorem tok42 : TypeOk Tryz.prog 42 ti42 := aE (z := (.nilFunc)) (by kernel_rfl) rfl Tryz.underlying42 ⟨_, _, _, rfl⟩ rfl (by decide)
theorem tok43 : TypeOk Tryz.prog 43 ti43 := aE (z := (.nilFunc)) (by kernel_rfl) rfl Tryz.underlying43 ⟨_, _, _, rfl⟩ rfl (by decide)
theorem tok45 : TypeOk Tryz.prog 45 ti45 := aE (z := (.nilFunc)) (by kernel_rfl) rfl Tryz.underlying45 ⟨_, _, _, rfl⟩ rfl (by decide)
theorem tok46 : TypeOk Tryz.prog 46 ti46 := aE (z := (.nilFunc)) (by kernel_rfl) rfl Tryz.underlying46 ⟨_, _, _, rfl⟩ rfl (by decide)
theorem tok47 : TypeOk Tryz.prog 47 ti47 := aE (z := (.nilFunc)) (by kernel_rfl) rfl Tryz.underlying47 ⟨_, _, _, rfl⟩ rfl (by decide)
theorem tok48 : TypeOk Tryz.prog 48 ti48 := aE (z := (.nilFunc)) (by kernel_rfl) rfl Tryz.underlying48 ⟨_, _, _, rfl⟩ rfl (by decide)
theorem tok49 : TypeOk Tryz.prog 49 ti49 := aE (z := (.nilFunc)) (by kernel_rfl) rfl Tryz.underlying49 ⟨_, _, _, rfl⟩ rfl (by decide)
theorem tok50 : TypeOk Tryz.prog 50 ti50 := aE (z := (.nilFunc)) (by kernel_rfl) rfl Tryz.underlying50 ⟨_, _, _, rfl⟩ rfl (by decide)
theorem tok51 : TypeOk Tryz.prog 51 ti51 := aE (z := (.nilFunc)) (by kernel_rfl) rfl Tryz.underlying51 ⟨_, _, _, rfl⟩ rfl (by decide)
theorem tok52 : TypeOk Tryz.prog 52 ti52 := aE (z := (.slice none 0 0)) (by kernel_rfl) rfl Tryz.underlying52 rfl rfl (by decide)
theorem tok53 : TypeOk Tryz.prog 53 ti53 := aE (z := (.agg #[.int .i64 0, .int .i64 0, .slice none 0 0])) (by kernel_rfl) rfl Tryz.underlying53 ⟨_, rfl, rfl⟩ rfl (by decide)
theorem tok54 : TypeOk Tryz.prog 54 ti54 := aE (z := (.agg #[.int .i64 0, .int .i64 0, .slice none 0 0])) (by kernel_rfl) rfl Tryz.underlying54 ⟨_, rfl, rfl⟩ rfl (by decide)
theorem tok55 : TypeOk Tryz.prog 55 ti55 := aE (z := (.slice none 0 0)) (by kernel_rfl) rfl Tryz.underlying55 rfl rfl (by decide)
theorem tok56 : TypeOk Tryz.prog 56 ti56 := aE (z := (.agg #[.int .i64 0, .int .i64 0, .slice none 0 0])) (by kernel_rfl) rfl Tryz.underlying56 ⟨_, rfl, rfl⟩ rfl (by decide)
theorem tok57 : TypeOk Tryz.prog 57 ti57 := aE (z := (.agg #[.int .i64 0, .int .i64 0, .slice none 0 0])) (by kernel_rfl) rfl Tryz.underlying57 ⟨_, rfl, rfl⟩ rfl (by decide)
theorem tok58 : TypeOk Tryz.prog 58 ti58 := aE (z := (.nilFunc)) (by kernel_rfl) rfl Tryz.underlying58 ⟨_, _, _, rfl⟩ rfl (by decide)
theorem tok60 : TypeOk Tryz.prog 60 ti60 := aE (z := (.nilFunc)) (by kernel_rfl) rfl Tryz.underlying60 ⟨_, _, _, rfl⟩ rfl (by decide)
theorem tok61 : TypeOk Tryz.prog 61 ti61 := aE (z := (.nilFunc)) (by kernel_rfl) rfl Tryz.underlying61 ⟨_, _, _, rfl⟩ rfl (by decide)
theorem tok62 : TypeOk Tryz.prog 62 ti62 := aE (z := (.nilFunc)) (by kernel_rfl) rfl Tryz.underlying62 ⟨_, _, _, rfl⟩ rfl (by decide)
theorem tok63 : TypeOk Tryz.prog 63 ti63 := aE (z := (.nilFunc)) (by kernel_rfl) rfl Tryz.underlying63 ⟨_, _, _, rfl⟩ rfl (by decide)
theorem tok64 : TypeOk Tryz.prog 64 ti64 := aE (z := (.nilFunc)) (by kernel_rfl) rfl Tryz.underlying64 ⟨_, _, _, rfl⟩ rfl (by decide)
theorem tok65 : TypeOk Tryz.prog 65 ti65 := aE (z := (.nilFunc)) (by kernel_rfl) rfl Tryz.underlying65 ⟨_, _, _, rfl⟩ rfl (by decide)
theorem tok66 : TypeOk Tryz.prog 66 ti66 := aE (z := (.nilFunc)) (by kernel_rfl) rfl Tryz.underlying66 ⟨_, _, _, rfl⟩ rfl (by decide)
theorem tok67 : TypeOk Tryz.prog 67 ti67 := aE (z := (.nilFunc)) (by kernel_rfl) rfl Tryz.underlying67 ⟨_, _, _, rfl⟩ rfl (by decide)
theorem tok68 : TypeOk Tryz.prog 68 ti68 := aE (z := (.nilFunc)) (by kernel_rfl) rfl Tryz.underlying68 ⟨_, _, _, rfl⟩ rfl (by decide)
theorem tok69 : TypeOk Tryz.prog 69 ti69 := aE (z := (.nilFunc)) (by kernel_rfl) rfl Tryz.underlying69 ⟨_, _, _, rfl⟩ rfl (by decide)
theorem tok70 : TypeOk Tryz.prog 70 ti70 := aE (z := (.nilFunc)) (by kernel_rfl) rfl Tryz.underlying70 ⟨_, _, _, rfl⟩ rfl (by decide)
theorem tok72 : TypeOk Tryz.prog 72 ti72 := aE (z := (.nilFunc)) (by kernel_rfl) rfl Tryz.underlying72 ⟨_, _, _, rfl⟩ rfl (by decide)
theorem tok73 : TypeOk Tryz.prog 73 ti73 := aE (z := (.nilFunc)) (by kernel_rfl) rfl Tryz.underlying73 ⟨_, _, _, rfl⟩ rfl (by decide)
theorem tok74 : TypeOk Tryz.prog 74 ti74 := aE (z := (.slice none 0 0)) (by kernel_rfl) rfl Tryz.underlying74 rfl rfl (by decide)
theorem tok76 : TypeOk Tryz.prog 76 ti76 := aE (z := (.nilFunc)) (by kernel_rfl) rfl Tryz.underlying76 ⟨_, _, _, rfl⟩ rfl (by decide)
theorem tok78 : TypeOk Tryz.prog 78 ti78 := aE (z := (.nilFunc)) (by kernel_rfl) rfl Tryz.underlying78 ⟨_, _, _, rfl⟩ rfl (by decide)
theorem tok79 : TypeOk Tryz.prog 79 ti79 := aE (z := (.nilFunc)) (by kernel_rfl) rfl Tryz.underlying79 ⟨_, _, _, rfl⟩ rfl (by decide)
theorem tok80 : TypeOk Tryz.prog 80 ti80 := aE (z := (.nilFunc)) (by kernel_rfl) rfl Tryz.underlying80 ⟨_, _, _, rfl⟩ rfl (by decide)
theorem tok81 : TypeOk Tryz.prog 81 ti81 := aE (z := (.slice none 0 0)) (by kernel_rfl) rfl Tryz.underlying81 rfl rfl (by decide)
theorem tok82 : TypeOk Tryz.prog 82 ti82 := aE (z := (.nilFunc)) (by kernel_rfl) rfl Tryz.underlying82 ⟨_, _, _, rfl⟩ rfl (by decide)
theorem tok83 : TypeOk Tryz.prog 83 ti83 := aE (z := (.agg #[.int .i64 0, .int .i64 0, .int .i64 0])) (by kernel_rfl) rfl Tryz.underlying83 ⟨_, rfl, rfl⟩ rfl (by decide)
theorem tok84 : TypeOk Tryz.prog 84 ti84 := aE (z := (.agg #[.int .i64 0, .int .i64 0, .int .i64 0])) (by kernel_rfl) rfl Tryz.underlying84 ⟨_, rfl, rfl⟩ rfl (by decide)
theorem tok85 : TypeOk Tryz.prog 85 ti85 := aE (z := (.nilFunc)) (by kernel_rfl) rfl Tryz.underlying85 ⟨_, _, _, rfl⟩ rfl (by decide)
theorem tok86 : TypeOk Tryz.prog 86 ti86 := aE (z := (.nilFunc)) (by kernel_rfl) rfl Tryz.underlying86 ⟨_, _, _, rfl⟩ rfl (by decide)
theorem tok87 : TypeOk Tryz.prog 87 ti87 := aE (z := (.nilFunc)) (by kernel_rfl) rfl Tryz.underlying87 ⟨_, _, _, rfl⟩ rfl (by decide)
theorem tok88 : TypeOk Tryz.prog 88 ti88 := aE (z := (.nilFunc)) (by kernel_rfl) rfl Tryz.underlying88 ⟨_, _, _, rfl⟩ rfl (by decide)
theorem tok89 : TypeOk Tryz.prog 89 ti89 := aE (z := (.nilFunc)) (by kernel_rfl) rfl Tryz.underlying89 ⟨_, _, _, rfl⟩ rfl (by decide)
theorem tok90 : TypeOk Tryz.prog 90 ti90 := aE (z := (.nilFunc)) (by kernel_rfl) rfl Tryz.underlying90 ⟨_, _, _, rfl⟩ rfl (by decide)
theorem tok92 : TypeOk Tryz.prog 92 ti92 := aE (z := (.nilFunc)) (by kernel_rfl) rfl Tryz.underlying92 ⟨_, _, _, rfl⟩ rfl (by decide)
theorem tok94 : TypeOk Tryz.prog 94 ti94 := aE (z := (.nilFunc)) (by kernel_rfl) rfl Tryz.underlying94 ⟨_, _, _, rfl⟩ rfl (by decide)
theorem tok96 : TypeOk Tryz.prog 96 ti96 := aE (z := (.nilFunc)) (by kernel_rfl) rfl Tryz.underlying96 ⟨_, _, _, rfl⟩ rfl (by decide)
theorem tok97 : TypeOk Tryz.prog 97 ti97 := aE (z := (.nilFunc)) (by kernel_rfl) rfl Tryz.underlying97 ⟨_, _, _, rfl⟩ rfl (by decide)
theorem tok98 : TypeOk Tryz.prog 98 ti98 := aE (z := (.slice none 0 0)) (by kernel_rfl) rfl Tryz.underlying98 rfl rfl (by decide)
theorem tok99 : TypeOk Tryz.prog 99 ti99 := aE (z := (.agg #[.int .i64 0, .slice none 0 0])) (by kernel_rfl) rfl Tryz.underlying99 ⟨_, rfl, rfl⟩ rfl (by decide)
theorem tok100 : TypeOk Tryz.prog 100 ti100 := aE (z := (.agg #[.int .i64 0, .slice none 0 0])) (by kernel_rfl) rfl Tryz.underlying100 ⟨_, rfl, rfl⟩ rfl (by decide)
theorem tok101 : TypeOk Tryz.prog 101 ti101 := aE (z := (.agg #[.int .i64 0, .slice none 0 0, .int .i64 0, .slice none 0 0])) (by kernel_rfl) rfl Tryz.underlying101 ⟨_, rfl, rfl⟩ rfl (by decide)
theorem tok102 : TypeOk Tryz.prog 102 ti102 := aE (z := (.agg #[.int .i64 0, .slice none 0 0, .int .i64 0, .slice none 0 0])) (by kernel_rfl) rfl Tryz.underlying102 ⟨_, rfl, rfl⟩ rfl (by decide)
theorem tok103 : TypeOk Tryz.prog 103 ti103 := aE (z := (.nilFunc)) (by kernel_rfl) rfl Tryz.underlying103 ⟨_, _, _, rfl⟩ rfl (by decide)
theorem tok104 : TypeOk Tryz.prog 104 ti104 := aE (z := (.slice none 0 0)) (by kernel_rfl) rfl Tryz.underlying104 rfl rfl (by decide)
theorem tok105 : TypeOk Tryz.prog 105 ti105 := aE (z := (.nilFunc)) (by kernel_rfl) rfl Tryz.underlying105 ⟨_, _, _, rfl⟩ rfl (by decide)
theorem tok106 : TypeOk Tryz.prog 106 ti106 := aE (z := (.nilFunc)) (by kernel_rfl) rfl Tryz.underlying106 ⟨_, _, _, rfl⟩ rfl (by decide)
theorem tok108 : TypeOk Tryz.prog 108 ti108 := aE (z := (.nilFunc)) (by kernel_rfl) rfl Tryz.underlying108 ⟨_, _, _, rfl⟩ rfl (by decide)
theorem tok109 : TypeOk Tryz.prog 109 ti109 := aE (z := (.nilFunc)) (by kernel_rfl) rfl Tryz.underlying109 ⟨_, _, _, rfl⟩ rfl (by decide)
theorem tok110 : TypeOk Tryz.prog 110 ti110 := aE (z := (.nilFunc)) (by kernel_rfl) rfl Tryz.underlying110 ⟨_, _, _, rfl⟩ rfl (by decide)
theorem tok111 : TypeOk Tryz.prog 111 ti111 := aE (z := (.nilFunc)) (by kernel_rfl) rfl Tryz.underlying111 ⟨_, _, _, rfl⟩ rfl (by decide)
theorem tok112 : TypeOk Tryz.prog 112 ti112 := aE (z := (.nilFunc)) (by kernel_rfl) rfl Tryz.underlying112 ⟨_, _, _, rfl⟩ rfl (by decide)
theorem tok113 : TypeOk Tryz.prog 113 ti113 := aE (z := (.slice none 0 0)) (by kernel_rfl) rfl Tryz.underlying113 rfl rfl (by decide)
theorem tok114 : TypeOk Tryz.prog 114 ti114 := aE (z := (.nilFunc)) (by kernel_rfl) rfl Tryz.underlying114 ⟨_, _, _, rfl⟩ rfl (by decide)
theorem tok116 : TypeOk Tryz.prog 116 ti116 := aE (z := (.nilFunc)) (by kernel_rfl) rfl Tryz.underlying116 ⟨_, _, _, rfl⟩ rfl (by decide)
theorem tok117 : TypeOk Tryz.prog 117 ti117 := aE (z := (.nilFunc)) (by kernel_rfl) rfl Tryz.underlying117 ⟨_, _, _, rfl⟩ rfl (by decide)
theorem tok118 : TypeOk Tryz.prog 118 ti118 := aE (z := (.nilFunc)) (by kernel_rfl) rfl Tryz.underlying118 ⟨_, _, _, rfl⟩ rfl (by decide)
theorem tok119 : TypeOk Tryz.prog 119 ti119 := aE (z := (.nilFunc)) (by kernel_rfl) rfl Tryz.underlying119 ⟨_, _, _, rfl⟩ rfl (by decide)
theorem tok120 : TypeOk Tryz.prog 120 ti120 := aE (z := (.nilFunc)) (by kernel_rfl) rfl Tryz.underlying120 ⟨_, _, _, rfl⟩ rfl (by decide)
theorem tok121 : TypeOk Tryz.prog 121 ti121 := aE (z := (.nilFunc)) (by kernel_rfl) rfl Tryz.underlying121 ⟨_, _, _, rfl⟩ rfl (by decide)
theorem tok122 : TypeOk Tryz.prog 122 ti122 := aE (z := (.nilFunc)) (by kernel_rfl) rfl Tryz.underlying122 ⟨_, _, _, rfl⟩ rfl (by decide)
theorem tok123 : TypeOk Tryz.prog 123 ti123 := aE (z := (.nilFunc)) (by kernel_rfl) rfl Tryz.underlying123 ⟨_, _, _, rfl⟩ rfl (by decide)
theorem tok124 : TypeOk Tryz.prog 124 ti124 := aE (z := (.slice none 0 0)) (by kernel_rfl) rfl Tryz.underlying124 rfl rfl (by decide)
theorem tok125 : TypeOk Tryz.prog 125 ti125 := aE (z := (.nilFunc)) (by kernel_rfl) rfl Tryz.underlying125 ⟨_, _, _, rfl⟩ rfl (by decide)
theorem tok126 : TypeOk Tryz.prog 126 ti126 := aE (z := (.nilFunc)) (by kernel_rfl) rfl Tryz.underlying126 ⟨_, _, _, rfl⟩ rfl (by decide)
theorem tok127 : TypeOk Tryz.prog 127 ti127 := aE (z := (.nilFunc)) (by kernel_rfl) rfl Tryz.underlying127 ⟨_, _, _, rfl⟩ rfl (by decide)
theorem tok128 : TypeOk Tryz.prog 128 ti128 := aE (z := (.nilFunc)) (by kernel_rfl) rfl Tryz.underlying128 ⟨_, _, _, rfl⟩ rfl (by decide)
theorem tok129 : TypeOk Tryz.prog 129 ti129 := aE (z := (.nilFunc)) (by kernel_rfl) rfl Tryz.underlying129 ⟨_, _, _, rfl⟩ rfl (by decide)
theorem tok130 : TypeOk Tryz.prog 130 ti130 := aE (z := (.nilFunc)) (by kernel_rfl) rfl Tryz.underlying130 ⟨_, _, _, rfl⟩ rfl (by decide)
theorem tok131 : TypeOk Tryz.prog 131 ti131 := aE (z := (.nilFunc)) (by kernel_rfl) rfl Tryz.underlying131 ⟨_, _, _, rfl⟩ rfl (by decide)
theorem tok132 : TypeOk Tryz.prog 132 ti132 := aE (z := (.nilFunc)) (by kernel_rfl) rfl Tryz.underlying132 ⟨_, _, _, rfl⟩ rfl (by decide)
theorem tok133 : TypeOk Tryz.prog 133 ti133 := aE (z := (.nilFunc)) (by kernel_rfl) rfl Tryz.underlying133 ⟨_, _, _, rfl⟩ rfl (by decide)
theorem tok134 : TypeOk Tryz.prog 134 ti134 := aE (z := (.nilFunc)) (by kernel_rfl) rfl Tryz.underlying134 ⟨_, _, _, rfl⟩ rfl (by decide)
theorem tok135 : TypeOk Tryz.prog 135 ti135 := aE (z := (.nilFunc)) (by kernel_rfl) rfl Tryz.underlying135 ⟨_, _, _, rfl⟩ rfl (by decide)
theorem tok136 : TypeOk Tryz.prog 136 ti136 := aE (z := (.nilFunc)) (by kernel_rfl) rfl Tryz.underlying136 ⟨_, _, _, rfl⟩ rfl (by decide)
theorem tok137 : TypeOk Tryz.prog 137 ti137 := aE (z := (.nilFunc)) (by kernel_rfl) rfl Tryz.underlying137 ⟨_, _, _, rfl⟩ rfl (by decide)
theorem tok138 : TypeOk Tryz.prog 138 ti138 := aE (z := (.nilFunc)) (by kernel_rfl) rfl Tryz.underlying138 ⟨_, _, _, rfl⟩ rfl (by decide)
theorem tok140 : TypeOk Tryz.prog 140 ti140 := aE (z := (.nilFunc)) (by kernel_rfl) rfl Tryz.underlying140 ⟨_, _, _, rfl⟩ rfl (by decide)
theorem tok141 : TypeOk Tryz.prog 141 ti141 := aE (z := (.nilFunc)) (by kernel_rfl) rfl Tryz.underlying141 ⟨_, _, _, rfl⟩ rfl (by decide)
theorem tok142 : TypeOk Tryz.prog 142 ti142 := aE (z := (.nilFunc)) (by kernel_rfl) rfl Tryz.underlying142 ⟨_, _, _, rfl⟩ rfl (by decide)
theorem tok143 : TypeOk Tryz.prog 143 ti143 := aE (z := (.nilFunc)) (by kernel_rfl) rfl Tryz.underlying143 ⟨_, _, _, rfl⟩ rfl (by decide)
theorem tok144 : TypeOk Tryz.prog 144 ti144 := aE (z := (.nilFunc)) (by kernel_rfl) rfl Tryz.underlying144 ⟨_, _, _, rfl⟩ rfl (by decide)
theorem tok146 : TypeOk Tryz.prog 146 ti146 := aE (z := (.nilFunc)) (by kernel_rfl) rfl Tryz.underlying146 ⟨_, _, _, rfl⟩ rfl (by decide)
theorem tok148 : TypeOk Tryz.prog 148 ti148 := aE (z := (.nilFunc)) (by kernel_rfl) rfl Tryz.underlying148 ⟨_, _, _, rfl⟩ rfl (by decide)
theorem tok149 : TypeOk Tryz.prog 149 ti149 := aE (z := (.nilFunc)) (by kernel_rfl) rfl Tryz.underlying149 ⟨_, _, _, rfl⟩ rfl (by decide)
theorem tok150 : TypeOk Tryz.prog 150 ti150 := aE (z := (.nilFunc)) (by kernel_rfl) rfl Tryz.underlying150 ⟨_, _, _, rfl⟩ rfl (by decide)
theorem tok151 : TypeOk Tryz.prog 151 ti151 := aE (z := (.nilFunc)) (by kernel_rfl) rfl Tryz.underlying151 ⟨_, _, _, rfl⟩ rfl (by decide)
theorem tok152 : TypeOk Tryz.prog 152 ti152 := aE (z := (.nilFunc)) (by kernel_rfl) rfl Tryz.underlying152 ⟨_, _, _, rfl⟩ rfl (by decide)
theorem tok153 : TypeOk Tryz.prog 153 ti153 := aE (z := (.nilFunc)) (by kernel_rfl) rfl Tryz.underlying153 ⟨_, _, _, rfl⟩ rfl (by decide)
theorem tok154 : TypeOk Tryz.prog 154 ti154 := aE (z := (.nilFunc)) (by kernel_rfl) rfl Tryz.underlying154 ⟨_, _, _, rfl⟩ rfl (by decide)
theorem tok155 : TypeOk Tryz.prog 155 ti155 := aE (z := (.nilFunc)) (by kernel_rfl) rfl Tryz.underlying155 ⟨_, _, _, rfl⟩ rfl (by decide)
theorem tok156 : TypeOk Tryz.prog 156 ti156 := aE (z := (.nilFunc)) (by kernel_rfl) rfl Tryz.underlying156 ⟨_, _, _, rfl⟩ rfl (by decide)
theorem tok158 : TypeOk Tryz.prog 158 ti158 := aE (z := (.nilFunc)) (by kernel_rfl) rfl Tryz.underlying158 ⟨_, _, _, rfl⟩ rfl (by decide)
theorem tok159 : TypeOk Tryz.prog 159 ti159 := aE (z := (.int .u64 0)) (by kernel_rfl) rfl Tryz.underlying159 rfl rfl (by decide)
theorem tok160 : TypeOk Tryz.prog 160 ti160 := aE (z := (.int .u32 0)) (by kernel_rfl) rfl Tryz.underlying160 rfl rfl (by decide)
theorem tok161 : TypeOk Tryz.prog 161 ti161 := aE (z := (.int .u64 0)) (by kernel_rfl) rfl Tryz.underlying161 rfl rfl (by decide)
theorem tok163 : TypeOk Tryz.prog 163 ti163 := aE (z := (.nilFunc)) (by kernel_rfl) rfl Tryz.underlying163 ⟨_, _, _, rfl⟩ rfl (by decide)
theorem tok164 : TypeOk Tryz.prog 164 ti164 := aE (z := (.nilFunc)) (by kernel_rfl) rfl Tryz.underlying164 ⟨_, _, _, rfl⟩ rfl (by decide)
theorem tok165 : TypeOk Tryz.prog 165 ti165 := aE (z := (.nilFunc)) (by kernel_rfl) rfl Tryz.underlying165 ⟨_, _, _, rfl⟩ rfl (by decide)
theorem tok166 : TypeOk Tryz.prog 166 ti166 := aE (z := (.nilFunc)) (by kernel_rfl) rfl Tryz.underlying166 ⟨_, _, _, rfl⟩ rfl (by decide)
theorem tok168 : TypeOk Tryz.prog 168 ti168 := aE (z := (.nilFunc)) (by kernel_rfl) rfl Tryz.underlying168 ⟨_, _, _, rfl⟩ rfl (by decide)
theorem tok170 : TypeOk Tryz.prog 170 ti170 := aE (z := (.nilFunc)) (by kernel_rfl) rfl Tryz.underlying170 ⟨_, _, _, rfl⟩ rfl (by decide)
theorem tok172 : TypeOk Tryz.prog 172 ti172 := aE (z := (.nilFunc)) (by kernel_rfl) rfl Tryz.underlying172 ⟨_, _, _, rfl⟩ rfl (by decide)
theorem tok173 : TypeOk Tryz.prog 173 ti173 := aE (z := (.nilFunc)) (by kernel_rfl) rfl Tryz.underlying173 ⟨_, _, _, rfl⟩ rfl (by decide)
theorem tok174 : TypeOk Tryz.prog 174 ti174 := aE (z := (.nilFunc)) (by kernel_rfl) rfl Tryz.underlying174 ⟨_, _, _, rfl⟩ rfl (by decide)
theorem tok176 : TypeOk Tryz.prog 176 ti176 := aE (z := (.nilFunc)) (by kernel_rfl) rfl Tryz.underlying176 ⟨_, _, _, rfl⟩ rfl (by decide)
theorem tok178 : TypeOk Tryz.prog 178 ti178 := aE (z := (.nilFunc)) (by kernel_rfl) rfl Tryz.underlying178 ⟨_, _, _, rfl⟩ rfl (by decide)
theorem tok180 : TypeOk Tryz.prog 180 ti180 := aE (z := (.nilFunc)) (by kernel_rfl) rfl Tryz.underlying180 ⟨_, _, _, rfl⟩ rfl (by decide)
theorem tok181 : TypeOk Tryz.prog 181 ti181 := aE (z := (.nilFunc)) (by kernel_rfl) rfl Tryz.underlying181 ⟨_, _, _, rfl⟩ rfl (by decide)
theorem tok182 : TypeOk Tryz.prog 182 ti182 := aE (z := (.nilFunc)) (by kernel_rfl) rfl Tryz.underlying182 ⟨_, _, _, rfl⟩ rfl (by decide)
theorem tok183 : TypeOk Tryz.prog 183 ti183 := aE (z := (.nilFunc)) (by kernel_rfl) rfl Tryz.underlying183 ⟨_, _, _, rfl⟩ rfl (by decide)
theorem tok184 : TypeOk Tryz.prog 184 ti184 := aE (z := (.nilFunc)) (by kernel_rfl) rfl Tryz.underlying184 ⟨_, _, _, rfl⟩ rfl (by decide)
theorem tok185 : TypeOk Tryz.prog 185 ti185 := aE (z := (.nilFunc)) (by kernel_rfl) rfl Tryz.underlying185 ⟨_, _, _, rfl⟩ rfl (by decide)
theorem tok186 : TypeOk Tryz.prog 186 ti186 := aE (z := (.nilFunc)) (by kernel_rfl) rfl Tryz.underlying186 ⟨_, _, _, rfl⟩ rfl (by decide)
theorem tok187 : TypeOk Tryz.prog 187 ti187 := aE (z := (.nilFunc)) (by kernel_rfl) rfl Tryz.underlying187 ⟨_, _, _, rfl⟩ rfl (by decide)
theorem tok189 : TypeOk Tryz.prog 189 ti189 := aE (z := (.nilFunc)) (by kernel_rfl) rfl Tryz.underlying189 ⟨_, _, _, rfl⟩ rfl (by decide)
theorem tok190 : TypeOk Tryz.prog 190 ti190 := aE (z := (.nilFunc)) (by kernel_rfl) rfl Tryz.underlying190 ⟨_, _, _, rfl⟩ rfl (by decide)
theorem tok191 : TypeOk Tryz.prog 191 ti191 := aE (z := (.nilFunc)) (by kernel_rfl) rfl Tryz.underlying191 ⟨_, _, _, rfl⟩ rfl (by decide)
theorem tok195 : TypeOk Tryz.prog 195 ti195 := aE (z := (.nilFunc)) (by kernel_rfl) rfl Tryz.underlying195 ⟨_, _, _, rfl⟩ rfl (by decide)
theorem tok201 : TypeOk Tryz.prog 201 ti201 := aE (z := (.int .u8 0)) (by kernel_rfl) rfl Tryz.underlying201 rfl rfl (by decide)
theorem tok202 : TypeOk Tryz.prog 202 ti202 := aE (z := (.int .u8 0)) (by kernel_rfl) rfl Tryz.underlying202 rfl rfl (by decide)
theorem tok203 : TypeOk Tryz.prog 203 ti203 := aE (z := (.nilFunc)) (by kernel_rfl) rfl Tryz.underlying203 ⟨_, _, _, rfl⟩ rfl (by decide)
theorem tok205 : TypeOk Tryz.prog 205 ti205 := aE (z := (.int .i32 0)) (by kernel_rfl) rfl Tryz.underlying205 rfl rfl (by decide)
theorem tok206 : TypeOk Tryz.prog 206 ti206 := aE (z := (.int .i32 0)) (by kernel_rfl) rfl Tryz.underlying206 rfl rfl (by decide)
theorem tok209 : TypeOk Tryz.prog 209 ti209 := aE (z := (.agg #[.string ⟨#[]⟩])) (by kernel_rfl) rfl Tryz.underlying209 ⟨_, rfl, rfl⟩ rfl (by decide)
theorem tok210 : TypeOk Tryz.prog 210 ti210 := aE (z := (.agg #[.string ⟨#[]⟩])) (by kernel_rfl) rfl Tryz.underlying210 ⟨_, rfl, rfl⟩ rfl (by decide)
def tbl : List (Nat × TI) := [(1, ti1), (2, ti2), (3, ti3), (4, ti4), (5, ti5), (6, ti6), (7, ti7), (8, ti8), (9, ti9), (10, ti10), (11, ti11), (12, ti12), (13, ti13), (14, ti14), (21, ti21), (22, ti22), (23, ti23), (24, ti24), (25, ti25), (26, ti26), (27, ti27), (28, ti28), (29, ti29), (30, ti30), (31, ti31), (32, ti32), (33, ti33), (34, ti34), (35, ti35), (36, ti36), (37, ti37), (38, ti38), (39, ti39), (40, ti40), (42, ti42), (43, ti43), (45, ti45), (46, ti46), (47, ti47), (48, ti48), (49, ti49), (50, ti50), (51, ti51), (52, ti52), (53, ti53), (54, ti54), (55, ti55), (56, ti56), (57, ti57), (58, ti58), (60, ti60), (61, ti61), (62, ti62), (63, ti63), (64, ti64), (65, ti65), (66, ti66), (67, ti67), (68, ti68), (69, ti69), (70, ti70), (72, ti72), (73, ti73), (74, ti74), (76, ti76), (78, ti78), (79, ti79), (80, ti80), (81, ti81), (82, ti82), (83, ti83), (84, ti84), (85, ti85), (86, ti86), (87, ti87), (88, ti88), (89, ti89), (90, ti90), (92, ti92), (94, ti94), (96, ti96), (97, ti97), (98, ti98), (99, ti99), (100, ti100), (101, ti101), (102, ti102), (103, ti103), (104, ti104), (105, ti105), (106, ti106), (108, ti108), (109, ti109), (110, ti110), (111, ti111), (112, ti112), (113, ti113), (114, ti114), (116, ti116), (117, ti117), (118, ti118), (119, ti119), (120, ti120), (121, ti121), (122, ti122), (123, ti123), (124, ti124), (125, ti125), (126, ti126), (127, ti127), (128, ti128), (129, ti129), (130, ti130), (131, ti131), (132, ti132), (133, ti133), (134, ti134), (135, ti135), (136, ti136), (137, ti137), (138, ti138), (140, ti140), (141, ti141), (142, ti142), (143, ti143), (144, ti144), (146, ti146), (148, ti148), (149, ti149), (150, ti150), (151, ti151), (152, ti152), (153, ti153), (154, ti154), (155, ti155), (156, ti156), (158, ti158), (159, ti159), (160, ti160), (161, ti161), (163, ti163), (164, ti164), (165, ti165), (166, ti166), (168, ti168), (170, ti170), (172, ti172), (173, ti173), (174, ti174), (176, ti176), (178, ti178), (180, ti180), (181, ti181), (182, ti182), (183, ti183), (184, ti184), (185, ti185), (186, ti186), (187, ti187), (189, ti189), (190, ti190), (191, ti191), (195, ti195), (201, ti201), (202, ti202), (203, ti203), (205, ti205), (206, ti206), (209, ti209), (210, ti210)]
def T : TT := getT tbl
theorem typesOk : TypesOk Tryz.prog T := typesOk_of (by simp only [tbl, List.forall_mem_cons]; exact ⟨tok1, tok2, tok3, tok4, tok5, tok6, tok7, tok8, tok9, tok10, tok11, tok12, tok13, tok14, tok21, tok22, tok23, tok24, tok25, tok26, tok27, tok28, tok29, tok30, tok31, tok32, tok33, tok34, tok35, tok36, tok37, tok38, tok39, tok40, tok42, tok43, tok45, tok46, tok47, tok48, tok49, tok50, tok51, tok52, tok53, tok54, tok55, tok56, tok57, tok58, tok60, tok61, tok62, tok63, tok64, tok65, tok66, tok67, tok68, tok69, tok70, tok72, tok73, tok74, tok76, tok78, tok79, tok80, tok81, tok82, tok83, tok84, tok85, tok86, tok87, tok88, tok89, tok90, tok92, tok94, tok96, tok97, tok98, tok99, tok100, tok101, tok102, tok103, tok104, tok105, tok106, tok108, tok109, tok110, tok111, tok112, tok113, tok114, tok116, tok117, tok118, tok119, tok120, tok121, tok122, tok123, tok124, tok125, tok126, tok127, tok128, tok129, tok130, tok131, tok132, tok133, tok134, tok135, tok136, tok137, tok138, tok140, tok141, tok142, tok143, tok144, tok146, tok148, tok149, tok150, tok151, tok152, tok153, tok154, tok155, tok156, tok158, tok159, tok160, tok161, tok163, tok164, tok165, tok166, tok168, tok170, tok172, tok173, tok174, tok176, tok178, tok180, tok181, tok182, tok183, tok184, tok185, tok186, tok187, tok189, tok190, tok191, tok195, tok201, tok202, tok203, tok205, tok206, tok209, tok210, by simp⟩)
end Go.Proofs.YtahljdjhhapngaaGreat
namespace Go.Proofs.YtahljdjhhapngaaGreat
open Go.Ab Go.RowKit
abbrev E0 : TypeId → Bool := fun t => Nat.beq t 26
theorem lO (k : Nat) (ds : List Nat) (hk : k ≤ 2) (hl : ds.length < 4611686018427387904) : Run Tryz.prog T E0 (.call 146 [.sl k (ds.map d32)] (.sl (if k = 0 then 0 else 1) ((trim ds).map d32))) := by
 refine bI Tryz.func146 J J (dL J) <| Rg 1 J <| Ua J J <| Wn <| aL <| bB (α := Nat × (List Nat)) (fun ⟨k1, es⟩ => [(0, .sl k1 (es.map d32))]) (fun ⟨k1, es⟩ => []) (fun ⟨k1, es⟩ n => (k1 = k ∨ k = 2 ∧ k1 = 1) ∧ trim es = trim ds ∧ es.length < 4611686018427387904) (fun ⟨k1, es⟩ => es.length) (k, ds) ⟨J, trivial⟩ trivial ⟨.inl J, rfl, hl⟩ ?_
 rintro ⟨k1, es⟩ n hF
 change WC _ _ _ _ _ (_ :: _) ([]) n _
 obtain ⟨hk1, hds, hel⟩ := hF
 refine aB <| Rg 12 J <| Um J J <| aA (aZ J J) J <| aA (eJ J J) J <| aX (fun h5 => ?_) (fun h5 => ?_)
 rotate_left
 ·refine Um J J <| K1 J J <| K1 J J <| K1 J J <| K1 J J <| K1 J J <| K1 J J <| K1 J J <| aA (bP J J) J <| Wn <| aT J <| aV <| aR <| aO J <| Rg 2 J <| Um J J <| Ua J J <| Nk [2] J <| aN <| postW (n := 0) (.inr J) J ?_ (by simp)
  have ht : trim es = es := iO om
  rw [← hds, ht]
  rcases hk1 with rfl | ⟨rfl, rfl⟩
  ·have : k1 = 0 ∨ k1 = 1 ∨ k1 = 2 := by omega
   rcases this with rfl | rfl | rfl
   ·exact .same _
   ·exact .same _
   ·exact .two _
  ·exact .same _
 refine Um J J <| aK J (eF J) J <| aK J (eF J) J <| aK J (aZ J J) J <| aK J (bV J J om) J <| aK J (bS (j := es.length - 1) J J J J om om J) J <| aK J (dH J J J) J <| aK J (eY J J) J <| aX (fun h13 => ?_) (fun h13 => ?_)
 ·refine aA (bL J J) J <| Wn <| aS J <| aF <| cR <| aI (z := 6) J <| Um J J <| Um J J <| aA (aZ J J) J <| aA (bV J J om) J <| aA (oSlH (j := es.length - 1) J J J hO J om (by simp)) J <| Ua J J <| Wn <| cC <| aG <| ⟨⟨if k1 = 2 then 1 else k1, es.take (es.length - 1)⟩, ⟨congrArg some ?_, trivial⟩, trivial, ⟨?_, ?_, ?_⟩, ?_⟩
  ·have h9 : es.length - 1 < es.length := by omega
   simp [h9]
  ·split <;> omega
  ·rw [pP om om]; exact hds
  ·simp; omega
  ·simp; omega
 refine aA (bL J J) J <| Wn <| aT J <| aV <| aR <| aO J <| Rg 2 J <| Um J J <| Ua J J <| Nk [2] J <| aN <| postW (n := 0) (.inr J) J ?_ (by simp)
 have ht : trim es = es := iO om
 rw [← hds, ht]
 rcases hk1 with rfl | ⟨rfl, rfl⟩
 ·have : k1 = 0 ∨ k1 = 1 ∨ k1 = 2 := by omega
  rcases this with rfl | rfl | rfl
  ·exact .same _
  ·exact .same _
  ·exact .two _
 ·exact .same _
theorem jX (v : Int) : Run Tryz.prog T E0 (.call 114 [lvI v] (.v (.int .i64 v.sign))) := by
 refine bI Tryz.func114 J J (dL J) <| Rg 2 J <| aY (dY J J) J <| Ua J J <| Wn <| aL <| Rg 4 J <| aA (bD J J J J J) J <| aA (aM J J J J J) J <| aA (eJ J J) J <| aX (fun h6 => ?_) (fun h6 => ?_)
 ·refine Ua J J <| Wn <| bW J <| Rg 1 J <| Ua J J <| Wn <| aN <| aW <| post (n := 0) (.inr J) J (congrArg (fun z => LV.v (.int .i64 z)) ?_) (by simp)
  exact (Int.sign_eq_one_of_pos ((ia_pos v).1 h6)).symm
 refine Ua J J <| Wn <| bZ J <| Rg 4 J <| aA (bD J J J J J) J <| aA (aM J J J J J) J <| aA (bR J J) J <| aX (fun h10 => ?_) (fun h10 => ?_)
 ·refine Ua J J <| Wn <| bW J <| Rg 1 J <| Ua J J <| Wn <| aN <| aW <| post (n := 0) (.inr J) J (congrArg (fun z => LV.v (.int .i64 z)) ?_) (by simp)
  exact (Int.sign_eq_neg_one_of_neg ((ia_neg v).1 h10)).symm
 refine Ua J J <| Wn <| bZ J <| cV <| aH <| Rg 1 J <| Ua J J <| Wn <| aN <| post (n := 0) (.inr J) J (congrArg (fun z => LV.v (.int .i64 z)) ?_) (by simp)
 have h1 := ia_pos v
 have h2 := ia_neg v
 have : v = 0 := by omega
 subst this; rfl
theorem rE (v : Int) : Run Tryz.prog T E0 (.call 115 [lvI v] (lvI (-v))) := by
 have hb := pZ v
 refine bI Tryz.func115 J J (dL J) <| Rg 2 J <| aY (dY J J) J <| aY (dU J) J <| Wn <| Rg 7 J <| aA (bD J J J J J) J <| aA (aM J J J J J) J <| aA (fJ J om) J <| aA (bD J J J J J) J <| aA (aM J J J J J) J <| aA (eW (cs := [_, _]) J J J J J) J <| aU (cA (cs' := [_, _]) J J J J J J J J) <| Wn <| aN <| post (n := 0) (.inr J) J ?_ (by simp)
 simp only [lvI, ia_negate, ik_negate, idg_negate]; rfl
theorem abs_run (v : Int) : Run Tryz.prog T E0 (.call 130 [lvI v] (lvI v.natAbs)) := by
 refine bI Tryz.func130 J J (dL J) <| Rg 2 J <| aY (dY J J) J <| aY (dU J) J <| Wn <| aB <| Rg 3 J <| aA (bD J J J J J) J <| aA (aM J J J J J) J <| aA (bR J J) J <| aX (fun h5 => ?_) (fun h5 => ?_)
 rotate_left
 ·refine Wn <| aT J <| aF <| Rg 2 J <| aA (aM (l := .agg [_, _]) J J J J J) J <| aU (cA (cs' := [_, _]) J J J J J J J J) <| Wn <| aN <| post (n := 0) (.inr J) J ?_ (by simp)
  have h1 := ia_neg v
  have : (v.natAbs : Int) = v := by omega
  rw [this]; rfl
 refine Wn <| aS J <| aB <| Rg 3 J <| aA (aM (l := .agg [_, _]) J J J J J) J <| aA (aJ J (rE _) (by simp)) J <| aU (cA (cs' := [_, _]) J J J J J J J J) <| Wn <| bA <| post (n := 0) (.inr J) J ?_ (by simp)
 have h1 := (ia_neg v).1 h5
 have : (v.natAbs : Int) = -v := by omega
 rw [this]; rfl
theorem one_run  : Run Tryz.prog T E0 (.call 131 [] (lvI 1)) := by
 refine bI Tryz.func131 J J (dL J) <| Rg 1 J <| aY (dU J) J <| Wn <| Rg 2 J <| aA (eW (cs := [_, _]) J J J J J) J <| aU (cA (cs' := [_, _]) J J J J J J J J) <| Wn <| aN ?_
 exact post (n := 0) (.inr J) J J (by simp)
theorem pJ (v : Int) (hv : -9223372036854775808 ≤ v ∧ v ≤ 9223372036854775807) : Run Tryz.prog T E0 (.call 95 [.v (.int .i64 v)] (lvI v)) := by
 refine bI Tryz.func95 J J (dL J) <| Rg 1 J <| aY (dU J) J <| Wn <| aB <| Rg 6 J <| Um J J <| aA (eJ J J) J <| aX (fun h6 => ?_) (fun h6 => ?_)
 rotate_left
 ·refine Um J J <| K1 J J <| K1 J J <| aA (bP J J) J <| Wn <| aT J <| aF <| Rg 1 J <| Ua J J <| Wn <| Rg 3 J <| Um J J <| aA (cI (v % 18446744073709551616) (cL J J J) (IntKind.wrap_u64 _)) J <| Ua J J <| Wn <| aB <| Rg 2 J <| Um J J <| aA (bR J J) J <| aX (fun h16 => ?_) (fun h16 => ?_)
  rotate_left
  ·refine Wn <| aT J <| aF <| Rg 9 J <| Um J J <| Um J J <| aA (cI (((v.natAbs % 4294967296 : Nat) : Int)) (cL J J J) (by rw [IntKind.wrap_u32]; omega)) J <| Um J J <| aA (cI (((v.natAbs / 4294967296 : Nat) : Int)) (eS (s := 32) J J om) om) J <| aA (cI (((v.natAbs / 4294967296 : Nat) : Int)) (cL J J J) (by rw [IntKind.wrap_u32]; omega)) J <| aA (cQ (cs := [_, _]) (rows := [[_], [_]]) J J (by decide) J J J) J <| aA (eW (cs := [_, _]) J J J J J) J <| aU (cA (cs' := [_, _]) J J J J J J J J) <| Nk [2] J <| aN ?_
   omega
  refine Wn <| aS J <| Rg 4 J <| Um J J <| aA (cI (((v.natAbs : Nat) : Int)) (oNeg J) (by rw [IntKind.wrap_u64]; omega)) J <| Ua J J <| Ua J J <| Nk [2,3,4] J <| Rg 9 J <| Um J J <| Um J J <| aA (cI (((v.natAbs % 4294967296 : Nat) : Int)) (cL J J J) (by rw [IntKind.wrap_u32]; omega)) J <| Um J J <| aA (cI (((v.natAbs / 4294967296 : Nat) : Int)) (eS (s := 32) J J om) om) J <| aA (cI (((v.natAbs / 4294967296 : Nat) : Int)) (cL J J J) (by rw [IntKind.wrap_u32]; omega)) J <| aA (cQ (cs := [_, _]) (rows := [[_], [_]]) J J (by decide) J J J) J <| aA (eW (cs := [_, _]) J J J J J) J <| aU (cA (cs' := [_, _]) J J J J J J J J) <| Wn <| aN <| postW (n := 0) (l := .agg [_, _]) (.inr J) J ?_ (by simp)
  have hns : ¬ small v := by unfold small; omega
  rw [rB hns, Int.sign_eq_neg_one_of_neg h16, ← two_big (m := v.natAbs) om om]
  exact .int _ _
 refine Um J J <| aK J (eF J) J <| aK J (bR J J) J <| aX (fun h9 => ?_) (fun h9 => ?_)
 ·refine aA (bL J J) J <| Wn <| aS J <| aB <| Rg 3 J <| Um J J <| aA (eW (cs := [_, _]) J J J J J) J <| aU (cA (cs' := [_, _]) J J J J J J J J) <| Wn <| bA <| post (n := 0) (.inr J) J ?_ (by simp)
  rw [jR ⟨h6, h9⟩]; rfl
 refine aA (bL J J) J <| Wn <| aT J <| aF <| Rg 1 J <| Ua J J <| Wn <| Rg 3 J <| Um J J <| aA (cI (v % 18446744073709551616) (cL J J J) (IntKind.wrap_u64 _)) J <| Ua J J <| Wn <| aB <| Rg 2 J <| Um J J <| aA (bR J J) J <| aX (fun h16 => ?_) (fun h16 => ?_)
 rotate_left
 ·refine Wn <| aT J <| aF <| Rg 9 J <| Um J J <| Um J J <| aA (cI (((v.natAbs % 4294967296 : Nat) : Int)) (cL J J J) (by rw [IntKind.wrap_u32]; omega)) J <| Um J J <| aA (cI (((v.natAbs / 4294967296 : Nat) : Int)) (eS (s := 32) J J om) om) J <| aA (cI (((v.natAbs / 4294967296 : Nat) : Int)) (cL J J J) (by rw [IntKind.wrap_u32]; omega)) J <| aA (cQ (cs := [_, _]) (rows := [[_], [_]]) J J (by decide) J J J) J <| aA (eW (cs := [_, _]) J J J J J) J <| aU (cA (cs' := [_, _]) J J J J J J J J) <| Nk [2] J <| aN <| postW (n := 0) (l := .agg [_, _]) (.inr J) J ?_ (by simp)
  have hns : ¬ small v := by unfold small; omega
  rw [rB hns, Int.sign_eq_one_of_pos om, ← two_big (m := v.natAbs) om om]
  exact .int _ _
 refine Wn <| aS J <| Rg 4 J <| Um J J <| aA (cI (((v.natAbs : Nat) : Int)) (oNeg J) (by rw [IntKind.wrap_u64]; omega)) J <| Ua J J <| Ua J J <| Nk [2,3,4] J <| Rg 9 J <| Um J J <| Um J J <| aA (cI (((v.natAbs % 4294967296 : Nat) : Int)) (cL J J J) (by rw [IntKind.wrap_u32]; omega)) J <| Um J J <| aA (cI (((v.natAbs / 4294967296 : Nat) : Int)) (eS (s := 32) J J om) om) J <| aA (cI (((v.natAbs / 4294967296 : Nat) : Int)) (cL J J J) (by rw [IntKind.wrap_u32]; omega)) J <| aA (cQ (cs := [_, _]) (rows := [[_], [_]]) J J (by decide) J J J) J <| aA (eW (cs := [_, _]) J J J J J) J <| aU (cA (cs' := [_, _]) J J J J J J J J) <| Wn <| aN <| postW (n := 0) (l := .agg [_, _]) (.inr J) J ?_ (by simp)
 have hns : ¬ small v := by unfold small; omega
 rw [rB hns, Int.sign_eq_neg_one_of_neg h16, ← two_big (m := v.natAbs) om om]
 exact .int _ _
theorem qX (v b : Int) (hb : 0 ≤ b ∧ b < 4611686018427387904) : Run Tryz.prog T E0 (.call 111 [lvI v, .v (.int .i64 b)] (.tup [.v (.int .i64 (if -b ≤ v ∧ v ≤ b then v else 0)), .v (.bool (decide (-b ≤ v ∧ v ≤ b)))])) := by
 refine bI Tryz.func111 J J (dL J) <| Rg 3 J <| aY (dY J J) J <| Ua J J <| Ua J J <| Wn <| aB <| Rg 16 J <| aA (bD J J J J J) J <| aA (aM J J J J J) J <| aA (oNilN J J) J <| eX (fun h8 => ?_) (fun h8 => ?_)
 ·refine Um J J <| K1 J J <| K1 J J <| K1 J J <| K1 J J <| aA (bL J J) J <| Um J J <| K1 J J <| K1 J J <| K1 J J <| K1 J J <| K1 J J <| aA (bL J J) J <| Nk [2,21] J <| aS J <| aB <| Rg 2 J <| Ua J J <| Ua J J <| Wn <| bA <| post (n := 0) (.inr J) J ?_ (by simp)
  have hs := ik_eq'.1 h8
  have hn : ¬ (-b ≤ v ∧ v ≤ b) := by unfold small at hs; omega
  rw [if_neg hn, decide_eq_false hn]; rfl
 refine Um J J <| aK J (bD J J J J J) J <| aK J (aM J J J J J) J <| aK J (eF J) J <| aK J (eJ J J) J <| aX (fun h13 => ?_) (fun h13 => ?_)
 ·refine aA (bP J J) J <| Um J J <| K1 J J <| K1 J J <| K1 J J <| K1 J J <| K1 J J <| aA (bL J J) J <| Nk [2,21] J <| aS J <| aB <| Rg 2 J <| Ua J J <| Ua J J <| Wn <| bA <| post (n := 0) (.inr J) J ?_ (by simp)
  have hs := dM (ik_ne'.1 h8)
  have hn : ¬ (-b ≤ v ∧ v ≤ b) := by omega
  rw [if_neg hn, decide_eq_false hn]; rfl
 refine aA (bP J J) J <| Um J J <| aK J (bD J J J J J) J <| aK J (aM J J J J J) J <| aK J (eF J) J <| aK J (fJ J om) J <| aK J (bR J J) J <| aX (fun h20 => ?_) (fun h20 => ?_)
 ·refine aA (bP J J) J <| Nk [2,21] J <| aS J <| aB <| Rg 2 J <| Ua J J <| Ua J J <| Wn <| bA <| post (n := 0) (.inr J) J ?_ (by simp)
  have hs := dM (ik_ne'.1 h8)
  have hn : ¬ (-b ≤ v ∧ v ≤ b) := by omega
  rw [if_neg hn, decide_eq_false hn]; rfl
 refine aA (bP J J) J <| Nk [2,21] J <| aT J <| aF <| Rg 4 J <| aA (bD J J J J J) J <| aA (aM J J J J J) J <| Ua J J <| Ua J J <| Wn <| aN <| post (n := 0) (.inr J) J ?_ (by simp)
 have hs := dM (ik_ne'.1 h8)
 have hn : -b ≤ v ∧ v ≤ b := by omega
 rw [if_pos hn, decide_eq_true hn]
 exact congrArg (fun z => LV.tup [.v (.int .i64 z), .v (.bool true)]) hs
theorem fD (v : Int) : Run Tryz.prog T E0 (.call 133 [lvI v] (.tup [.v (.int .i64 v.sign), .sl 1 ((dgs B32 v.natAbs).map d32)])) := by
 have hb := pZ v
 refine bI Tryz.func133 J J (dL J) <| Rg 3 J <| aY (dY J J) J <| Ua J J <| Ua J J <| Wn <| aB <| Rg 3 J <| aA (bD J J J J J) J <| aA (aM J J J J J) J <| aA (oNilN J J) J <| eX (fun h8 => ?_) (fun h8 => ?_)
 ·refine Wn <| aS J <| aB <| bG (z := 6) J kR <| aD (bD J J J J J) J <| aD (aM J J J J J) J <| aD (bD J J J J J) J <| aD (aM J J J J J) J <| aD (iA J) J <| aD (iA J) J <| bE (aQ kR) J <| bA <| post (n := 0) (.inr J) J ?_ (by simp)
  have hs := ik_eq'.1 h8
  rw [pA hs, ik_big hs, idg_big hs]; rfl
 have hs := ik_ne'.1 h8
 have hia := dM hs
 refine Wn <| aT J <| aF <| Rg 2 J <| Ua J J <| Ua J J <| Wn <| aL <| Rg 4 J <| aA (bD J J J J J) J <| aA (aM J J J J J) J <| aA (eJ J J) J <| aX (fun h16 => ?_) (fun h16 => ?_)
 ·refine Ua J J <| Wn <| bW J <| dN (z := 5) J kR <| aD (bD J J J J J) J <| aD (aM J J J J J) J <| aD (cI (((v.natAbs : Nat) : Int)) (cL J J J) (by rw [IntKind.wrap_u64]; omega)) J <| aD (iA J) J <| aD (iA J) J <| bE (aQ kR) J <| aH <| Ck [4,5] J <| Rg 10 J <| Um J J <| Um J J <| aA (cI (((v.natAbs % 4294967296 : Nat) : Int)) (cL J J J) (by rw [IntKind.wrap_u32]; omega)) J <| Um J J <| aA (cI (((v.natAbs / 4294967296 : Nat) : Int)) (eS (s := 32) J J om) om) J <| aA (cI (((v.natAbs / 4294967296 : Nat) : Int)) (cL J J J) (by rw [IntKind.wrap_u32]; omega)) J <| aA (cQ (cs := [_, _]) (rows := [[_], [_]]) J J (by decide) J J J) J <| aA (aJ J (lO 2 [v.natAbs % 4294967296, v.natAbs / 4294967296] om (by simp)) (by simp)) J <| Ua J J <| Ua J J <| cK ?_
  refine aN <| post (n := 0) (.inr J) J ?_ (by simp)
  rw [← two_dg (m := v.natAbs) om, Int.sign_eq_one_of_pos om]; rfl
 refine Ua J J <| Wn <| bZ J <| Rg 4 J <| aA (bD J J J J J) J <| aA (aM J J J J J) J <| aA (bR J J) J <| aX (fun h23 => ?_) (fun h23 => ?_)
 rotate_left
 ·refine Ua J J <| Nk [1,4,5,20] J <| bZ J <| cV <| aH <| Rg 10 J <| Um J J <| Um J J <| aA (cI (((v.natAbs % 4294967296 : Nat) : Int)) (cL J J J) (by rw [IntKind.wrap_u32]; omega)) J <| Um J J <| aA (cI (((v.natAbs / 4294967296 : Nat) : Int)) (eS (s := 32) J J om) om) J <| aA (cI (((v.natAbs / 4294967296 : Nat) : Int)) (cL J J J) (by rw [IntKind.wrap_u32]; omega)) J <| aA (cQ (cs := [_, _]) (rows := [[_], [_]]) J J (by decide) J J J) J <| aA (aJ J (lO 2 [v.natAbs % 4294967296, v.natAbs / 4294967296] om (by simp)) (by simp)) J <| Ua J J <| Ua J J <| Wn <| aN <| post (n := 0) (.inr J) J ?_ (by simp)
  have h0 : v = 0 := by omega
  rw [← two_dg (m := v.natAbs) om]
  subst h0; rfl
 refine Ua J J <| Nk [1,4,5,20] J <| bW J <| dN (z := 6) J kR <| aD (bD J J J J J) J <| aD (aM J J J J J) J <| aD (fJ J om) J <| aD (cI (((v.natAbs : Nat) : Int)) (cL J J J) (by rw [IntKind.wrap_u64]; omega)) J <| aD (iA J) J <| aD (iA J) J <| bE (aQ kR) J <| aH <| Rg 10 J <| Um J J <| Um J J <| aA (cI (((v.natAbs % 4294967296 : Nat) : Int)) (cL J J J) (by rw [IntKind.wrap_u32]; omega)) J <| Um J J <| aA (cI (((v.natAbs / 4294967296 : Nat) : Int)) (eS (s := 32) J J om) om) J <| aA (cI (((v.natAbs / 4294967296 : Nat) : Int)) (cL J J J) (by rw [IntKind.wrap_u32]; omega)) J <| aA (cQ (cs := [_, _]) (rows := [[_], [_]]) J J (by decide) J J J) J <| aA (aJ J (lO 2 [v.natAbs % 4294967296, v.natAbs / 4294967296] om (by simp)) (by simp)) J <| Ua J J <| Ua J J ?_
 refine Nk [2,3] J <| aN <| post (n := 0) (.inr J) J ?_ (by simp)
 rw [← two_dg (m := v.natAbs) om, Int.sign_eq_neg_one_of_neg om]; rfl
theorem jO (x y c : Nat) (hx : x < 4294967296) (hy : y < 4294967296) (hc : c ≤ 1) : Run Tryz.prog T E0 (.call 150 [.v (.int .u32 (x : Int)), .v (.int .u32 (y : Int)), .v (.int .u32 (c : Int))] (.tup [.v (.int .u32 (((x + y + c) % 4294967296 : Nat) : Int)), .v (.int .u32 (((x + y + c) / 4294967296 : Nat) : Int))])) := by
 refine bI Tryz.func150 J J (dL J) <| Rg 2 J <| Ua J J <| Ua J J <| Wn <| Rg 9 J <| Um J J <| aA (cI ((x : Int)) (cL J J J) (by rw [IntKind.wrap_u64]; omega)) J <| Um J J <| aA (cI ((y : Int)) (cL J J J) (by rw [IntKind.wrap_u64]; omega)) J <| aA (cI (((x + y : Nat) : Int)) (jS J J) om) J <| Um J J <| aA (cI ((c : Int)) (cL J J J) (by rw [IntKind.wrap_u64]; omega)) J <| aA (cI (((x + y + c : Nat) : Int)) (jS J J) om) J <| Ua J J <| Wn <| Rg 3 J <| Um J J <| aA (cI ((((x + y + c) % 4294967296 : Nat) : Int)) (cL J J J) (by rw [IntKind.wrap_u32]; omega)) J <| Ua J J <| Nk [6,8] J <| Rg 4 J <| Um J J ?_
 refine aA (cI ((((x + y + c) / 4294967296 : Nat) : Int)) (eS (s := 32) J J om) om) J <| aA (cI ((((x + y + c) / 4294967296 : Nat) : Int)) (cL J J J) (by rw [IntKind.wrap_u32]; omega)) J <| Ua J J <| Wn <| aN ?_
 exact post (n := 0) (.inr J) J J (by simp)
theorem lA (k1 k2 : Nat) (xs ys : List Nat) (hx : Dg B32 xs) (hy : Dg B32 ys) (tx : Trm xs) (ty : Trm ys) (lx : xs.length < 4611686018427387904) (ly : ys.length < 4611686018427387904) : Run Tryz.prog T E0 (.call 135 [.sl k1 (xs.map d32), .sl k2 (ys.map d32)] (.v (.int .i64 ((val B32 xs : Int) - val B32 ys).sign))) := by
 refine bI Tryz.func135 J J (dL J) <| Rg 1 J <| Ua J J <| Wn <| aB <| Rg 5 J <| Um J J <| aA (aZ J J) J <| Um J J <| aA (aZ J J) J <| aA (dZ J J) J <| aX (fun h10 => ?_) (fun h10 => ?_)
 ·refine Wn <| aS J <| aB <| aB <| Rg 5 J <| Um J J <| aA (aZ J J) J <| Um J J <| aA (aZ J J) J <| aA (bR J J) J <| aX (fun h15 => ?_) (fun h15 => ?_)
  ·refine Wn <| aS J <| aB <| Rg 1 J <| Ua J J <| Wn <| bA <| post (n := 0) (.inr J) J (congrArg (fun z => LV.v (.int .i64 z)) ?_) (by simp)
   have := dR (B := B32) (by decide) hx ty om
   exact (Int.sign_eq_neg_one_of_neg om).symm
  refine Wn <| aT J <| aF <| aB <| Rg 1 J <| Ua J J <| Wn <| bA <| post (n := 0) (.inr J) J (congrArg (fun z => LV.v (.int .i64 z)) ?_) (by simp)
  have := dR (B := B32) (by decide) hy tx om
  exact (Int.sign_eq_one_of_pos om).symm
 have hlen : xs.length = ys.length := by omega
 refine Wn <| aT J <| aF <| aB <| Rg 4 J <| Um J J <| aA (aZ J J) J <| aA (bV J J om) J <| Ua J J <| Wn <| aL <| bB (α := Nat) (fun k => [(0, .sl k1 (xs.map d32)), (1, .sl k2 (ys.map d32)), (5, .v (.int .i64 ((k : Int) - 1)))]) (fun k => []) (fun k n => k ≤ xs.length ∧ xs.drop k = ys.drop k) (fun k => k) (xs.length) ⟨J, J, J, trivial⟩ trivial ⟨Nat.le_refl _, by rw [List.drop_length, hlen, List.drop_length]⟩ ?_
 rintro k n hF
 change WC _ _ _ _ _ (_ :: _) ([]) n _
 obtain ⟨hk, hd⟩ := hF
 refine aB <| Rg 2 J <| Um J J <| aA (iG J J) J <| aX (fun h20 => ?_) (fun h20 => ?_)
 rotate_left
 ·refine Wn <| aT J <| aV <| aR <| aO J <| Rg 1 J <| Ua J J <| Wn <| aN <| post (n := 0) (.inr J) J (congrArg (fun z => LV.v (.int .i64 z)) ?_) (by simp)
  have h0 : k = 0 := by omega
  subst h0
  simp only [List.drop_zero] at hd
  subst hd
  simp
 refine Wn <| aS J <| aF <| aL <| bG (z := 9) J kR <| Dm J J <| Dm J J <| aD (bS (j := k - 1) J J J J om om J) J <| aD (dH J J J) J <| Dm J J <| Dm J J <| aD (bS (j := k - 1) J J J J om om J) J <| aD (dH J J J) J <| aD (dZ J J) J <| rK (fun h31 => ?_) (fun h31 => ?_)
 rotate_left
 ·refine bE (aQ kR) J <| bZ J <| cV <| aH <| aI (z := 3) J <| Um J J <| aA (cI (((k - 1 : Nat) : Int) - 1) (bV J J om) om) J <| Ua J J <| Wn <| aG ?_
  have hj : k - 1 + 1 = k := by omega
  refine ⟨k - 1, ⟨J, J, J, trivial⟩, trivial, ⟨om, ?_⟩, by show k - 1 < k; omega⟩
  rw [bM (by omega : k - 1 < xs.length), bM (by omega : k - 1 < ys.length), hj, hd]
  congr 1; omega
 refine bE (aQ kR) J <| bW J <| aB <| bG (z := 9) J kR <| Dm J J <| Dm J J <| aD (bS (j := k - 1) J J J J om om J) J <| aD (dH J J J) J <| Dm J J <| Dm J J <| aD (bS (j := k - 1) J J J J om om J) J <| aD (dH J J J) J <| aD (bR J J) J <| rK (fun h40 => ?_) (fun h40 => ?_)
 ·refine bE (aQ kR) J <| Ck [40] J <| aS J <| aB <| Rg 1 J <| Ua J J <| Wn <| bA <| aW <| bY <| aW <| post (n := 0) (.inr J) J (congrArg (fun z => LV.v (.int .i64 z)) ?_) (by simp)
  have hj : k - 1 + 1 = k := by omega
  have := mK (B := B32) (ys := ys) (by decide) hx (k := k - 1) om om (by rw [hj]; exact hd) om
  exact (Int.sign_eq_neg_one_of_neg om).symm
 refine bE (aQ kR) J <| Ck [40] J <| aT J <| aF <| Rg 1 J <| Ua J J <| Wn <| aN <| aW <| bY <| aW <| post (n := 0) (.inr J) J (congrArg (fun z => LV.v (.int .i64 z)) ?_) (by simp)
 have hj : k - 1 + 1 = k := by omega
 have := mK (B := B32) (ys := xs) (by decide) hy (k := k - 1) om om (by rw [hj]; exact hd.symm) om
 exact (Int.sign_eq_one_of_pos om).symm
end Go.Proofs.YtahljdjhhapngaaGreat
namespace Go.Proofs.YtahljdjhhapngaaGreat
open Go.Ab Go.RowKit
theorem sub32_run (x y c : Nat) (hx : x < 4294967296) (hy : y < 4294967296) (hc : c ≤ 1) : Run Tryz.prog T E0 (.call 151 [.v (.int .u32 (x : Int)), .v (.int .u32 (y : Int)), .v (.int .u32 (c : Int))] (.tup [.v (.int .u32 ((((x + 8589934592 - y - c) % 4294967296) : Nat) : Int)), .v (.int .u32 ((if x < y + c then 1 else 0 : Nat) : Int))])) := by
 have hxy : x ^^^ y < 4294967296 := Nat.xor_lt_two_pow (n := 32) hx hy
 refine bI Tryz.func151 J J (dL J) <| Rg 2 J <| Ua J J <| Ua J J <| Wn <| Rg 6 J <| Um J J <| Um J J <| aA (oSub32 J J) J <| Um J J <| aA (cI (((((x + 8589934592 - y - c) % 4294967296) : Nat) : Int)) (oSub32 J J) om) J <| Ua J J <| Wn <| Rg 13 J <| Um J J <| aA (oCom32 (a := x) J hx) J <| Um J J <| aA (fS (v := .int .u32 (((4294967295 - x) &&& y : Nat) : Int)) J J (and32 om hy)) J <| Um J J <| Um J J <| aA (fS (v := .int .u32 ((x ^^^ y : Nat) : Int)) J J (xor32 hx hy)) J <| aA (oCom32 (a := x ^^^ y) J hxy) J <| Um J J <| aA (fS (v := .int .u32 (((4294967295 - (x ^^^ y)) &&& ((x + 8589934592 - y - c) % 4294967296) : Nat) : Int)) J J (and32 om om)) J ?_
 refine aA (fS (v := .int .u32 ((((4294967295 - x) &&& y) ||| ((4294967295 - (x ^^^ y)) &&& ((x + 8589934592 - y - c) % 4294967296)) : Nat) : Int)) J J (or32 (Nat.lt_of_le_of_lt Nat.and_le_right hy) (Nat.lt_of_le_of_lt Nat.and_le_left om))) J <| aA (cI (((if x < y + c then 1 else 0 : Nat) : Int)) (oShr32 (s := 31) J J om) (by rw [← borrow hx hy hc (d := ((x + 8589934592 - y - c) % 4294967296)) om]; rfl)) J <| Ua J J <| Nk [6,7] J <| aN ?_
 exact post (n := 0) (.inr J) J J (by simp)
theorem plus_run (k1 k2 : Nat) (xs ys : List Nat) (hx : Dg B32 xs) (hy : Dg B32 ys) (lx : xs.length < 1099511627776) (ly : ys.length < 1099511627776) : ∃ r, Run Tryz.prog T E0 (.call 141 [.sl k1 (xs.map d32), .sl k2 (ys.map d32)] r) ∧ ∃ ds, r = .sl 1 (ds.map d32) ∧ Dg B32 ds ∧ val B32 ds = val B32 xs + val B32 ys ∧ ds.length ≤ max xs.length ys.length + 1 := by
 refine eP Tryz.func141 J J (dL J) ?_
 have J3 : ∀ (k1 k2 : Nat) (us ws : List Nat) (hu : Dg B32 us) (hw : Dg B32 ws) (hle : ws.length ≤ us.length) (hm : us.length ≤ max xs.length ys.length) (hs : val B32 us + val B32 ws = val B32 xs + val B32 ys) (n : Nat) , WC Tryz.prog T E0 Tryz.f141.ntmps (codeR (codeR (codeOf Tryz.f141))) [(0, .sl k1 (us.map d32)), (1, .sl k2 (ws.map d32))] [] n (fun x e h n => ∃ r, (∃ ds, r = .sl 1 (ds.map d32) ∧ Dg B32 ds ∧ val B32 ds = val B32 xs + val B32 ys ∧ ds.length ≤ max xs.length ys.length + 1) ∧ Post T Tryz.f141.results.toList r x e h n) := by
  intro k1 k2 us ws hu hw hle hm hs n
  refine Rg 5 J <| Um J J <| aA (aZ J J) J <| aA (aP J J om) J <| aY (oMk (a := 0) (b := us.length + 1) J J J J J J (by decide) om (by show 4 * (us.length + 1) ≤ _; omega) om) J <| Ua J J <| Wn <| Rg 1 J <| Ua J J <| Wn <| aB <| Rg 3 J <| Um J J <| aA (aZ J J) J <| Um J J <| Wn <| aL <| bB (α := Nat × Nat × (List Nat)) (fun ⟨c, q, ds⟩ => [(0, .sl k1 (us.map d32)), (1, .sl k2 (ws.map d32)), (5, .ref q 1 0 ds.length), (6, .v (.int .u32 (c : Int))), (22, .v (.int .i64 (us.length : Int))), (23, .v (.int .i64 (ds.length : Int)))]) (fun ⟨c, q, ds⟩ => [(q, { cells := (ds.map d32).flatten, sz := 1, elem := 160, st := 0 })]) (fun ⟨c, q, ds⟩ n => ds.length ≤ us.length ∧ Dg B32 ds ∧ c ≤ 1 ∧ val B32 ds + B32 ^ ds.length * c = val B32 (us.take ds.length) + val B32 (ws.take ds.length)) (fun ⟨c, q, ds⟩ => us.length - ds.length) (0, n + 3, []) ⟨J, J, J, J, J, J, trivial⟩ ⟨g0, trivial⟩ ⟨Nat.zero_le _, by intro d hd; simp at hd, om, by simp [val]⟩ ?_
  rintro ⟨c, q, ds⟩ n hF
  change WC _ _ _ _ _ (_ :: _) (_ :: _) n _
  obtain ⟨hdl, hdd, hc, hi⟩ := hF
  refine Rg 1 J <| aA (bR J J) J <| aX (fun h24 => ?_) (fun h24 => ?_)
  rotate_left
  ·refine Wn <| aT J <| aV <| aR <| aO J <| Rg 5 J <| Um J J <| Um J J <| aA (cQ (cs := [_]) (rows := [[_]]) J J (by decide) J J J) J <| aY (oApM (f := d32) J J J J J (fun _ => rfl) (by decide) g0 (by show (2 * (ds.length + 1) + 256) * 4 ≤ _; omega) om) J <| Ua J J <| Wn <| aN <| ⟨.sl 1 ((ds ++ [c]).map d32), ⟨_, rfl, hdd.snoc (by show c < 4294967296; omega), ?_, by simp; omega⟩, rH (n := 0) _ (.inr J) J (by simp) g0 (by show (0 : Nat) ≠ 2; decide) J (by decide) J hO dT⟩
   have hl : ds.length = us.length := by omega
   rw [eT, hi, List.take_of_length_le om, List.take_of_length_le om, hs]
  refine Wn <| aS J <| aF <| aL <| Rg 2 J <| Um J J <| Ua J J <| Wn <| Rg 1 J <| Ua J J <| Wn <| aB <| Rg 4 J <| Um J J <| Um J J <| aA (aZ J J) J <| aA (bR J J) J <| aX (fun h29 => ?_) (fun h29 => ?_)
  rotate_left
  ·refine Wn <| aT J <| aF <| Rg 1 J <| Ua J J <| Nk [0,1,5,6,7,8,22,23] J ?_
   have hxl : us.getD ds.length default < 4294967296 := bF hu om
   refine Rg 12 J <| Um J J <| Um J J <| aA (bS J J J J J om J) J <| aA (dH J J J) J <| Um J J <| Um J J <| aA (aJ J (jO (us.getD ds.length default) 0 c hxl (by decide) hc) (by simp)) J <| Um J J <| aA (dF J J) J <| aA (dF J J) J <| Ua J J <| Ua J J <| Nk [0,1,5,6,9,22,23] J <| aI (z := 5) J <| Um J J <| Um J J <| aA (cQ (cs := [_]) (rows := [[_]]) J J (by decide) J J J) J <| aY (oApM (f := d32) J J J J J (fun _ => rfl) (by decide) g0 (by show (2 * (ds.length + 1) + 256) * 4 ≤ _; omega) om) J <| Ua J J <| Wn <| aH <| aI (z := 2) J ?_
   refine aA (cI (((ds.length + 1 : Nat) : Int)) (aP J J om) om) J <| Um J J <| Wn <| aG <| ⟨⟨_, _, ds ++ [_]⟩, ⟨rfl, rfl, rfl, rfl, rfl, congrArg some (by simp), trivial⟩, ⟨g0, trivial⟩, ⟨by simp; omega, hdd.snoc (Nat.mod_lt _ (by decide)), om, pK hi J (dJ om).symm⟩, by simp; omega⟩
  refine Wn <| aS J <| Rg 5 J <| Um J J <| Um J J <| aA (bS J J J J J om J) J <| aA (dH J J J) J <| Ua J J <| Nk [0,1,5,6,7,8,22,23] J <| Rg 1 J <| Ua J J <| cK ?_
  have hxl : us.getD ds.length default < 4294967296 := bF hu om
  have hyl : ws.getD ds.length default < 4294967296 := bF hw om
  refine Rg 12 J <| Um J J <| Um J J <| aA (bS J J J J J om J) J <| aA (dH J J J) J <| Um J J <| Um J J <| aA (aJ J (jO (us.getD ds.length default) (ws.getD ds.length default) c hxl hyl hc) (by simp)) J <| Um J J <| aA (dF J J) J <| aA (dF J J) J <| Ua J J <| Ua J J <| Nk [0,1,5,6,9,22,23] J <| aI (z := 5) J <| Um J J <| Um J J <| aA (cQ (cs := [_]) (rows := [[_]]) J J (by decide) J J J) J <| aY (oApM (f := d32) J J J J J (fun _ => rfl) (by decide) g0 (by show (2 * (ds.length + 1) + 256) * 4 ≤ _; omega) om) J <| Ua J J <| Wn <| aH <| aI (z := 2) J ?_
  refine aA (cI (((ds.length + 1 : Nat) : Int)) (aP J J om) om) J <| Um J J <| Wn <| aG <| ⟨⟨_, _, ds ++ [_]⟩, ⟨rfl, rfl, rfl, rfl, rfl, congrArg some (by simp), trivial⟩, ⟨g0, trivial⟩, ⟨by simp; omega, hdd.snoc (Nat.mod_lt _ (by decide)), om, pK hi J J⟩, by simp; omega⟩
 refine Rg 1 J <| Ua J J <| Wn <| aB <| Rg 5 J <| Um J J <| aA (aZ J J) J <| Um J J <| aA (aZ J J) J <| aA (bR J J) J <| aX (fun h14 => ?_) (fun h14 => ?_)
 rotate_left
 ·refine Wn <| aT J <| aF <| Ck [0,1] J ?_
  exact J3 _ _ xs ys hx hy om om J _
 refine Wn <| aS J <| Rg 4 J <| Um J J <| Um J J <| Ua J J <| Ua J J <| Nk [0,1] J ?_
 exact J3 _ _ ys xs hy hx om om om _
theorem lW (k1 k2 : Nat) (xs ys : List Nat) (hx : Dg B32 xs) (hy : Dg B32 ys) (lx : xs.length < 1099511627776) (hle : ys.length ≤ xs.length) (hv : val B32 ys ≤ val B32 xs) : ∃ r, Run Tryz.prog T E0 (.call 142 [.sl k1 (xs.map d32), .sl k2 (ys.map d32)] r) ∧ ∃ ds, r = .sl 1 (ds.map d32) ∧ Dg B32 ds ∧ val B32 ds = val B32 xs - val B32 ys ∧ ds.length = xs.length := by
 refine eP Tryz.func142 J J (dL J) <| Rg 1 J <| Ua J J <| Wn <| Rg 4 J <| Um J J <| aA (aZ J J) J <| aY (oMk (a := 0) (b := xs.length) J J J J J J (by decide) om (by show 4 * xs.length ≤ _; omega) om) J <| Ua J J <| Wn <| Rg 1 J <| Ua J J <| Wn <| aB <| Rg 3 J <| Um J J <| aA (aZ J J) J <| Um J J <| Wn <| aL <| bB (α := Nat × Nat × (List Nat)) (fun ⟨c, q, ds⟩ => [(0, .sl k1 (xs.map d32)), (1, .sl k2 (ys.map d32)), (5, .ref q 1 0 ds.length), (6, .v (.int .u32 (c : Int))), (14, .v (.int .i64 (xs.length : Int))), (15, .v (.int .i64 (ds.length : Int)))]) (fun ⟨c, q, ds⟩ => [(q, { cells := (ds.map d32).flatten, sz := 1, elem := 160, st := 0 })]) (fun ⟨c, q, ds⟩ n => ds.length ≤ xs.length ∧ Dg B32 ds ∧ c ≤ 1 ∧ val B32 (xs.take ds.length) + B32 ^ ds.length * c = val B32 ds + val B32 (ys.take ds.length)) (fun ⟨c, q, ds⟩ => xs.length - ds.length) (0, 0 + 1 + 2, []) ⟨J, J, J, J, J, J, trivial⟩ ⟨g0, trivial⟩ ⟨Nat.zero_le _, by intro d hd; simp at hd, om, by simp [val]⟩ ?_
 rintro ⟨c, q, ds⟩ n hF
 change WC _ _ _ _ _ (_ :: _) (_ :: _) n _
 obtain ⟨hdl, hdd, hc, hi⟩ := hF
 refine Rg 1 J <| aA (bR J J) J <| aX (fun h16 => ?_) (fun h16 => ?_)
 rotate_left
 ·refine Wn <| aT J <| aV <| aR <| aO J <| Rg 2 J <| Um J J <| Ua J J <| Wn <| aN <| ⟨.sl 1 (ds.map d32), ⟨_, rfl, hdd, ?_, om⟩, rH (n := 0) _ (.inr J) J (by simp) g0 (by show (0 : Nat) ≠ 2; decide) J (by decide) J hO dT⟩
  have hl : ds.length = xs.length := by omega
  rw [List.take_of_length_le om, List.take_of_length_le om] at hi
  have hlt := dQ (B := B32) (by decide) hdd
  rcases (show c = 0 ∨ c = 1 by omega) with rfl | rfl
  ·omega
  ·omega
 refine Wn <| aS J <| aF <| aL <| Rg 2 J <| Um J J <| Ua J J <| Wn <| Rg 1 J <| Ua J J <| Wn <| aB <| Rg 4 J <| Um J J <| Um J J <| aA (aZ J J) J <| aA (bR J J) J <| aX (fun h21 => ?_) (fun h21 => ?_)
 rotate_left
 ·refine Wn <| aT J <| aF <| Rg 1 J <| Ua J J <| Nk [0,1,5,6,7,8,14,15] J ?_
  have hxl : xs.getD ds.length default < 4294967296 := bF hx om
  refine Rg 12 J <| Um J J <| Um J J <| aA (bS J J J J J om J) J <| aA (dH J J J) J <| Um J J <| Um J J <| aA (aJ J (sub32_run (xs.getD ds.length default) 0 c hxl (by decide) hc) (by simp)) J <| Um J J <| aA (dF J J) J <| aA (dF J J) J <| Ua J J <| Ua J J <| Nk [0,1,5,6,9,14,15] J <| aI (z := 5) J <| Um J J <| Um J J <| aA (cQ (cs := [_]) (rows := [[_]]) J J (by decide) J J J) J <| aY (oApM (f := d32) J J J J J (fun _ => rfl) (by decide) g0 (by show (2 * (ds.length + 1) + 256) * 4 ≤ _; omega) om) J <| Ua J J <| Wn <| aH <| aI (z := 2) J ?_
  refine aA (cI (((ds.length + 1 : Nat) : Int)) (aP J J om) om) J <| Um J J <| Wn <| aG <| ⟨⟨_, _, ds ++ [_]⟩, ⟨rfl, rfl, rfl, rfl, rfl, congrArg some (by simp), trivial⟩, ⟨g0, trivial⟩, ⟨by simp; omega, hdd.snoc (Nat.mod_lt _ (by decide)), by split <;> omega, kP hi J (dJ om).symm (by show _ = _ + 4294967296 * _; split <;> omega)⟩, by simp; omega⟩
 refine Wn <| aS J <| Rg 5 J <| Um J J <| Um J J <| aA (bS J J J J J om J) J <| aA (dH J J J) J <| Ua J J <| Nk [0,1,5,6,7,8,14,15] J <| Rg 1 J <| Ua J J <| cK ?_
 have hxl : xs.getD ds.length default < 4294967296 := bF hx om
 have hyl : ys.getD ds.length default < 4294967296 := bF hy om
 refine Rg 12 J <| Um J J <| Um J J <| aA (bS J J J J J om J) J <| aA (dH J J J) J <| Um J J <| Um J J <| aA (aJ J (sub32_run (xs.getD ds.length default) (ys.getD ds.length default) c hxl hyl hc) (by simp)) J <| Um J J <| aA (dF J J) J <| aA (dF J J) J <| Ua J J <| Ua J J <| Nk [0,1,5,6,9,14,15] J <| aI (z := 5) J <| Um J J <| Um J J <| aA (cQ (cs := [_]) (rows := [[_]]) J J (by decide) J J J) J <| aY (oApM (f := d32) J J J J J (fun _ => rfl) (by decide) g0 (by show (2 * (ds.length + 1) + 256) * 4 ≤ _; omega) om) J <| Ua J J <| Wn <| aH <| aI (z := 2) J ?_
 refine aA (cI (((ds.length + 1 : Nat) : Int)) (aP J J om) om) J <| Um J J <| Wn <| aG <| ⟨⟨_, _, ds ++ [_]⟩, ⟨rfl, rfl, rfl, rfl, rfl, congrArg some (by simp), trivial⟩, ⟨g0, trivial⟩, ⟨by simp; omega, hdd.snoc (Nat.mod_lt _ (by decide)), by split <;> omega, kP hi J J (by show _ = _ + 4294967296 * _; split <;> omega)⟩, by simp; omega⟩
theorem fG (s : Int) (k : Nat) (ds : List Nat) (hs : s = 1 ∨ s = -1 ∨ s = 0 ∧ val B32 ds = 0) (hk : k = 1 ∨ k = 2) (hd : Dg B32 ds) (hl : ds.length < 4611686018427387904) : Run Tryz.prog T E0 (.call 134 [.v (.int .i64 s), .sl k (ds.map d32)] (lvI (s * val B32 ds))) := by
 have hkk : (if k = 0 then 0 else 1) = 1 := by rw [if_neg om]
 have htd := mI hd
 have hrun := lO k ds om hl
 rw [hkk] at hrun
 have htl : (trim ds).length ≤ ds.length := by
  unfold trim; simpa using (List.dropWhile_sublist (· == 0) (l := ds.reverse)).length_le
 generalize hes : trim ds = es at *
 refine bI Tryz.func134 J J (dL J) <| Rg 1 J <| aY (dU J) J <| Wn <| Rg 3 J <| Um J J <| aA (aJ J (hrun) (by simp)) J <| Ua J J <| Wn <| aB <| Rg 3 J <| Um J J <| aA (aZ J J) J <| aA (oLeq J J) J <| aX (fun h12 => ?_) (fun h12 => ?_)
 rotate_left
 ·refine Wn <| aT J <| aF <| Rg 4 J <| Um J J <| Um J J <| aA (eW (cs := [_, _]) J J J J J) J <| aU (cA (cs' := [_, _]) J J J J J J J J) <| Wn <| aN <| post (n := 0) (.inr J) J ?_ (by simp)
  have hb := val_big hd (by rw [hes]; omega)
  rw [lvI_made hd (by have : val B32 ds = val 4294967296 ds := rfl; omega) hb, hes]; rfl
 refine Wn <| aS J <| aB <| Rg 1 J <| Ua J J <| Wn <| aB <| aB <| Rg 3 J <| Um J J <| aA (aZ J J) J <| Um J J <| Wn <| aL <| bB (α := Nat × Nat) (fun ⟨i, m⟩ => [(0, .v (.int .i64 s)), (1, .sl 1 (es.map d32)), (4, .ptr 0 0), (5, .v (.int .u64 (m : Int))), (13, .sl 1 (es.map d32)), (14, .v (.int .i64 (es.length : Int))), (15, .v (.int .i64 (i : Int)))]) (fun ⟨i, m⟩ => [(0, { cells := [.v (.int .i64 0), .sl 0 []], sz := 2, elem := 100, st := 0 })]) (fun ⟨i, m⟩ n => i ≤ es.length ∧ m = val B32 (es.take i)) (fun ⟨i, m⟩ => es.length - i) (0, 0) ⟨J, J, J, J, J, J, J, trivial⟩ ⟨J, trivial⟩ ⟨Nat.zero_le _, by simp [val]⟩ ?_
 rintro ⟨i, m⟩ n hF
 change WC _ _ _ _ _ (_ :: _) (_ :: _) n _
 obtain ⟨hi, hm⟩ := hF
 refine Rg 1 J <| aA (bR J J) J <| aX (fun h16 => ?_) (fun h16 => ?_)
 ·refine Wn <| aS J <| aF <| aL <| Rg 5 J <| Um J J <| aA (bS J J J J J om J) J <| aA (dH J J J) J <| Ua J J <| Ua J J <| cK ?_
  have hxl : es.getD i default < 4294967296 := bF htd om
  have hml : m < 4294967296 ^ i := by
   have := dQ (B := 4294967296) (by decide) (htd.take i)
   rw [List.length_take, Nat.min_eq_left hi] at this
   rw [hm]; exact this
  refine aI (z := 8) J <| Um J J <| Um J J <| aA (cI (((es.getD i default : Nat) : Int)) (cL J J J) (by rw [IntKind.wrap_u64]; omega)) J <| Um J J <| aA (cI (((32 * i : Nat) : Int)) (fI J J om) om) J <| aA (cI (((es.getD i default * 4294967296 ^ i : Nat) : Int)) (oShlU (s := 32 * i) J J om) (shl_dig om hxl)) J <| aA (fS (v := .int .u64 ((m + 4294967296 ^ i * es.getD i default : Nat) : Int)) J J (or_dig om hxl hml)) J <| Ua J J <| Wn <| aH <| Ck [0,1,4,5,13,14,15] J <| aI (z := 2) J <| aA (cI (((i + 1 : Nat) : Int)) (aP J J om) om) J <| Um J J <| Wn <| aG <| ⟨⟨i + 1, _⟩, ⟨J, J, J, J, J, J, J, trivial⟩, ⟨J, trivial⟩, ⟨om, ?_⟩, by show es.length - (i + 1) < es.length - i; omega⟩
  rw [cP, hm]
 refine Wn <| aT J <| aV <| aR <| aO J <| aB <| Rg 2 J <| Um J J <| aA (bR J J) J <| aX (fun h29 => ?_) (fun h29 => ?_)
 rotate_left
 ·refine Wn <| aT J <| aF <| Rg 4 J <| Um J J <| Um J J <| aA (eW (cs := [_, _]) J J J J J) J <| aU (cA (cs' := [_, _]) J J J J J J J J) <| Wn <| aN ?_
  have hE : m = val B32 ds := by
   rw [hm, List.take_of_length_le om, ← hes, gH]
  refine post (n := 0) (.inr J) J ?_ (by simp)
  rw [lvI_made hd om (by show 4611686018427387904 ≤ val B32 ds; omega), hes]; rfl
 refine Wn <| aS J <| aB <| Rg 6 J <| Um J J <| Um J J <| aA (cI ((m : Int)) (cL J J J) (by rw [IntWalk.i64_in _ om])) J <| aA (fI J J (by rcases hs with rfl | rfl | ⟨rfl, _⟩ <;> omega)) J <| aA (eW (cs := [_, _]) J J J J J) J <| aU (cA (cs' := [_, _]) J J J J J J J J) <| Nk [4] J <| bA ?_
 have hE : m = val B32 ds := by
  rw [hm, List.take_of_length_le om, ← hes, gH]
 refine post (n := 0) (.inr J) J ?_ (by simp)
 rw [jR (by unfold small; rw [← hE]; rcases hs with rfl | rfl | ⟨rfl, _⟩ <;> omega), ← hE]; rfl
end Go.Proofs.YtahljdjhhapngaaGreat
namespace Go.Proofs.YtahljdjhhapngaaGreat
open Go.Ab Go.RowKit
theorem ia0 {v : Int} (h : v.sign = 0) : v = 0 := Int.sign_eq_zero_iff_zero.1 h
theorem add_run (v w : Int) (hv : len32 v < 1099511627775) (hw : len32 w < 1099511627775) : Run Tryz.prog T E0 (.call 127 [lvI v, lvI w] (lvI (v + w))) := by
 have bv := pZ v
 have bw := pZ w
 have ev := eQ v
 have ew := eQ w
 have dv := gR (B := B32) (by decide) v.natAbs
 have dw := gR (B := B32) (by decide) w.natAbs
 have qv := kH (B := B32) (by decide) v.natAbs
 have qw := kH (B := B32) (by decide) w.natAbs
 have tv := dgs_tr (B := B32) (by decide) v.natAbs
 have tw := dgs_tr (B := B32) (by decide) w.natAbs
 have lv : (dgs B32 v.natAbs).length < 1099511627775 := hv
 have lw : (dgs B32 w.natAbs).length < 1099511627775 := hw
 refine bI Tryz.func127 J J (dL J) <| Rg 3 J <| aY (dY J J) J <| aY (dY J J) J <| aY (dU J) J <| Wn <| aB <| Rg 8 J <| aA (bD J J J J J) J <| aA (aM J J J J J) J <| aA (mR J J) J <| eX (fun h11 => ?_) (fun h11 => ?_)
 rotate_left
 ·refine Um J J <| K1 J J <| K1 J J <| K1 J J <| aA (bP J J) J <| Wn <| aT J <| aF <| Rg 7 J <| aA (aM (l := .agg [_, _]) J J J J J) J <| aA (aJ J (fD _) (by simp)) J <| Um J J <| aA (dF J J) J <| aA (dF J J) J <| Ua J J <| Ua J J <| Nk [2,3,4,5,6] J <| Rg 7 J <| aA (aM (l := .agg [_, _]) J J J J J) J <| aA (aJ J (fD _) (by simp)) J <| Um J J <| aA (dF J J) J <| aA (dF J J) J ?_
  refine Ua J J <| Ua J J <| Wn <| aL <| Rg 3 J <| Um J J <| aA (eY J J) J <| aX (fun h35 => ?_) (fun h35 => ?_)
  ·refine Ua J J <| Nk [2,3,4,5,6,7,8,33] J <| bW J <| Rg 2 J <| aA (aM (l := .agg [_, _]) J J J J J) J <| aU (cA (cs' := [_, _]) J J J J J J J J) <| Wn <| aN <| aW <| post (n := 0) (.inr J) J ?_ (by simp)
   rw [ia0 h35, Int.zero_add]; rfl
  refine Ua J J <| Nk [2,3,4,5,6,7,8,33] J <| bZ J <| Rg 3 J <| Um J J <| aA (eY J J) J <| aX (fun h39 => ?_) (fun h39 => ?_)
  ·refine Ua J J <| Wn <| bW J <| Rg 2 J <| aA (aM (l := .agg [_, _]) J J J J J) J <| aU (cA (cs' := [_, _]) J J J J J J J J) <| Wn <| aN <| aW <| post (n := 0) (.inr J) J ?_ (by simp)
   rw [ia0 h39, Int.add_zero]; rfl
  refine Ua J J <| Wn <| bZ J <| Rg 4 J <| Um J J <| Um J J <| aA (eY J J) J <| aX (fun h44 => ?_) (fun h44 => ?_)
  ·refine Ua J J <| Nk [4,5,6,7,8,41] J <| bW J ?_
   have hsv : v.sign = 1 ∨ v.sign = -1 := by rcases Int.sign_trichotomy v with h | h | h <;> omega
   obtain ⟨r, hr, ds, rfl, hdd, hvl, hln⟩ := plus_run 1 1 _ _ qv qw om om
   refine Rg 6 J <| Um J J <| Um J J <| Um J J <| aA (aJ J (hr) (by simp)) J <| aA (aJ J (fG v.sign 1 ds om (.inl J) hdd om) (by simp)) J <| aU (cA (cs' := [_, _]) J J J J J J J J) <| Wn <| aN <| aW <| post (n := 0) (.inr J) J ?_ (by simp)
   have : v.sign * (val B32 ds : Int) = v + w := by
    rw [hvl, dv, dw]; rcases hsv with h | h <;> rw [h] at ev h44 ⊢ <;> rw [← h44] at ew <;> omega
   rw [this]; rfl
  refine Ua J J <| Nk [4,5,6,7,8,41] J <| bZ J <| Rg 5 J <| Um J J <| Um J J <| aA (aJ J (lA 1 1 _ _ qv qw tv tw om om) (by simp)) J <| aA (iG J J) J <| aX (fun h54 => ?_) (fun h54 => ?_)
  ·refine Ua J J <| Wn <| bW J ?_
   have hsv : v.sign = 1 ∨ v.sign = -1 := by rcases Int.sign_trichotomy v with h | h | h <;> omega
   have hge : val B32 (dgs B32 w.natAbs) ≤ val B32 (dgs B32 v.natAbs) := by
    rcases Nat.lt_or_ge (val B32 (dgs B32 v.natAbs)) (val B32 (dgs B32 w.natAbs)) with h | h
    ·rw [Int.sign_eq_neg_one_of_neg om] at h54; omega
    ·exact h
   have hll : (dgs B32 w.natAbs).length ≤ (dgs B32 v.natAbs).length := by
    rcases Nat.lt_or_ge (dgs B32 v.natAbs).length (dgs B32 w.natAbs).length with h | h
    ·have := dR (by decide) qv tw h; omega
    ·exact h
   obtain ⟨r, hr, ds, rfl, hdd, hvl, hln⟩ := lW 1 1 _ _ qv qw om hll hge
   refine Rg 6 J <| Um J J <| Um J J <| Um J J <| aA (aJ J (hr) (by simp)) J <| aA (aJ J (fG v.sign 1 ds om (.inl J) hdd om) (by simp)) J <| aU (cA (cs' := [_, _]) J J J J J J J J) <| Nk [4] J <| aN <| aW <| post (n := 0) (.inr J) J ?_ (by simp)
   have : v.sign * (val B32 ds : Int) = v + w := by
    rw [hvl, dv, dw] at *; rcases hsv with h | h <;> rw [h] at ev h44 ⊢ <;> rcases (show w.sign = 1 ∨ w.sign = -1 by rcases Int.sign_trichotomy w with h | h | h <;> omega) with k | k <;> rw [k] at ew h44 <;> omega
   rw [this]; rfl
  refine Ua J J <| Wn <| bZ J <| cV <| aH ?_
  have hsv : w.sign = 1 ∨ w.sign = -1 := by rcases Int.sign_trichotomy w with h | h | h <;> omega
  have hge : val B32 (dgs B32 v.natAbs) ≤ val B32 (dgs B32 w.natAbs) := by
   rcases Nat.lt_or_ge (val B32 (dgs B32 w.natAbs)) (val B32 (dgs B32 v.natAbs)) with h | h
   ·rw [Int.sign_eq_one_of_pos om] at h54; omega
   ·exact h
  have hll : (dgs B32 v.natAbs).length ≤ (dgs B32 w.natAbs).length := by
   rcases Nat.lt_or_ge (dgs B32 w.natAbs).length (dgs B32 v.natAbs).length with h | h
   ·have := dR (by decide) qw tv h; omega
   ·exact h
  obtain ⟨r, hr, ds, rfl, hdd, hvl, hln⟩ := lW 1 1 _ _ qw qv om hll hge
  refine Rg 6 J <| Um J J <| Um J J <| Um J J <| aA (aJ J (hr) (by simp)) J <| aA (aJ J (fG w.sign 1 ds om (.inl J) hdd om) (by simp)) J <| aU (cA (cs' := [_, _]) J J J J J J J J) <| Nk [4] J <| aN <| post (n := 0) (.inr J) J ?_ (by simp)
  have : w.sign * (val B32 ds : Int) = v + w := by
   rw [hvl, dv, dw] at *; rcases hsv with h | h <;> rw [h] at ew h44 ⊢ <;> rcases (show v.sign = 1 ∨ v.sign = -1 by rcases Int.sign_trichotomy v with h | h | h <;> omega) with k | k <;> rw [k] at ev h44 <;> omega
  rw [this]; rfl
 refine Um J J <| aK J (bD J J J J J) J <| aK J (aM J J J J J) J <| aK J (mR J J) J <| eX (fun h15 => ?_) (fun h15 => ?_)
 ·refine aA (bL J J) J <| Wn <| aS J <| aB <| Rg 7 J <| aA (bD J J J J J) J <| aA (aM J J J J J) J <| aA (bD J J J J J) J <| aA (aM J J J J J) J <| aA (aP J J om) J <| aA (aJ J (pJ _ om) (by simp)) J <| aU (cA (cs' := [_, _]) J J J J J J J J) <| Nk [4] J <| bA <| post (n := 0) (.inr J) J ?_ (by simp)
  rw [dM (qA.1 h11), dM (qA.1 h15)]; rfl
 refine aA (bL J J) J <| Wn <| aT J <| aF <| Rg 7 J <| aA (aM (l := .agg [_, _]) J J J J J) J <| aA (aJ J (fD _) (by simp)) J <| Um J J <| aA (dF J J) J <| aA (dF J J) J <| Ua J J <| Ua J J <| Nk [2,3,4,5,6] J <| Rg 7 J <| aA (aM (l := .agg [_, _]) J J J J J) J <| aA (aJ J (fD _) (by simp)) J <| Um J J <| aA (dF J J) J <| aA (dF J J) J <| Ua J J <| Ua J J <| Wn <| aL ?_
 refine Rg 3 J <| Um J J <| aA (eY J J) J <| aX (fun h35 => ?_) (fun h35 => ?_)
 ·refine Ua J J <| Nk [2,3,4,5,6,7,8,33] J <| bW J <| Rg 2 J <| aA (aM (l := .agg [_, _]) J J J J J) J <| aU (cA (cs' := [_, _]) J J J J J J J J) <| Wn <| aN <| aW <| post (n := 0) (.inr J) J ?_ (by simp)
  rw [ia0 h35, Int.zero_add]; rfl
 refine Ua J J <| Nk [2,3,4,5,6,7,8,33] J <| bZ J <| Rg 3 J <| Um J J <| aA (eY J J) J <| aX (fun h39 => ?_) (fun h39 => ?_)
 ·refine Ua J J <| Wn <| bW J <| Rg 2 J <| aA (aM (l := .agg [_, _]) J J J J J) J <| aU (cA (cs' := [_, _]) J J J J J J J J) <| Wn <| aN <| aW <| post (n := 0) (.inr J) J ?_ (by simp)
  rw [ia0 h39, Int.add_zero]; rfl
 refine Ua J J <| Wn <| bZ J <| Rg 4 J <| Um J J <| Um J J <| aA (eY J J) J <| aX (fun h44 => ?_) (fun h44 => ?_)
 ·refine Ua J J <| Nk [4,5,6,7,8,41] J <| bW J ?_
  have hsv : v.sign = 1 ∨ v.sign = -1 := by rcases Int.sign_trichotomy v with h | h | h <;> omega
  obtain ⟨r, hr, ds, rfl, hdd, hvl, hln⟩ := plus_run 1 1 _ _ qv qw om om
  refine Rg 6 J <| Um J J <| Um J J <| Um J J <| aA (aJ J (hr) (by simp)) J <| aA (aJ J (fG v.sign 1 ds om (.inl J) hdd om) (by simp)) J <| aU (cA (cs' := [_, _]) J J J J J J J J) <| Wn <| aN <| aW <| post (n := 0) (.inr J) J ?_ (by simp)
  have : v.sign * (val B32 ds : Int) = v + w := by
   rw [hvl, dv, dw]; rcases hsv with h | h <;> rw [h] at ev h44 ⊢ <;> rw [← h44] at ew <;> omega
  rw [this]; rfl
 refine Ua J J <| Nk [4,5,6,7,8,41] J <| bZ J <| Rg 5 J <| Um J J <| Um J J <| aA (aJ J (lA 1 1 _ _ qv qw tv tw om om) (by simp)) J <| aA (iG J J) J <| aX (fun h54 => ?_) (fun h54 => ?_)
 ·refine Ua J J <| Wn <| bW J ?_
  have hsv : v.sign = 1 ∨ v.sign = -1 := by rcases Int.sign_trichotomy v with h | h | h <;> omega
  have hge : val B32 (dgs B32 w.natAbs) ≤ val B32 (dgs B32 v.natAbs) := by
   rcases Nat.lt_or_ge (val B32 (dgs B32 v.natAbs)) (val B32 (dgs B32 w.natAbs)) with h | h
   ·rw [Int.sign_eq_neg_one_of_neg om] at h54; omega
   ·exact h
  have hll : (dgs B32 w.natAbs).length ≤ (dgs B32 v.natAbs).length := by
   rcases Nat.lt_or_ge (dgs B32 v.natAbs).length (dgs B32 w.natAbs).length with h | h
   ·have := dR (by decide) qv tw h; omega
   ·exact h
  obtain ⟨r, hr, ds, rfl, hdd, hvl, hln⟩ := lW 1 1 _ _ qv qw om hll hge
  refine Rg 6 J <| Um J J <| Um J J <| Um J J <| aA (aJ J (hr) (by simp)) J <| aA (aJ J (fG v.sign 1 ds om (.inl J) hdd om) (by simp)) J <| aU (cA (cs' := [_, _]) J J J J J J J J) <| Nk [4] J <| aN <| aW <| post (n := 0) (.inr J) J ?_ (by simp)
  have : v.sign * (val B32 ds : Int) = v + w := by
   rw [hvl, dv, dw] at *; rcases hsv with h | h <;> rw [h] at ev h44 ⊢ <;> rcases (show w.sign = 1 ∨ w.sign = -1 by rcases Int.sign_trichotomy w with h | h | h <;> omega) with k | k <;> rw [k] at ew h44 <;> omega
  rw [this]; rfl
 refine Ua J J <| Wn <| bZ J <| cV <| aH ?_
 have hsv : w.sign = 1 ∨ w.sign = -1 := by rcases Int.sign_trichotomy w with h | h | h <;> omega
 have hge : val B32 (dgs B32 v.natAbs) ≤ val B32 (dgs B32 w.natAbs) := by
  rcases Nat.lt_or_ge (val B32 (dgs B32 w.natAbs)) (val B32 (dgs B32 v.natAbs)) with h | h
  ·rw [Int.sign_eq_one_of_pos om] at h54; omega
  ·exact h
 have hll : (dgs B32 v.natAbs).length ≤ (dgs B32 w.natAbs).length := by
  rcases Nat.lt_or_ge (dgs B32 w.natAbs).length (dgs B32 v.natAbs).length with h | h
  ·have := dR (by decide) qw tv h; omega
  ·exact h
 obtain ⟨r, hr, ds, rfl, hdd, hvl, hln⟩ := lW 1 1 _ _ qw qv om hll hge
 refine Rg 6 J <| Um J J <| Um J J <| Um J J <| aA (aJ J (hr) (by simp)) J <| aA (aJ J (fG w.sign 1 ds om (.inl J) hdd om) (by simp)) J <| aU (cA (cs' := [_, _]) J J J J J J J J) <| Nk [4] J <| aN <| post (n := 0) (.inr J) J ?_ (by simp)
 have : w.sign * (val B32 ds : Int) = v + w := by
  rw [hvl, dv, dw] at *; rcases hsv with h | h <;> rw [h] at ew h44 ⊢ <;> rcases (show v.sign = 1 ∨ v.sign = -1 by rcases Int.sign_trichotomy v with h | h | h <;> omega) with k | k <;> rw [k] at ev h44 <;> omega
 rw [this]; rfl
end Go.Proofs.YtahljdjhhapngaaGreat
namespace Go.Proofs.YtahljdjhhapngaaGreat
open Go.Ab Go.RowKit
theorem mul64_run (x y : Nat) (hx : x < 18446744073709551616) (hy : y < 18446744073709551616) : Run Tryz.prog T E0 (.call 132 [.v (.int .u64 (x : Int)), .v (.int .u64 (y : Int))] (.tup [.v (.int .u64 ((x * y / 18446744073709551616 : Nat) : Int)), .v (.int .u64 ((x * y % 18446744073709551616 : Nat) : Int))])) := by
 obtain ⟨p00, h00⟩ : ∃ p, p = (x % 4294967296) * (y % 4294967296) := ⟨_, rfl⟩
 obtain ⟨p10, h10⟩ : ∃ p, p = (x / 4294967296) * (y % 4294967296) := ⟨_, rfl⟩
 obtain ⟨p01, h01⟩ : ∃ p, p = (x % 4294967296) * (y / 4294967296) := ⟨_, rfl⟩
 obtain ⟨p11, h11⟩ : ∃ p, p = (x / 4294967296) * (y / 4294967296) := ⟨_, rfl⟩
 have b00 := iC (a := x % 4294967296) (b := y % 4294967296) om om
 have b10 := iC (a := x / 4294967296) (b := y % 4294967296) om om
 have b01 := iC (a := x % 4294967296) (b := y / 4294967296) om om
 have b11 := iC (a := x / 4294967296) (b := y / 4294967296) om om
 have hxy := mul_words h00 h10 h01 h11
 rw [← h00] at b00
 rw [← h10] at b10
 rw [← h01] at b01
 rw [← h11] at b11
 refine bI Tryz.func132 J J (dL J) <| Rg 2 J <| Ua J J <| Ua J J <| Wn <| Rg 3 J <| Um J J <| aA (fS (v := .int .u64 ((x % 4294967296 : Nat) : Int)) J J (mask32 hx)) J <| Ua J J <| Wn <| Rg 3 J <| Um J J <| aA (cI (((x / 4294967296 : Nat) : Int)) (eS (s := 32) J J om) om) J <| Ua J J <| Wn <| Rg 3 J <| Um J J <| aA (fS (v := .int .u64 ((y % 4294967296 : Nat) : Int)) J J (mask32 hy)) J <| Ua J J <| Wn <| Rg 3 J <| Um J J <| aA (cI (((y / 4294967296 : Nat) : Int)) (eS (s := 32) J J om) om) J <| Ua J J ?_
 refine Nk [0,1,6,7,8,9] J <| Rg 4 J <| Um J J <| Um J J <| aA (cI ((p00 : Int)) (mQ J J) (by rw [← Int.natCast_mul, ← h00]; omega)) J <| Ua J J <| Wn <| Rg 7 J <| Um J J <| Um J J <| aA (cI ((p10 : Int)) (mQ J J) (by rw [← Int.natCast_mul, ← h10]; omega)) J <| Um J J <| aA (cI (((p00 / 4294967296 : Nat) : Int)) (eS (s := 32) J J om) om) J <| aA (cI (((p10 + p00 / 4294967296 : Nat) : Int)) (jS J J) om) J <| Ua J J <| Nk [0,1,6,7,9,11] J <| Rg 3 J <| Um J J <| aA (fS (v := .int .u64 (((p10 + p00 / 4294967296) % 4294967296 : Nat) : Int)) J J (mask32 om)) J <| Ua J J <| Wn <| Rg 3 J ?_
 refine Um J J <| aA (cI ((((p10 + p00 / 4294967296) / 4294967296 : Nat) : Int)) (eS (s := 32) J J om) om) J <| Ua J J <| Wn <| Rg 6 J <| Um J J <| Um J J <| Um J J <| aA (cI ((p01 : Int)) (mQ J J) (by rw [← Int.natCast_mul, ← h01]; omega)) J <| aA (cI ((((p10 + p00 / 4294967296) % 4294967296 + p01 : Nat) : Int)) (jS J J) om) J <| Ua J J <| Nk [0,1,7,9,12,13] J <| Rg 9 J <| Um J J <| Um J J <| aA (cI ((p11 : Int)) (mQ J J) (by rw [← Int.natCast_mul, ← h11]; omega)) J <| Um J J <| aA (cI (((p11 + (p10 + p00 / 4294967296) / 4294967296 : Nat) : Int)) (jS J J) om) J <| Um J J <| aA (cI (((((p10 + p00 / 4294967296) % 4294967296 + p01) / 4294967296 : Nat) : Int)) (eS (s := 32) J J om) om) J <| aA (cI (((x * y / 18446744073709551616 : Nat) : Int)) (jS J J) (by rw [hxy]; omega)) J <| Ua J J <| cK ?_
 refine Ck [0,1,4] J <| Rg 4 J <| Um J J <| Um J J <| aA (cI (((x * y % 18446744073709551616 : Nat) : Int)) (mQ J J) (by rw [← Int.natCast_mul]; rfl)) J <| Ua J J <| Wn <| aN ?_
 exact post (n := 0) (.inr J) J J (by simp)
theorem fR (v w : Int) (hv : len32 v < 549755813888) (hw : len32 w < 549755813888) : Run Tryz.prog T E0 (.call 118 [lvI v, lvI w] (lvI (v * w))) := by
 have bv := pZ v
 have bw := pZ w
 have ev := eQ v
 have ew := eQ w
 have evw : v * w = v.sign * w.sign * ((v.natAbs * w.natAbs : Nat) : Int) := by
  rw [Int.natCast_mul]; grind
 obtain ⟨σ, hσ⟩ : ∃ σ, σ = v.sign * w.sign := ⟨_, rfl⟩
 have hs3 : σ = 1 ∨ σ = -1 ∨ σ = 0 ∧ v.natAbs * w.natAbs = 0 := by
  rcases Int.sign_trichotomy v with h | h | h <;> rcases Int.sign_trichotomy w with k | k | k <;> rw [h, k] at hσ <;> simp at hσ <;> first | exact .inl hσ | exact .inr (.inl hσ) | skip
  all_goals (refine .inr (.inr ⟨hσ, ?_⟩); first | (rw [ia0 h]; simp; done) | (rw [ia0 k]; simp))
 rw [← hσ] at evw
 obtain ⟨xs, hxs⟩ : ∃ xs, xs = dgs B32 v.natAbs := ⟨_, rfl⟩
 obtain ⟨ys, hys⟩ : ∃ ys, ys = dgs B32 w.natAbs := ⟨_, rfl⟩
 have dv : val B32 xs = v.natAbs := by rw [hxs]; exact gR (by decide) _
 have dw : val B32 ys = w.natAbs := by rw [hys]; exact gR (by decide) _
 have qv : Dg B32 xs := by rw [hxs]; exact kH (by decide) _
 have qw : Dg B32 ys := by rw [hys]; exact kH (by decide) _
 have lv : xs.length < 549755813888 := by rw [hxs]; exact hv
 have lw : ys.length < 549755813888 := by rw [hys]; exact hw
 refine bI Tryz.func118 J J (dL J) ?_
 have J5 : ∀  (n : Nat) (hn : 3 ≤ n), WC Tryz.prog T E0 Tryz.f118.ntmps (codeR (codeR (codeOf Tryz.f118))) [(2, .ptr 0 0), (3, .ptr 1 0), (4, .ptr 2 0)] [(2, { cells := [.v (.int .i64 0), .sl 0 []], sz := 2, elem := 100, st := 0 }), (1, { cells := (lvI w).cells, sz := (lvI w).cells.length, elem := 100, st := 0 }), (0, { cells := (lvI v).cells, sz := (lvI v).cells.length, elem := 100, st := 0 })] n (Post T Tryz.f118.results.toList (lvI (v * w))) := by
  intro  n hn
  refine Rg 7 J <| aA (aM (l := .agg [_, _]) J J J J J) J <| aA (aJ J ((hxs ▸ fD v)) (by simp)) J <| Um J J <| aA (dF J J) J <| aA (dF J J) J <| Ua J J <| Ua J J <| Wn <| Rg 7 J <| aA (aM (l := .agg [_, _]) J J J J J) J <| aA (aJ J ((hys ▸ fD w)) (by simp)) J <| Um J J <| aA (dF J J) J <| aA (dF J J) J <| Ua J J <| Ua J J <| Nk [4,7,8,9,10] J <| Rg 7 J <| Um J J <| aA (aZ J J) J <| Um J J <| aA (aZ J J) J ?_
  refine aA (aP J J om) J <| aY (oMk (a := xs.length + ys.length) (b := xs.length + ys.length) J J J J om om (by decide) om (by show 4 * (xs.length + ys.length) ≤ _; omega) om) J <| Ua J J <| Wn <| aB <| Rg 3 J <| Um J J <| aA (aZ J J) J <| Um J J <| Nk [4,7,9,10,11,74,75,76] J <| aL <| bB (α := Nat × Nat × (List Nat)) (fun ⟨i, q, us⟩ => [(4, .ptr 2 0), (7, .v (.int .i64 v.sign)), (9, .v (.int .i64 w.sign)), (10, .sl 1 (ys.map d32)), (11, .ref q 1 0 us.length), (74, .sl 1 (xs.map d32)), (75, .v (.int .i64 (xs.length : Int))), (76, .v (.int .i64 (i : Int)))]) (fun ⟨i, q, us⟩ => [(q, { cells := (us.map d32).flatten, sz := 1, elem := 160, st := 0 }), (2, { cells := [.v (.int .i64 0), .sl 0 []], sz := 2, elem := 100, st := 0 })]) (fun ⟨i, q, us⟩ n => i ≤ xs.length ∧ us.length = xs.length + ys.length ∧ Dg B32 us ∧ val B32 us = val B32 (xs.take i) * val B32 ys ∧ (∀ j, i + ys.length ≤ j → us.getD j default = 0) ∧ 2 < q) (fun ⟨i, q, us⟩ => xs.length - i) (0, n + 7 + 7 + 5, List.replicate (xs.length + ys.length) 0) ⟨rfl, rfl, rfl, rfl, congrArg some (by rw [List.length_replicate]; rfl), rfl, rfl, rfl, trivial⟩ ⟨g0.trans (by rw [List.map_replicate]; rfl), g1 om J, trivial⟩ ⟨Nat.zero_le _, by simp, by intro d hd; simp at hd; rw [hd.2]; decide, by rw [mL]; simp [val], by intro j _; exact iR _ _, om⟩ ?_
  rintro ⟨i, q, us⟩ n hF
  change WC _ _ _ _ _ (_ :: _) (_ :: _) n _
  obtain ⟨hi, hul, hud, huv, huz, hq⟩ := hF
  refine Rg 1 J <| aA (bR J J) J <| aX (fun h77 => ?_) (fun h77 => ?_)
  rotate_left
  ·refine Wn <| aT J <| aV <| aR <| aO J ?_
   have hE : val B32 us = v.natAbs * w.natAbs := by
    rw [huv, List.take_of_length_le om, dv, dw]
   refine Rg 6 J <| Um J J <| Um J J <| aA (cI σ (fI J J (by rw [← hσ]; omega)) hσ.symm) J <| Um J J <| aY (iY [.v (.int .i64 σ), .sl 1 (us.map d32)] [(q, { cells := (us.map d32).flatten, sz := 1, elem := 160, st := 1 })] J (fG σ 1 us (by rw [hE]; exact hs3) (.inl J) hud om) (.data (by simp) (.own _ (by simp) g0 (by show (0 : Nat) ≠ 2; decide) J (by decide) (by simp [keys]) J hO dT .nil)) (by intro p hp; simp at hp; subst hp; exact ⟨_, g0, by show (0 : Nat) ≠ 2; decide, rfl⟩)) J <| aU (cA (cs' := [_, _]) J J J (g1 om (g1 om J)) J J J J) <| Wn <| aN <| post (n := 0) (.inr J) J ?_ (by simp)
   rw [evw, ← hE]; rfl
  refine Wn <| aS J <| aF <| aL <| Rg 5 J <| Um J J <| aA (bS J J J J J om J) J <| aA (dH J J J) J <| Ua J J <| Ua J J <| Wn <| Rg 1 J <| Ua J J <| Nk [4,7,9,10,11,12,13,14,74,75,76] J <| aB <| Rg 3 J <| Um J J <| aA (aZ J J) J <| Um J J <| Wn <| aL <| bB (α := Nat × Nat × (List Nat)) (fun ⟨k, c, us1⟩ => [(4, .ptr 2 0), (7, .v (.int .i64 v.sign)), (9, .v (.int .i64 w.sign)), (10, .sl 1 (ys.map d32)), (11, .ref q 1 0 us1.length), (12, .v (.int .i64 (i : Int))), (13, .v (.int .u32 (xs.getD i default : Int))), (14, .v (.int .u64 (c : Int))), (74, .sl 1 (xs.map d32)), (75, .v (.int .i64 (xs.length : Int))), (76, .v (.int .i64 (i : Int))), (81, .sl 1 (ys.map d32)), (82, .v (.int .i64 (ys.length : Int))), (83, .v (.int .i64 (k : Int)))]) (fun ⟨k, c, us1⟩ => [(q, { cells := (us1.map d32).flatten, sz := 1, elem := 160, st := 0 }), (2, { cells := [.v (.int .i64 0), .sl 0 []], sz := 2, elem := 100, st := 0 })]) (fun ⟨k, c, us1⟩ n => k ≤ ys.length ∧ us1.length = us.length ∧ Dg B32 us1 ∧ c < 4294967296 ∧ val B32 us1 + B32 ^ (i + k) * c = val B32 us + B32 ^ i * (xs.getD i default * val B32 (ys.take k)) ∧ (∀ j, i + k ≤ j → us1.getD j default = us.getD j default)) (fun ⟨k, c, us1⟩ => ys.length - k) (0, 0, us) ⟨J, J, J, J, J, J, J, J, J, J, J, J, J, J, trivial⟩ ⟨g0, g1 om J, trivial⟩ ⟨Nat.zero_le _, rfl, hud, by decide, by simp [val], fun _ _ => rfl⟩ ?_
  rintro ⟨k, c, us1⟩ n hG
  change WC _ _ _ _ _ (_ :: _) (_ :: _) n _
  obtain ⟨hk, hl1, hd1, hc1, hv1, hz1⟩ := hG
  refine Rg 1 J <| aA (bR J J) J <| aX (fun h84 => ?_) (fun h84 => ?_)
  rotate_left
  ·refine Nk [4,7,9,10,11,12,13,14,74,75,76,81,82,83,84] J <| aT J <| aV <| aR <| aO J <| Ck [4,7,9,10,11,12,14,74,75,76] J <| aI (z := 9) J <| Um J J <| Um J J <| Um J J <| aA (aZ J J) J <| aA (cI (((i + ys.length : Nat) : Int)) (aP J J om) om) J <| Um J J <| aA (cI ((c : Int)) (cL J J J) (by rw [IntKind.wrap_u32]; omega)) J <| aA (cH J J J J J om J) J <| aU (eE (f := d32) (us := us1) c J J J g0 (fun _ => rfl) J J om J) <| Wn <| aH <| Ck [4,7,9,10,11,74,75,76] J <| aI (z := 2) J <| aA (cI (((i + 1 : Nat) : Int)) (aP J J om) om) J <| Um J J <| cK ?_
   refine aG <| ⟨⟨i + 1, q, us1.set (i + ys.length) c⟩, ⟨rfl, rfl, rfl, rfl, congrArg some (by rw [List.length_set]), rfl, rfl, rfl, trivial⟩, ⟨g0, g1 om (g1 om J), trivial⟩, ⟨om, by rw [List.length_set]; omega, hd1.set _ hc1, ?_, ?_, hq⟩, by show xs.length - (i + 1) < xs.length - i; omega⟩
   ·have hk' : k = ys.length := by omega
    subst hk'
    have h1 := gI (B := B32) us1 (i + ys.length) c om
    rw [hz1 _ (Nat.le_refl _), huz _ (Nat.le_refl _), Nat.mul_zero, Nat.add_zero] at h1
    rw [h1, hv1, huv, cP, List.take_of_length_le (Nat.le_refl _), Nat.add_mul, Nat.mul_assoc]
   ·intro j hj
    rw [gA om, hz1 j om]; exact huz j om
  refine Nk [4,7,9,10,11,12,13,14,74,75,76,81,82,83,84] J <| aS J <| aF <| aL <| Rg 5 J <| Um J J <| aA (bS J J J J J om J) J <| aA (dH J J J) J <| Ua J J <| Ua J J <| Nk [4,7,9,10,11,12,13,14,15,16,74,75,76,81,82,83] J ?_
  have hp : xs.getD i default < 4294967296 := bF qv om
  have hqk : ys.getD k default < 4294967296 := bF qw om
  have ho : us1.getD (i + k) default < 4294967296 := bF hd1 om
  have hpq := iC hp hqk
  refine Rg 16 J <| Um J J <| Um J J <| aA (cI ((xs.getD i default : Int)) (cL J J J) (by rw [IntKind.wrap_u64]; omega)) J <| Um J J <| aA (cI ((ys.getD k default : Int)) (cL J J J) (by rw [IntKind.wrap_u64]; omega)) J <| aA (cI (((xs.getD i default * ys.getD k default : Nat) : Int)) (mQ J J) (by rw [← Int.natCast_mul]; omega)) J <| Um J J <| Um J J <| Um J J <| aA (cI (((i + k : Nat) : Int)) (aP J J om) om) J <| aA (cH J J J J J om J) J <| aA (eK (f := d32) (us := us1) (j := i + k) J J g0 (fun _ => rfl) J (by decide) om J) J <| aA (cI ((us1.getD (i + k) default : Int)) (cL J J J) (by rw [IntKind.wrap_u64]; omega)) J <| aA (cI (((xs.getD i default * ys.getD k default + us1.getD (i + k) default : Nat) : Int)) (jS J J) om) J <| aA (cI ((((c + (xs.getD i default * ys.getD k default + us1.getD (i + k) default)) : Nat) : Int)) (jS J J) om) J <| Ua J J <| Nk [4,7,9,10,11,12,13,14,15,74,75,76,81,82,83] J <| Rg 8 J <| Um J J <| Um J J <| Um J J <| aA (cI (((i + k : Nat) : Int)) (aP J J om) om) J ?_
  refine Um J J <| aA (cI ((((c + (xs.getD i default * ys.getD k default + us1.getD (i + k) default)) % 4294967296 : Nat) : Int)) (cL J J J) (by rw [IntKind.wrap_u32]; omega)) J <| aA (cH J J J J J om J) J <| aU (eE (f := d32) (us := us1) ((c + (xs.getD i default * ys.getD k default + us1.getD (i + k) default)) % 4294967296) J J J g0 (fun _ => rfl) J J om J) <| Nk [4,7,9,10,11,12,13,14,74,75,76,81,82,83] J <| aI (z := 3) J <| Um J J <| aA (cI ((((c + (xs.getD i default * ys.getD k default + us1.getD (i + k) default)) / 4294967296 : Nat) : Int)) (eS (s := 32) J J om) om) J <| Ua J J <| Wn <| aH <| Ck [4,7,9,10,11,12,13,14,74,75,76,81,82,83] J <| aI (z := 2) J <| aA (cI (((k + 1 : Nat) : Int)) (aP J J om) om) J <| Um J J <| Wn <| aG <| ⟨⟨k + 1, (c + (xs.getD i default * ys.getD k default + us1.getD (i + k) default)) / 4294967296, us1.set (i + k) ((c + (xs.getD i default * ys.getD k default + us1.getD (i + k) default)) % 4294967296)⟩, ⟨rfl, rfl, rfl, rfl, congrArg some (by rw [List.length_set]), rfl, rfl, rfl, rfl, rfl, rfl, rfl, rfl, rfl, trivial⟩, ⟨g0, g1 om (g1 om J), trivial⟩, ⟨om, by rw [List.length_set]; exact hl1, hd1.set _ (Nat.mod_lt _ (by decide)), om, mul_step hv1 om, ?_⟩, by show ys.length - (k + 1) < ys.length - k; omega⟩
  intro j hj
  rw [gA om]; exact hz1 j om
 refine Rg 3 J <| aY (dY J J) J <| aY (dY J J) J <| aY (dU J) J <| Wn <| aB <| Rg 8 J <| aA (bD J J J J J) J <| aA (aM J J J J J) J <| aA (mR J J) J <| eX (fun h19 => ?_) (fun h19 => ?_)
 rotate_left
 ·refine Um J J <| K1 J J <| K1 J J <| K1 J J <| aA (bP J J) J <| Wn <| aT J <| aF <| Ck [2,3,4] J ?_
  exact J5 _ om
 refine Um J J <| aK J (bD J J J J J) J <| aK J (aM J J J J J) J <| aK J (mR J J) J <| eX (fun h23 => ?_) (fun h23 => ?_)
 rotate_left
 ·refine aA (bL J J) J <| Wn <| aT J <| aF <| Ck [2,3,4] J ?_
  exact J5 _ om
 refine aA (bL J J) J <| Wn <| aS J <| aB ?_
 have hia := dM (qA.1 h19)
 have hiw := dM (qA.1 h23)
 refine Rg 20 J <| aA (bD J J J J J) J <| aA (aM J J J J J) J <| aA (bD J J J J J) J <| aA (aM J J J J J) J <| aA (fJ J om) J <| aA (cI (((v.natAbs : Nat) : Int)) (oMax J J) (by rw [hia]; split <;> omega)) J <| aA (cI (((v.natAbs : Nat) : Int)) (cL J J J) (by rw [IntKind.wrap_u64]; omega)) J <| aA (bD J J J J J) J <| aA (aM J J J J J) J <| aA (bD J J J J J) J <| aA (aM J J J J J) J <| aA (fJ J om) J <| aA (cI (((w.natAbs : Nat) : Int)) (oMax J J) (by rw [hiw]; split <;> omega)) J <| aA (cI (((w.natAbs : Nat) : Int)) (cL J J J) (by rw [IntKind.wrap_u64]; omega)) J <| aA (aJ J (mul64_run v.natAbs w.natAbs om om) (by simp)) J <| Um J J <| aA (dF J J) J <| aA (dF J J) J <| Ua J J <| Ua J J <| Nk [2,3,4,5,6] J <| aB ?_
 refine Rg 6 J <| Um J J <| aA (eY J J) J <| aX (fun h44 => ?_) (fun h44 => ?_)
 rotate_left
 ·refine Um J J <| K1 J J <| K1 J J <| aA (bP J J) J <| Wn <| aT J <| aF <| Ck [2,3,4] J ?_
  exact J5 _ om
 refine Um J J <| aK J (eF J) J <| aK J (bR J J) J <| aX (fun h47 => ?_) (fun h47 => ?_)
 rotate_left
 ·refine aA (bL J J) J <| Wn <| aT J <| aF <| Ck [2,3,4] J ?_
  exact J5 _ om
 refine aA (bL J J) J <| Wn <| aS J <| aB <| bG (z := 10) J kR <| aD (aM (l := .agg [_, _]) J J J J J) J <| aD (aJ J (jX _) (by simp)) J <| aD (aM (l := .agg [_, _]) J J J J J) J <| aD (aJ J (jX _) (by simp)) J <| aD (cI σ (fI J J (by rw [← hσ]; omega)) hσ.symm) J <| Dm J J <| aD (cI (((v.natAbs * w.natAbs : Nat) : Int)) (cL J J J) (by rw [IntWalk.i64_in _ om]; omega)) J <| aD (fI J J (by rcases hs3 with h | h | ⟨h, _⟩ <;> rw [h] <;> omega)) J <| aD (eW (cs := [_, _]) J J J J J) J <| bX (cA (cs' := [_, _]) J J J J J J J J) <| bE (aQ kR) J <| Ck [4] J <| bA <| post (n := 0) (.inr J) J ?_ (by simp)
 rw [evw, jR (by unfold small; rcases hs3 with h | h | ⟨h, _⟩ <;> rw [h] <;> omega)]; rfl
end Go.Proofs.YtahljdjhhapngaaGreat
namespace Go.Proofs.YtahljdjhhapngaaGreat
open Go.Ab Go.RowKit
theorem div32_run (hi lo y : Nat) (hh : hi < y) (hl : lo < 4294967296) (hy : y < 4294967296) : Run Tryz.prog T E0 (.call 147 [.v (.int .u32 (hi : Int)), .v (.int .u32 (lo : Int)), .v (.int .u32 (y : Int))] (.tup [.v (.int .u32 (((hi * 4294967296 + lo) / y : Nat) : Int)), .v (.int .u32 (((hi * 4294967296 + lo) % y : Nat) : Int))])) := by
 have hq : (hi * 4294967296 + lo) / y < 4294967296 := by
  rw [Nat.div_lt_iff_lt_mul om]; have := Nat.mul_le_mul_left 4294967296 (show hi + 1 ≤ y from hh); omega
 have hr : (hi * 4294967296 + lo) % y < y := Nat.mod_lt _ om
 obtain ⟨Q, hQ⟩ : ∃ Q, Q = (hi * 4294967296 + lo) / y := ⟨_, rfl⟩
 obtain ⟨R, hR⟩ : ∃ R, R = (hi * 4294967296 + lo) % y := ⟨_, rfl⟩
 rw [← hQ] at hq
 rw [← hR] at hr
 refine bI Tryz.func147 J J (dL J) <| Rg 2 J <| Ua J J <| Ua J J <| Wn <| aB <| Rg 7 J <| Um J J <| aA (dZ J J) J <| aX (fun h10 => ?_) (fun h10 => ?_)
 rotate_left
 ·omega
 refine Um J J <| aK J (eF J) J <| aK J (eF J) J <| aK J (oLeq J J) J <| aX (fun h14 => ?_) (fun h14 => ?_)
 ·omega
 refine aA (bL J J) J <| Wn <| aT J <| aF <| Rg 7 J <| Um J J <| aA (cI ((hi : Int)) (cL J J J) (by rw [IntKind.wrap_u64]; omega)) J <| aA (cI (((hi * 4294967296 : Nat) : Int)) (oShlU (s := 32) J J om) om) J <| Um J J <| aA (cI ((lo : Int)) (cL J J J) (by rw [IntKind.wrap_u64]; omega)) J <| aA (fS (v := .int .u64 (((hi * 4294967296 + lo) : Nat) : Int)) J J (or_hi om hl)) J <| Ua J J <| Nk [2,8] J <| bG (z := 12) J kR <| Dm J J <| Dm J J <| aD (cI ((y : Int)) (cL J J J) (by rw [IntKind.wrap_u64]; omega)) J <| aD (cI ((Q : Int)) (oQuoU J J om om) (by rw [hQ])) J <| aD (cI ((Q : Int)) (cL J J J) (by rw [IntKind.wrap_u32]; omega)) J <| Dm J J <| Dm J J <| aD (cI ((y : Int)) (cL J J J) (by rw [IntKind.wrap_u64]; omega)) J <| aD (cI ((R : Int)) (oRemU J J om) (by rw [hR])) J ?_
 refine aD (cI ((R : Int)) (cL J J J) (by rw [IntKind.wrap_u32]; omega)) J <| aD (iA J) J <| aD (iA J) J <| bE (aQ kR) J <| aN ?_
 exact post (n := 0) (.inr J) J (by rw [← hQ, ← hR]; rfl) (by simp)
theorem short_run (k0 : Nat) (xs : List Nat) (y : Nat) (hx : Dg B32 xs) (hy : 0 < y) (hy2 : y < 4294967296) (lx : xs.length < 1099511627776) : ∃ r, Run Tryz.prog T E0 (.call 136 [.sl k0 (xs.map d32), .v (.int .u32 (y : Int))] r) ∧ ∃ ds rest, r = .tup [.sl 1 (ds.map d32), .v (.int .u32 ((rest : Nat) : Int))] ∧ Dg B32 ds ∧ rest < y ∧ val B32 ds * y + rest = val B32 xs ∧ ds.length = xs.length := by
 refine eP Tryz.func136 J J (dL J) <| Rg 2 J <| Ua J J <| Ua J J <| Wn <| Rg 4 J <| Um J J <| aA (aZ J J) J <| aY (oMk (a := xs.length) (b := xs.length) J J J J om om (by decide) om (by show 4 * xs.length ≤ _; omega) om) J <| Ua J J <| Wn <| Rg 1 J <| Ua J J <| Wn <| aB <| Rg 4 J <| Um J J <| aA (aZ J J) J <| aA (bV J J om) J <| Ua J J <| Wn <| aL <| bB (α := Nat × Nat × (List Nat)) (fun ⟨k, rest, us⟩ => [(0, .sl k0 (xs.map d32)), (1, .v (.int .u32 (y : Int))), (6, .ref (0 + 2 + 2) 1 0 us.length), (7, .v (.int .u32 (rest : Int))), (8, .v (.int .i64 ((k : Int) - 1)))]) (fun ⟨k, rest, us⟩ => [(0 + 2 + 2, { cells := (us.map d32).flatten, sz := 1, elem := 160, st := 0 })]) (fun ⟨k, rest, us⟩ n => k ≤ xs.length ∧ us.length = xs.length ∧ Dg B32 us ∧ rest < y ∧ val B32 (us.drop k) * y + rest = val B32 (xs.drop k)) (fun ⟨k, rest, us⟩ => k) (xs.length, 0, List.replicate xs.length 0) ⟨rfl, rfl, congrArg some (by rw [List.length_replicate]; rfl), rfl, rfl, trivial⟩ ⟨g0.trans (by rw [List.map_replicate]; rfl), trivial⟩ ⟨Nat.le_refl _, by simp, by intro d hd; simp at hd; rw [hd.2]; decide, hy, by simp [val]⟩ ?_
 rintro ⟨k, rest, us⟩ n hF
 change WC _ _ _ _ _ (_ :: _) (_ :: _) n _
 obtain ⟨hk, hul, hud, hrest, huv⟩ := hF
 refine aB <| Rg 2 J <| Um J J <| aA (iG J J) J <| aX (fun h16 => ?_) (fun h16 => ?_)
 rotate_left
 ·refine Wn <| aT J <| aV <| aR <| aO J <| Rg 4 J <| Um J J <| Um J J <| Ua J J <| Ua J J <| Wn <| aN <| ⟨.tup [.sl 1 (us.map d32), .v (.int .u32 (rest : Int))], ⟨us, rest, rfl, hud, hrest, ?_, hul⟩, lL (n := 0) [(0 + 2 + 2, { cells := (us.map d32).flatten, sz := 1, elem := 160, st := 1 })] (.inr J) J (.own _ (by simp) J (by show (0 : Nat) ≠ 2; decide) J (by decide) (by simp [keys]) J hO dT (.data (by simp) .nil)) (by intro p hp; simp at hp; subst hp; exact ⟨_, rfl, by show (0 : Nat) ≠ 2; decide, rfl⟩)⟩
  have h0 : k = 0 := by omega
  subst h0
  simpa using huv
 refine Wn <| aS J <| aF <| aL ?_
 have hxl : xs.getD (k - 1) default < 4294967296 := bF hx om
 have hq : (rest * 4294967296 + xs.getD (k - 1) default) / y < 4294967296 := by
  rw [Nat.div_lt_iff_lt_mul hy]; have := Nat.mul_le_mul_left 4294967296 (show rest + 1 ≤ y from hrest); omega
 refine aI (z := 15) J <| Um J J <| Um J J <| Um J J <| Um J J <| Um J J <| aA (bS (j := k - 1) J J J J om om J) J <| aA (dH J J J) J <| Um J J <| aA (aJ J (div32_run rest (xs.getD (k - 1) default) y hrest hxl hy2) (by simp)) J <| Um J J <| aA (dF J J) J <| aA (dF J J) J <| aA (cH (j := k - 1) J J J J om om J) J <| aU (eE (f := d32) (us := us) ((rest * 4294967296 + xs.getD (k - 1) default) / y) J J J g0 (fun _ => rfl) J J om J) <| Ua J J <| Wn <| aH <| Ck [0,1,6,7,8] J <| aI (z := 3) J <| Um J J <| aA (cI (((k - 1 : Nat) : Int) - 1) (bV J J om) om) J <| Ua J J <| cK ?_
 refine aG ?_
 have hj : k - 1 + 1 = k := by omega
 refine ⟨⟨k - 1, (rest * 4294967296 + xs.getD (k - 1) default) % y, us.set (k - 1) ((rest * 4294967296 + xs.getD (k - 1) default) / y)⟩, ⟨rfl, rfl, congrArg some (by rw [List.length_set]), rfl, rfl, trivial⟩, ⟨g0, trivial⟩, ⟨om, by rw [List.length_set]; exact hul, hud.set _ hq, Nat.mod_lt _ hy, ?_⟩, by show k - 1 < k; omega⟩
 exact short_step hy (by rw [hj]; exact huv) om om
end Go.Proofs.YtahljdjhhapngaaGreat
