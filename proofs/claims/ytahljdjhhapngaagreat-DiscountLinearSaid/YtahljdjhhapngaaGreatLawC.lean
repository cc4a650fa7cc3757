/- Part C of the proof of discountLinear_holds: what it rests on. No condition. -/
import Derived.Test.YtahljdjhhapngaaGreatLawB
import Derived.ChangeKeysEq
import Derived.Test.YtahljdjhhapngaaGreatProg
set_option linter.unusedVariables false
set_option linter.unusedSimpArgs false
namespace Go.Ab
open Go.RowKit
def sm (f : Nat → Rat) : Nat → Rat
 | 0 => 0
 | i + 1 => sm f i + f i
theorem cK {f g : Nat → Rat} : ∀ n, (∀ i, i < n → f i = g i) → sm f n = sm g n
 | 0, _ => rfl
 | n + 1, h => by rw [sm, sm, cK n (fun i hi => h i om), h n om]
theorem iN : ∀ n, sm (fun _ => 0) n = 0
 | 0 => rfl
 | n + 1 => by rw [sm, iN n, Rat.add_zero]
theorem pO (f g : Nat → Rat) : ∀ n, sm (fun i => f i + g i) n = sm f n + sm g n
 | 0 => (Rat.add_zero 0).symm
 | n + 1 => by
  rw [sm, sm, sm, pO f g n, Rat.add_assoc, Rat.add_assoc]
  congr 1
  rw [← Rat.add_assoc, ← Rat.add_assoc, Rat.add_comm (sm g n)]
theorem gV (f : Nat → Rat) (c : Rat) : ∀ n, c * sm f n = sm (fun i => c * f i) n
 | 0 => Rat.mul_zero c
 | n + 1 => by rw [sm, sm, Rat.mul_add, gV f c n]
theorem sm_swap (f : Nat → Nat → Rat) (m : Nat) : ∀ n, sm (fun i => sm (f i) m) n = sm (fun j => sm (fun i => f i j) n) m
 | 0 => (iN m).symm
 | n + 1 => by
  rw [sm, sm_swap f m n, ← pO]
  exact cK m fun j _ => rfl
theorem dotn_sm (a b : List Rat) : ∀ i, dotn a b i = sm (fun t => a.getD t default * b.getD t default) i
 | 0 => rfl
 | i + 1 => by rw [dotn, sm, dotn_sm a b i]
theorem nV (a b : List Rat) : dotR a b = sm (fun t => a.getD t default * b.getD t default) a.length := dotn_sm a b _
def unitR (n : Nat) : List (List Rat) := (List.range n).map (uR n)
def pw (A : List (List Rat)) (n : Nat) : Nat → List (List Rat)
 | 0 => unitR n
 | k + 1 => prodR (pw A n k) A n
theorem prodR_wid (X Y : List (List Rat)) (w : Nat) : Wid w (prodR X Y w) := by
 intro r hr
 obtain ⟨s, _, rfl⟩ := List.mem_map.1 hr
 simp
theorem pw_wid (A : List (List Rat)) (n : Nat) : ∀ k, Wid n (pw A n k)
 | 0 => by
  intro r hr
  obtain ⟨i, _, rfl⟩ := List.mem_map.1 hr
  exact uR_len n i
 | k + 1 => prodR_wid _ _ _
def QB (D C s k : Nat) (x : Rat) : Prop := ∃ z : Int, x * ((D : Rat) ^ k) = (z : Rat) ∧ z.natAbs * 8 ≤ s * C ^ k
def QBL (D C s k : Nat) (R : List (List Rat)) : Prop := ∀ r, r ∈ R → ∀ x, x ∈ r → QB D C s k x
theorem rpow_add (D : Rat) (k : Nat) : ∀ l, D ^ (k + l) = D ^ k * D ^ l
 | 0 => by rw [Nat.add_zero, Rat.pow_zero, Rat.mul_one]
 | l + 1 => by rw [← Nat.add_assoc, Rat.pow_succ, rpow_add D k l, Rat.pow_succ, Rat.mul_assoc]
theorem QB.dot {D C s k l : Nat} {a b : List Rat} (ha : ∀ x, x ∈ a → QB D C s k x) (hb : ∀ x, x ∈ b → QB D C 1 l x) (hl : a.length ≤ b.length) : ∀ i, i ≤ a.length → ∃ z : Int, dotn a b i * (D : Rat) ^ (k + l) = (z : Rat) ∧ z.natAbs * 64 ≤ i * (s * C ^ (k + l))
 | 0, _ => ⟨0, by rw [dotn, Rat.zero_mul]; rfl, by simp⟩
 | i + 1, hi => by
  obtain ⟨z, h1, h2⟩ := QB.dot ha hb hl i om
  obtain ⟨p, h3, h4⟩ := ha _ (bG (us := a) (i := i) om)
  obtain ⟨q, h5, h6⟩ := hb _ (bG (us := b) (i := i) om)
  refine ⟨z + p * q, ?_, ?_⟩
  ·rw [dotn, Rat.add_mul, h1, rpow_add, Rat.intCast_add, Rat.intCast_mul, ← h3, ← h5]
   congr 1
   rw [Rat.mul_assoc, Rat.mul_assoc]
   congr 1
   rw [← Rat.mul_assoc, ← Rat.mul_assoc, Rat.mul_comm (b.getD i default)]
  ·have h7 := Int.natAbs_add_le z (p * q)
   rw [Int.natAbs_mul] at h7
   have h8 : (p.natAbs * 8) * (q.natAbs * 8) ≤ (s * C ^ k) * (1 * C ^ l) := Nat.mul_le_mul h4 h6
   have h9 : (p.natAbs * 8) * (q.natAbs * 8) = p.natAbs * q.natAbs * 64 := by
    rw [Nat.mul_mul_mul_comm]
   have h10 : (s * C ^ k) * (1 * C ^ l) = s * C ^ (k + l) := by rw [Nat.one_mul, Nat.pow_add, Nat.mul_assoc]
   rw [h9, h10] at h8
   rw [Nat.succ_mul]
   omega
theorem QBL.prod {D C s k l w : Nat} {A B : List (List Rat)} (hA : QBL D C s k A) (hB : QBL D C 1 l B) (hw : Wid B.length A) (hb : Wid w B) (h8 : B.length ≤ 8) : QBL D C s (k + l) (prodR A B w) := by
 intro r hr x hx
 obtain ⟨t, ht, rfl⟩ := List.mem_map.1 hr
 obtain ⟨j, hj, rfl⟩ := List.mem_map.1 hx
 have hj := List.mem_range.1 hj
 have htl := hw t ht
 have hcl : (colR B j).length = B.length := by simp [colR]
 obtain ⟨z, h1, h2⟩ := QB.dot (D := D) (C := C) (s := s) (k := k) (l := l) (a := t) (b := colR B j) (hA t ht) (fun y hy => by
  obtain ⟨u, hu, rfl⟩ := List.mem_map.1 hy
  exact hB u hu _ (bG (by rw [hb u hu]; exact hj))) om t.length (Nat.le_refl _)
 refine ⟨z, h1, ?_⟩
 have : t.length * (s * C ^ (k + l)) ≤ 8 * (s * C ^ (k + l)) := Nat.mul_le_mul_right _ om
 omega
theorem QB.bd {D C s k d : Nat} {x : Rat} (h : QB D C s k x) (hD : 0 < D) (hDb : D ≤ 4294967296 ^ d) (hC : C ≤ 4294967296 ^ d) (hs : s ≤ 8) : Bd (d * k + 1) x := by
 obtain ⟨z, h1, h2⟩ := h
 have hDk : 0 < D ^ k := Nat.pow_pos hD
 have hcast : (((D ^ k : Nat) : Int) : Rat) = (D : Rat) ^ k := by rw [Rat.intCast_natCast, Rat.natCast_pow]
 have hne : (((D ^ k : Nat) : Int) : Rat) ≠ 0 := by
  intro h0
  have : ((D ^ k : Nat) : Int) = 0 := by exact_mod_cast h0
  omega
 have hx : x = Rat.divInt z ((D ^ k : Nat) : Int) := by
  rw [Rat.divInt_eq_div, ← h1, ← hcast, Rat.mul_div_cancel hne]
 have hpos : 0 < 4294967296 ^ (d * k) := Nat.pow_pos (by decide)
 have e1 : 4294967296 ^ (d * k + 1) = 4294967296 ^ (d * k) * 4294967296 := Nat.pow_succ ..
 have e2 : D ^ k ≤ 4294967296 ^ (d * k) := by rw [Nat.pow_mul]; exact Nat.pow_le_pow_left hDb k
 have e3 : C ^ k ≤ 4294967296 ^ (d * k) := by rw [Nat.pow_mul]; exact Nat.pow_le_pow_left hC k
 have e4 : s * C ^ k ≤ 8 * C ^ k := Nat.mul_le_mul_right _ hs
 rw [hx]
 refine Bd.raw om (eP om) (eP ?_)
 rw [Int.natAbs_natCast]; omega
def dd : List Rat → Nat
 | [] => 1
 | x :: l => x.den * dd l
theorem dd_pos : ∀ l, 0 < dd l
 | [] => by decide
 | x :: l => Nat.mul_pos x.den_pos (dd_pos l)
theorem dd_dvd {x : Rat} : ∀ {l : List Rat}, x ∈ l → x.den ∣ dd l
 | y :: l, h => by
  rcases List.mem_cons.1 h with rfl | h
  ·exact ⟨dd l, rfl⟩
  ·exact Nat.dvd_trans (dd_dvd h) ⟨y.den, Nat.mul_comm _ _⟩
theorem dd_le {b : Nat} : ∀ {l : List Rat}, (∀ x, x ∈ l → x.den ≤ b) → dd l ≤ b ^ l.length
 | [], _ => Nat.le_refl _
 | y :: l, h => by
  rw [dd, List.length_cons, Nat.pow_succ, Nat.mul_comm]
  exact Nat.mul_le_mul (dd_le fun x hx => h x (by simp [hx])) (h y (by simp))
theorem flat_len {w : Nat} : ∀ {A : List (List Rat)}, Wid w A → A.flatten.length = A.length * w
 | [], _ => by simp
 | r :: A, h => by
  rw [List.flatten_cons, List.length_append, flat_len (fun s hs => h s (by simp [hs])), h r (by simp), List.length_cons, Nat.succ_mul]; omega
theorem Bd.abs {n : Nat} {x : Rat} (h : Bd n x) : x.num.natAbs < 4294967296 ^ n ∧ x.den < 4294967296 ^ n := by
 have h1 := iA x.num
 have h2 := iA (x.den : Int)
 rw [Int.natAbs_natCast] at h2
 exact ⟨Nat.lt_of_lt_of_le h1 (Nat.pow_le_pow_right (by decide) h.1), Nat.lt_of_lt_of_le h2 (Nat.pow_le_pow_right (by decide) h.2)⟩
theorem QBL.base {A : List (List Rat)} {n : Nat} (h : BdL 2 A) (hw : Wid n A) (hl : A.length = n) (h8 : n ≤ 8) : ∃ D C, 0 < D ∧ D ≤ 4294967296 ^ 131 ∧ C ≤ 4294967296 ^ 131 ∧ QBL D C 1 1 A := by
 have hfl : ∀ x, x ∈ A.flatten → Bd 2 x := fun x hx => by
  obtain ⟨r, hr, hx⟩ := List.mem_flatten.1 hx
  exact h r hr x hx
 have hlen : A.flatten.length ≤ 64 := by
  rw [flat_len hw, hl]; exact Nat.mul_le_mul h8 h8
 have hD : dd A.flatten ≤ 4294967296 ^ 128 := by
  refine Nat.le_trans (dd_le (b := 4294967296 ^ 2) fun x hx => Nat.le_of_lt (hfl x hx).abs.2) ?_
  rw [← Nat.pow_mul]
  exact Nat.pow_le_pow_right (by decide) om
 refine ⟨dd A.flatten, 8 * (4294967296 ^ 2 * dd A.flatten), dd_pos _, Nat.le_trans hD (Nat.pow_le_pow_right (by decide) (by decide)), ?_, ?_⟩
 ·have e : 4294967296 ^ 131 = 4294967296 * (4294967296 ^ 2 * 4294967296 ^ 128) := by decide +kernel
  rw [e]
  exact Nat.mul_le_mul (by decide) (Nat.mul_le_mul_left _ hD)
 ·intro r hr x hx
  have hxf := List.mem_flatten.2 ⟨r, hr, hx⟩
  obtain ⟨q, hq⟩ := dd_dvd hxf
  have hb := (hfl x hxf).abs.1
  have hdq : q ≤ dd A.flatten := by
   have := x.den_pos
   rw [hq]; exact Nat.le_mul_of_pos_left q this
  have hxd : x * (x.den : Rat) = (x.num : Rat) := by
   have h1 : x = (x.num : Rat) / ((x.den : Int) : Rat) := by rw [← Rat.divInt_eq_div, Rat.num_divInt_den]
   have h2 : ((x.den : Int) : Rat) ≠ 0 := by
    intro h0
    have : (x.den : Int) = 0 := by exact_mod_cast h0
    have := x.den_pos
    omega
   rw [← Rat.intCast_natCast]
   conv => lhs; lhs; rw [h1]
   exact Rat.div_mul_cancel h2
  refine ⟨x.num * (q : Int), ?_, ?_⟩
  ·rw [Rat.pow_succ, Rat.pow_zero, Rat.one_mul, hq, Rat.natCast_mul, ← Rat.mul_assoc, hxd, Rat.intCast_mul, Rat.intCast_natCast]
  ·rw [Int.natAbs_mul, Int.natAbs_natCast, Nat.pow_one, Nat.one_mul, Nat.mul_comm _ 8]
   exact Nat.mul_le_mul_left 8 (Nat.mul_le_mul (Nat.le_of_lt hb) hdq)
theorem QBL.pw {D C n : Nat} {A : List (List Rat)} (h : QBL D C 1 1 A) (hl : A.length = n) (hw : Wid n A) (h8 : n ≤ 8) : ∀ k, QBL D C 8 k (pw A n k)
 | 0 => by
  intro r hr x hx
  obtain ⟨i, _, rfl⟩ := List.mem_map.1 hr
  rcases List.mem_or_eq_of_mem_set hx with h | h
  ·rw [(List.mem_replicate.1 h).2]
   exact ⟨0, Rat.zero_mul _, by simp⟩
  ·rw [h]
   exact ⟨1, by rw [Rat.pow_zero, Rat.one_mul]; rfl, by simp⟩
 | k + 1 => QBL.prod (QBL.pw h hl hw h8 k) h (by rw [hl]; exact pw_wid A n k) hw om
open Go.RowKit
section
variable {P : Program} {T : TT} {E : TypeId → Bool} {dst : Option Tmp} {ty : TypeId} {pos : String} {af : Array Edge} {g : Option (Nat × Bool)} {id : Nat} {e : Env} {h : Hp} {x y : Operand} {bt yt : TypeId}
end
def powO (a : List M1) (n : Int) : Option (List (List NM)) := (pw (vM a) a.length n.toNat).mapM fun r => r.mapM outN
def powOk (a : List M1) (n : Int) : Bool := VM a && sqb a && (decide (0 ≤ n) && decide (n ≤ 1000))
def pow1 (a : List M1) (n : Int) : List M1 := if powOk a n = true then ((powO a n).getD []).map kM else []
def powe (a : List M1) (n : Int) : Int := if VM a = false then 1 else if sqb a = false then 2 else if (decide (0 ≤ n) && decide (n ≤ 1000)) = false then 6 else if (powO a n).isSome = true then 0 else 3
def lvPow (a : List M1) (n : Int) : LV := .tup [.sl (kd (pow1 a n).length) ((pow1 a n).map fM), .v (.int .i64 (powe a n))]
instance {a : List M1} {n : Int} : DC (lvPow a n) := ⟨.tup _ (by intro c hc; simp only [List.mem_cons, List.not_mem_nil, or_false] at hc; rcases hc with rfl | rfl; exact qT dfM _ _; exact .v _)⟩
end Go.Ab
namespace Go.Ab
def skp (i a : Nat) : Nat := if a < i then a else a + 1
def sg : Nat → Rat
 | 0 => 1
 | i + 1 => -sg i
def det : Nat → (Nat → Nat → Rat) → Rat
 | 0, _ => 1
 | n + 1, M => sm (fun i => sg i * M i 0 * det n (fun a b => M (skp i a) (b + 1))) (n + 1)
def upd (M : Nat → Nat → Rat) (r : Nat) (U : Nat → Rat) : Nat → Nat → Rat := fun a b => if a = r then U b else M a b
theorem fZ (M : Nat → Nat → Rat) (r : Nat) (U : Nat → Rat) (b : Nat) : upd M r U r b = U b := if_pos rfl
theorem lU {M : Nat → Nat → Rat} {r a : Nat} {U : Nat → Rat} (h : a ≠ r) (b : Nat) : upd M r U a b = M a b := if_neg h
theorem eE : ∀ n {M N : Nat → Nat → Rat}, (∀ a b, a < n → b < n → M a b = N a b) → det n M = det n N
 | 0, _, _, _ => rfl
 | n + 1, M, N, h => by
  rw [det, det]
  refine cK _ fun i hi => ?_
  rw [h i 0 hi om, eE n fun a b ha hb => h (skp i a) (b + 1) (by unfold skp; split <;> omega) om]
theorem lX : ∀ n (M : Nat → Nat → Rat) (r : Nat) (U V : Nat → Rat) (x y : Rat), r < n → det n (upd M r (fun b => x * U b + y * V b)) = x * det n (upd M r U) + y * det n (upd M r V)
 | 0, _, _, _, _, _, _, h => by omega
 | n + 1, M, r, U, V, x, y, hr => by
  rw [det, det, det, gV, gV, ← pO]
  refine cK _ fun i hi => ?_
  by_cases e : i = r
  ·subst e
   have hm : ∀ W : Nat → Rat, (fun a b => upd M i W (skp i a) (b + 1)) = fun a b => M (skp i a) (b + 1) := by
    intro W
    funext a b
    exact lU (by unfold skp; split <;> omega) _
   rw [hm, hm, hm, fZ, fZ, fZ]
   grind
  ·have hm : ∀ W : Nat → Rat, (fun a b => upd M r W (skp i a) (b + 1)) = upd (fun a b => M (skp i a) (b + 1)) (if r < i then r else r - 1) (fun b => W (b + 1)) := by
    intro W
    funext a b
    show (if skp i a = r then W (b + 1) else M (skp i a) (b + 1)) = if a = (if r < i then r else r - 1) then W (b + 1) else M (skp i a) (b + 1)
    have h : (skp i a = r) ↔ (a = if r < i then r else r - 1) := by unfold skp; split <;> split <;> omega
    by_cases h1 : skp i a = r
    ·rw [if_pos h1, if_pos (h.1 h1)]
    ·rw [if_neg h1, if_neg (fun k => h1 (h.2 k))]
   rw [hm, hm, hm, lU e, lU e, lU e, lX n _ _ (fun b => U (b + 1)) (fun b => V (b + 1)) x y (by split <;> omega)]
   grind
theorem sm_two {f : Nat → Rat} {r : Nat} (h : f r + f (r + 1) = 0) : ∀ n, r + 1 < n → (∀ i, i < n → i ≠ r → i ≠ r + 1 → f i = 0) → sm f n = 0
 | 0, hr, _ => by omega
 | n + 1, hr, h0 => by
  rw [sm]
  by_cases e : n = r + 1
  ·subst e
   rw [sm, show sm f r = 0 from (cK r fun i hi => h0 i om om om).trans (iN r), Rat.zero_add]
   exact h
  ·rw [sm_two h n om fun i hi => h0 i om, h0 n om om e, Rat.add_zero]
theorem qS : ∀ n {M : Nat → Nat → Rat} {r : Nat}, r + 1 < n → (∀ b, M r b = M (r + 1) b) → det n M = 0
 | 0, _, _, h, _ => by omega
 | n + 1, M, r, hr, h => by
  rw [det]
  refine sm_two (r := r) ?_ (n + 1) hr fun i hi h1 h2 => ?_
  ·have hm : (fun a b => M (skp r a) (b + 1)) = fun a b => M (skp (r + 1) a) (b + 1) := by
    funext a b
    unfold skp
    by_cases h3 : a < r
    ·rw [if_pos h3, if_pos om]
    ·rw [if_neg h3]
     by_cases h4 : a = r
     ·subst h4; rw [if_pos om]; exact (h _).symm
     ·rw [if_neg om]
   rw [hm, h 0, sg]
   grind
  ·have hz : det n (fun a b => M (skp i a) (b + 1)) = 0 := by
    by_cases h3 : i < r
    ·refine qS n (r := r - 1) om fun b => ?_
     unfold skp
     rw [if_neg om, if_neg om, show r - 1 + 1 = r by omega]
     exact h _
    ·refine qS n (r := r) om fun b => ?_
     unfold skp
     rw [if_pos om, if_pos om]
     exact h _
   rw [hz, Rat.mul_zero]
def swp (r s a : Nat) : Nat := if a = r then s else if a = s then r else a
theorem qK {n r s : Nat} (hr : r < n) (hs : s < n) (hrs : r ≠ s) (alt : ∀ M : Nat → Nat → Rat, (∀ b, M r b = M s b) → det n M = 0) (M : Nat → Nat → Rat) : det n (fun a b => M (swp r s a) b) = -det n M := by
 have two : ∀ U V : Nat → Rat, det n (upd (upd M r U) s V) + det n (upd (upd M r V) s U) = 0 := by
  intro U V
  have h0 := alt (upd (upd M r (fun b => 1 * U b + 1 * V b)) s (fun b => 1 * U b + 1 * V b)) fun b => by
   rw [fZ, lU hrs, fZ]
  have hc : ∀ A B : Nat → Rat, upd (upd M r A) s B = upd (upd M s B) r A := by
   intro A B
   funext a b
   unfold upd
   by_cases h1 : a = s
   ·rw [if_pos h1, if_neg om, if_pos h1]
   ·rw [if_neg h1, if_neg h1]
  rw [lX n (upd M r _) s U V 1 1 hs, hc, hc, lX n (upd M s U) r U V 1 1 hr, lX n (upd M s V) r U V 1 1 hr, ← hc, ← hc, ← hc, ← hc] at h0
  have h1 := alt (upd (upd M r U) s U) fun b => by rw [fZ, lU hrs, fZ]
  have h2 := alt (upd (upd M r V) s V) fun b => by rw [fZ, lU hrs, fZ]
  rw [h1, h2] at h0
  grind
 have h3 := two (M r) (M s)
 have e1 : upd (upd M r (M r)) s (M s) = M := by
  funext a b
  unfold upd
  by_cases h1 : a = s
  ·rw [if_pos h1, h1]
  ·rw [if_neg h1]
   by_cases h2 : a = r
   ·rw [if_pos h2, h2]
   ·rw [if_neg h2]
 have e2 : upd (upd M r (M s)) s (M r) = fun a b => M (swp r s a) b := by
  funext a b
  unfold upd swp
  by_cases h1 : a = s
  ·rw [if_pos h1, if_neg (show ¬ a = r by omega), if_pos h1]
  ·rw [if_neg h1]
   by_cases h2 : a = r
   ·rw [if_pos h2, if_pos h2]
   ·rw [if_neg h2, if_neg h2, if_neg h1]
 rw [e1, e2] at h3
 grind
theorem oX {n : Nat} : ∀ d {M : Nat → Nat → Rat} {r : Nat}, r + d + 1 < n → (∀ b, M r b = M (r + d + 1) b) → det n M = 0
 | 0, M, r, hr, h => qS n hr h
 | d + 1, M, r, hr, h => by
  have h1 := qK (n := n) (r := r + d + 1) (s := r + d + 1 + 1) om om om (fun N hN => qS n (r := r + d + 1) om hN) M
  have h2 := @oX n d (fun a b => M (swp (r + d + 1) (r + d + 1 + 1) a) b) r om fun b => by
   unfold swp
   rw [if_neg om, if_neg om, if_pos rfl]
   exact h b
  rw [h2] at h1
  grind
theorem det_alt {n r s : Nat} (hr : r < n) (hs : s < n) (hrs : r ≠ s) {M : Nat → Nat → Rat} (h : ∀ b, M r b = M s b) : det n M = 0 := by
 rcases Nat.lt_or_ge r s with h1 | h1
 ·exact oX (s - r - 1) (r := r) om fun b => by rw [show r + (s - r - 1) + 1 = s by omega]; exact h b
 ·exact oX (r - s - 1) (r := s) om fun b => by rw [show s + (r - s - 1) + 1 = r by omega]; exact (h b).symm
structure RowF (n : Nat) (F : (Nat → Nat → Rat) → Rat) : Prop where
 congr : ∀ {M N : Nat → Nat → Rat}, (∀ a b, a < n → b < n → M a b = N a b) → F M = F N
 swap : ∀ (M : Nat → Nat → Rat) {r s : Nat}, r < n → s < n → r ≠ s → F (fun a b => M (swp r s a) b) = -F M
 scale : ∀ (M : Nat → Nat → Rat) {r : Nat} (x : Rat), r < n → F (upd M r (fun b => x * M r b)) = x * F M
 add : ∀ (M : Nat → Nat → Rat) {r s : Nat} (x : Rat), r < n → s < n → r ≠ s → F (upd M r (fun b => M r b + x * M s b)) = F M
theorem upd_self (M : Nat → Nat → Rat) (r : Nat) : upd M r (M r) = M := by
 funext a b
 unfold upd
 by_cases h : a = r
 ·rw [if_pos h, h]
 ·rw [if_neg h]
theorem lI (n : Nat) : RowF n (det n) where
 congr h := eE n h
 swap M {r s} hr hs hrs := qK hr hs hrs (fun N hN => det_alt hr hs hrs hN) M
 scale M {r} x hr := by
  have h := lX n M r (M r) (M r) x 0 hr
  rw [upd_self] at h
  rw [show (fun b => x * M r b) = fun b => x * M r b + 0 * M r b by funext b; grind, h]
  grind
 add M {r s} x hr hs hrs := by
  have h := lX n M r (M r) (M s) 1 x hr
  rw [upd_self, det_alt hr hs hrs (M := upd M r (M s)) (fun b => by rw [fZ, lU (Ne.symm hrs)])] at h
  rw [show (fun b => M r b + x * M s b) = fun b => 1 * M r b + x * M s b by funext b; grind, h]
  grind
def mulF (n : Nat) (M B : Nat → Nat → Rat) : Nat → Nat → Rat := fun a b => sm (fun t => M a t * B t b) n
theorem mulF_upd (n : Nat) (M B : Nat → Nat → Rat) (r : Nat) (U : Nat → Rat) : mulF n (upd M r U) B = upd (mulF n M B) r (fun b => sm (fun t => U t * B t b) n) := by
 funext a b
 unfold mulF upd
 by_cases h : a = r
 ·simp only [if_pos h]
 ·simp only [if_neg h]
theorem mul_rowF (n : Nat) (B : Nat → Nat → Rat) : RowF n (fun M => det n (mulF n M B)) where
 congr {M N} h := eE n fun a b ha hb => cK n fun t ht => by rw [h a t ha ht]
 swap M {r s} hr hs hrs := (lI n).swap (mulF n M B) hr hs hrs
 scale M {r} x hr := by
  show det n (mulF n (upd M r _) B) = _
  rw [mulF_upd, show (fun b => sm (fun t => x * M r t * B t b) n) = fun b => x * mulF n M B r b from funext fun b => by
   unfold mulF; rw [gV]; exact cK n fun t _ => Rat.mul_assoc _ _ _]
  exact (lI n).scale (mulF n M B) x hr
 add M {r s} x hr hs hrs := by
  show det n (mulF n (upd M r _) B) = _
  rw [mulF_upd, show (fun b => sm (fun t => (M r t + x * M s t) * B t b) n) = fun b => mulF n M B r b + x * mulF n M B s b from funext fun b => by
   unfold mulF; rw [gV, ← pO]; exact cK n fun t _ => by grind]
  exact (lI n).add (mulF n M B) x hr hs hrs
def oneF : Nat → Nat → Rat := fun a b => if a = b then 1 else 0
theorem gJ {f : Nat → Rat} {j : Nat} : ∀ n, j < n → (∀ i, i < n → i ≠ j → f i = 0) → sm f n = f j
 | 0, h, _ => by omega
 | n + 1, hj, h => by
  rw [sm]
  by_cases e : n = j
  ·subst e
   rw [show sm f n = 0 from (cK n fun i hi => h i om om).trans (iN n), Rat.zero_add]
  ·rw [gJ n om fun i hi => h i om, h n om e, Rat.add_zero]
theorem det_one : ∀ n, det n oneF = 1
 | 0 => rfl
 | n + 1 => by
  rw [det, gJ (j := 0) (n + 1) om fun i hi h0 => by rw [show oneF i 0 = 0 from if_neg h0, Rat.mul_zero, Rat.zero_mul]]
  have : (fun a b => oneF (skp 0 a) (b + 1)) = oneF := by
   funext a b
   have h1 : skp 0 a = a + 1 := if_neg om
   show (if skp 0 a = b + 1 then (1 : Rat) else 0) = if a = b then 1 else 0
   rw [h1]
   by_cases h : a = b
   ·rw [if_pos h, if_pos om]
   ·rw [if_neg h, if_neg om]
  rw [this, det_one n]
  show (1 : Rat) * (if (0 : Nat) = 0 then 1 else 0) * 1 = 1
  rw [if_pos rfl]; grind
open Go.RowKit
abbrev fm (R : List (List Rat)) : Nat → Nat → Rat := fun i j => ent R i j
theorem ent_swF {R : List (List Rat)} {i r a j : Nat} (hi : i < R.length) (hr : r < R.length) (ha : a < R.length) : ent (sw R i r) a j = ent R (swp i r a) j := by
 unfold ent sw swp
 rw [cD (by rw [List.length_set]; exact ha), cD ha]
 by_cases h1 : a = i
 ·rw [if_pos h1.symm, if_pos h1]
 ·rw [if_neg (Ne.symm h1), if_neg h1]
  by_cases h2 : a = r
  ·rw [if_pos h2.symm, if_pos h2]
  ·rw [if_neg (Ne.symm h2), if_neg h2]
theorem lJ {R : List (List Rat)} {i r c a j : Nat} (ha : a < R.length) : ent (mid R i r c) a j = if a = r then 1 / ent (sw R i r) r c * ent (sw R i r) r j else ent (sw R i r) a j := by
 by_cases h : a = r
 ·rw [if_pos h, h]
  show (((((sw R i r).set r (rsc (1 / ent (sw R i r) r c) ((sw R i r).getD r default))) : List (List Rat))).getD r default).getD j default = _
  rw [cD (by rw [jT]; omega), if_pos rfl, oM]; rfl
 ·rw [if_neg h]
  show (((((sw R i r).set r (rsc (1 / ent (sw R i r) r c) ((sw R i r).getD r default))) : List (List Rat))).getD a default).getD j default = _
  rw [cD (by rw [jT]; exact ha), if_neg (Ne.symm h)]; rfl
theorem pA {M : List (List Rat)} {w r c a j : Nat} (hw : Wid w M) (ha : a < M.length) (hj : j < w) : ent (elim M r c) a j = if a = r then ent M r j else ent M a j - ent M a c * ent M r j := by
 show ((elim M r c).getD a default).getD j default = _
 rw [oZ ha]
 by_cases h : a = r
 ·subst h; rw [if_pos rfl, elr_self]; rfl
 ·rw [if_neg h]
  by_cases h0 : ent M a c = 0
  ·rw [nW (.inr h0), h0]
   show ent M a j = _
   grind
  ·rw [elr_pos h h0, oK (by rw [hw.row ha]; exact hj), oM]
   show ent M a j + -ent M a c * ent M r j = _
   grind
structure Stp (A B : List (List Rat)) (w a r c : Nat) : Prop where
 len : B.length = A.length
 wid : Wid w B
 ha : a < A.length
 hr : r < A.length
 ne : ent A a c ≠ 0
 row : ∀ j, j < w → ent B r j = 1 / ent A a c * ent A a j
 oth : ∀ i j, i < A.length → i ≠ r → j < w → ent B i j = ent A (swp a r i) j - ent A (swp a r i) c * (1 / ent A a c * ent A a j)
theorem stp_of {A : List (List Rat)} {w a r c : Nat} (hw : Wid w A) (ha : a < A.length) (hr : r < A.length) (hc : c < w) (hne : ent A a c ≠ 0) : Stp A (elim (mid A a r c) r c) w a r c := by
 have hm : Wid w (mid A a r c) := hw.mid ha hr c
 have hml : (mid A a r c).length = A.length := oD _ _ _ _
 have hsr : ∀ j, ent (sw A a r) r j = ent A a j := fun j => lK ha hr
 refine ⟨by rw [elim_len, hml], ?_, ha, hr, hne, fun j hj => ?_, fun i j hi hir hj => ?_⟩
 ·intro row hrow
  obtain ⟨k, hk, rfl⟩ := List.mem_map.1 hrow
  exact elr_len hm r c (List.mem_range.1 hk)
 ·rw [pA hm om hj, if_pos rfl, lJ hr, if_pos rfl, hsr, hsr]
 ·rw [pA hm om hj, if_neg hir, lJ hi, if_neg hir, lJ hi, if_neg hir, lJ hr, if_pos rfl, hsr, hsr, ent_swF ha hr hi, ent_swF ha hr hi]
structure St0 (R : List (List Rat)) (w c : Nat) : Prop where
 wid : Wid w (gjn R c).1
 led : (gjn R c).2.length ≤ R.length
theorem St0.all {R : List (List Rat)} {w : Nat} (hw : Wid w R) : ∀ c, c ≤ w → St0 R w c
 | 0, _ => ⟨hw, Nat.zero_le _⟩
 | c + 1, hc => by
  have h := St0.all hw c om
  obtain ⟨p1, p2, p3⟩ := eQ (R := (gjn R c).1) (r := (gjn R c).2.length) (c := c) (by rw [cW]; exact h.led)
  by_cases e : pivot (gjn R c).1 (gjn R c).2.length c = (gjn R c).1.length
  ·rw [show St0 R w (c + 1) ↔ St0 R w c from ⟨fun _ => h, fun _ => ⟨by rw [lL e]; exact h.wid, by rw [lL e]; exact h.led⟩⟩]; exact h
  ·have hl := cW R c
   have hy := lZ (a := pivot (gjn R c).1 (gjn R c).2.length c) rfl om
   have hs := stp_of (r := (gjn R c).2.length) (c := c) h.wid (show pivot (gjn R c).1 (gjn R c).2.length c < _ by omega) om om (p3 om)
   exact ⟨by rw [hy]; exact hs.wid, by rw [hy]; simp; omega⟩
theorem qX {R : List (List Rat)} {w : Nat} (hw : Wid w R) {P : Nat → List (List Rat) → List Nat → Prop} (h0 : P 0 R [])
  (hno : ∀ c S L, c < w → gjn R c = (S, L) → S.length = R.length → Wid w S → L.length ≤ R.length → P c S L → (∀ k, L.length ≤ k → k < R.length → ent S k c = 0) → P (c + 1) S L)
  (hyes : ∀ c S L B a, c < w → gjn R c = (S, L) → S.length = R.length → Wid w S → L.length ≤ a → P c S L → Stp S B w a L.length c → gjn R (c + 1) = (B, L ++ [c]) → pivot S L.length c = a → P (c + 1) B (L ++ [c])) : ∀ c, c ≤ w → P c (gjn R c).1 (gjn R c).2
 | 0, _ => h0
 | c + 1, hc => by
  have ih := qX hw h0 hno hyes c om
  have h := St0.all hw c om
  have hl := cW R c
  obtain ⟨p1, p2, p3⟩ := eQ (R := (gjn R c).1) (r := (gjn R c).2.length) (c := c) (by rw [cW]; exact h.led)
  by_cases e : pivot (gjn R c).1 (gjn R c).2.length c = (gjn R c).1.length
  ·rw [lL e]
   exact hno c _ _ om rfl hl h.wid h.led ih fun k h1 h2 => nG e h1 om
  ·have hy := lZ (a := pivot (gjn R c).1 (gjn R c).2.length c) rfl om
   have hs := stp_of (r := (gjn R c).2.length) (c := c) h.wid (show pivot (gjn R c).1 (gjn R c).2.length c < _ by omega) om om (p3 om)
   rw [hy]
   exact hyes c _ _ _ _ om rfl hl h.wid p1 ih hs hy rfl
theorem gjd_ne {R : List (List Rat)} {w : Nat} (hw : Wid w R) : ∀ c, c ≤ w → gjd R c ≠ 0
 | 0, _ => by show (1 : Rat) ≠ 0; decide
 | c + 1, hc => by
  have ih := gjd_ne hw c om
  have h := St0.all hw c om
  have hl := cW R c
  obtain ⟨p1, p2, p3⟩ := eQ (R := (gjn R c).1) (r := (gjn R c).2.length) (c := c) (by rw [cW]; exact h.led)
  by_cases e : pivot (gjn R c).1 (gjn R c).2.length c = (gjn R c).1.length
  ·rw [gjd_no e]; exact ih
  ·rw [nZ rfl om]
   have := p3 om
   split <;> grind
theorem elim_F {n : Nat} {F : (Nat → Nat → Rat) → Rat} (hF : RowF n F) (M : Nat → Nat → Rat) (r c : Nat) (hr : r < n) : ∀ k, k ≤ n → F (fun a b => if a < k ∧ a ≠ r then M a b - M a c * M r b else M a b) = F M
 | 0, _ => hF.congr fun a b _ _ => if_neg om
 | k + 1, hk => by
  rw [← elim_F hF M r c hr k om]
  by_cases e : k = r
  ·refine hF.congr fun a b _ _ => ?_
   by_cases h : a < k ∧ a ≠ r
   ·rw [if_pos h, if_pos ⟨om, h.2⟩]
   ·rw [if_neg h, if_neg om]
  ·rw [← hF.add (fun a b => if a < k ∧ a ≠ r then M a b - M a c * M r b else M a b) (r := k) (s := r) (-(M k c)) om hr e]
   refine hF.congr fun a b _ _ => ?_
   unfold upd
   show (if a < k + 1 ∧ a ≠ r then _ else _) = if a = k then ((if k < k ∧ k ≠ r then M k b - M k c * M r b else M k b) + -M k c * (if r < k ∧ r ≠ r then M r b - M r c * M r b else M r b)) else (if a < k ∧ a ≠ r then M a b - M a c * M r b else M a b)
   by_cases h1 : a = k
   ·subst h1
    rw [if_pos ⟨om, e⟩, if_pos rfl, if_neg (show ¬ (a < a ∧ a ≠ r) by omega), if_neg (show ¬ (r < a ∧ r ≠ r) by omega)]
    grind
   ·rw [if_neg h1]
    by_cases h : a < k ∧ a ≠ r
    ·rw [if_pos h, if_pos ⟨om, h.2⟩]
    ·rw [if_neg h, if_neg om]
theorem gjn_F {n : Nat} {F : (Nat → Nat → Rat) → Rat} (hF : RowF n F) {A : List (List Rat)} (hl : A.length = n) (hw : Wid n A) : ∀ c, c ≤ n → F (fm A) = gjd A c * F (fm (gjn A c).1)
 | 0, _ => by rw [gjd, Rat.one_mul]; rfl
 | c + 1, hc => by
  rw [gjn_F hF hl hw c om]
  have h := St0.all hw c om
  have hgl := cW A c
  obtain ⟨p1, p2, p3⟩ := eQ (R := (gjn A c).1) (r := (gjn A c).2.length) (c := c) (by rw [cW]; exact h.led)
  by_cases e : pivot (gjn A c).1 (gjn A c).2.length c = (gjn A c).1.length
  ·rw [gjd_no e, lL e]
  ·rw [nZ rfl om, lZ rfl om]
   have hne := p3 om
   have hwS := h.wid
   generalize pivot (gjn A c).1 (gjn A c).2.length c = a at *
   generalize (gjn A c).2.length = r at *
   generalize (gjn A c).1 = S at *
   generalize gjd A c = d
   have hm : Wid n (mid S a r c) := hwS.mid om om c
   have e1 : F (fm (elim (mid S a r c) r c)) = F (fm (mid S a r c)) := by
    rw [← elim_F hF (fm (mid S a r c)) r c om n (Nat.le_refl _)]
    refine hF.congr fun i j hi hj => ?_
    show ent _ i j = _
    rw [pA hm (by rw [oD]; omega) hj]
    by_cases e2 : i = r
    ·rw [if_pos e2, if_neg om, e2]
    ·rw [if_neg e2, if_pos ⟨hi, e2⟩]
   have e2 : F (fm (mid S a r c)) = 1 / ent S a c * F (fm (sw S a r)) := by
    rw [← hF.scale (fm (sw S a r)) (r := r) (1 / ent S a c) om]
    refine hF.congr fun i j hi hj => ?_
    show ent _ i j = _
    rw [lJ om, lK om om]
    rfl
   have e3 : F (fm (sw S a r)) = if a ≠ r then -F (fm S) else F (fm S) := by
    by_cases e4 : a = r
    ·rw [if_neg om, e4, sw_same om]
    ·rw [if_pos e4, ← hF.swap (fm S) (r := a) (s := r) om om e4]
     exact hF.congr fun i j hi hj => ent_swF om om om
   rw [e1, e2, e3]
   split <;> grind
open Go.RowKit
structure RI (S : List (List Rat)) (L : List Nat) (c : Nat) : Prop where
 rk : L.length ≤ S.length
 piv : ∀ t, t < L.length → ∀ i, i < S.length → ent S i (L.getD t default) = if i = t then 1 else 0
 low : ∀ t, t < L.length → ∀ j, j < L.getD t default → ent S t j = 0
 zer : ∀ i, L.length ≤ i → i < S.length → ∀ j, j < c → ent S i j = 0
 mono : ∀ t u, t < u → u < L.length → L.getD t default < L.getD u default
 lt : ∀ t, t < L.length → L.getD t default < c
theorem mL {L : List Nat} {c t : Nat} (h : t < L.length) : (L ++ [c]).getD t default = L.getD t default := by
 simp only [List.getD_eq_getElem?_getD, List.getElem?_append_left h]
theorem oP {L : List Nat} {c : Nat} : (L ++ [c]).getD L.length default = c := by
 simp [List.getD_eq_getElem?_getD]
theorem pP {a r i : Nat} (h : i < r) (ha : r ≤ a) : swp a r i = i := by
 unfold swp; rw [if_neg om, if_neg om]
theorem swp_ge {a r i : Nat} (h : r ≤ i) (ha : r ≤ a) : r ≤ swp a r i := by
 unfold swp; split
 ·omega
 ·split <;> omega
theorem oR {a r i m : Nat} (h : i < m) (ha : a < m) (hr : r < m) : swp a r i < m := by
 unfold swp; split
 ·omega
 ·split <;> omega
theorem swp_swp (a r i : Nat) : swp a r (swp a r i) = i := by
 unfold swp
 by_cases h1 : i = a
 ·rw [if_pos h1]
  by_cases h2 : r = a
  ·rw [if_pos h2, h2, h1]
  ·rw [if_neg h2, if_pos rfl, h1]
 ·rw [if_neg h1]
  by_cases h2 : i = r
  ·rw [if_pos h2, if_pos rfl, h2]
  ·rw [if_neg h2, if_neg h1, if_neg h2]
theorem gjn_RI {R : List (List Rat)} {w : Nat} (hw : Wid w R) : ∀ c, c ≤ w → RI (gjn R c).1 (gjn R c).2 c :=
 qX hw (P := fun c S L => RI S L c)
  ⟨Nat.zero_le _, fun t ht => by simp at ht, fun t ht => by simp at ht, fun i _ _ j hj => by omega, fun t u _ hu => by simp at hu, fun t ht => by simp at ht⟩
  (fun c S L hc _ hl _ _ h hz => ⟨h.rk, h.piv, h.low, fun i h1 h2 j hj => by
   by_cases e : j = c
   ·rw [e]; exact hz i h1 om
   ·exact h.zer i h1 h2 j om, h.mono, fun t ht => by have := h.lt t ht; omega⟩)
  (fun c S L B a hc _ hl _ hla h hs _ _ => by
   have hBl := hs.len
   have hha := hs.ha
   have hp := hs.ne
   have hrow : ∀ j, j < c → ent B L.length j = 0 := fun j hj => by
    rw [hs.row j om, h.zer a hla hs.ha j hj, Rat.mul_zero]
   have hoth : ∀ i j, i < S.length → i ≠ L.length → j < c → ent B i j = ent S (swp a L.length i) j := fun i j hi hir hj => by
    rw [hs.oth i j hi hir om, h.zer a hla hs.ha j hj]; grind
   have hlo : ∀ i j, i < L.length → j < c → ent B i j = ent S i j := fun i j hi hj => by
    rw [hoth i j (by have := h.rk; omega) om hj, pP hi hla]
   have hhi : ∀ i j, L.length ≤ i → i < S.length → j < c → ent B i j = 0 := fun i j h1 h2 hj => by
    by_cases e : i = L.length
    ·rw [e]; exact hrow j hj
    ·rw [hoth i j h2 e hj]; exact h.zer _ (swp_ge h1 hla) (oR h2 hs.ha hs.hr) j hj
   have hc1 : ent B L.length c = 1 := by rw [hs.row c hc]; grind
   have hc0 : ∀ i, i < S.length → i ≠ L.length → ent B i c = 0 := fun i h1 h2 => by rw [hs.oth i c h1 h2 hc]; grind
   refine ⟨by simp; have := hs.hr; omega, fun t ht i hi => ?_, fun t ht j hj => ?_, fun i h1 h2 j hj => ?_, fun t u htu hu => ?_, fun t ht => ?_⟩
   ·rw [List.length_append, List.length_singleton] at ht
    by_cases e : t = L.length
    ·subst e
     rw [oP]
     by_cases e2 : i = L.length
     ·rw [e2, hc1, if_pos rfl]
     ·rw [hc0 i om e2, if_neg e2]
    ·rw [mL om]
     have hlt := h.lt t om
     by_cases e2 : i < L.length
     ·rw [hlo i _ e2 hlt]; exact h.piv t om i om
     ·rw [hhi i _ om om hlt, if_neg om]
   ·rw [List.length_append, List.length_singleton] at ht
    by_cases e : t = L.length
    ·subst e
     rw [oP] at hj; exact hrow j hj
    ·rw [mL om] at hj
     have hlt := h.lt t om
     rw [hlo t j om om]; exact h.low t om j hj
   ·rw [List.length_append, List.length_singleton] at h1
    by_cases e : j = c
    ·rw [e]; exact hc0 i om om
    ·exact hhi i j om om om
   ·rw [List.length_append, List.length_singleton] at hu
    rw [mL om]
    by_cases e : u = L.length
    ·subst e; rw [oP]; exact h.lt t htu
    ·rw [mL om]; exact h.mono t u htu om
   ·rw [List.length_append, List.length_singleton] at ht
    by_cases e : t = L.length
    ·subst e; rw [oP]; omega
    ·rw [mL om]; have := h.lt t om; omega)
def rd (R : List (List Rat)) (w : Nat) (v : Nat → Rat) (i : Nat) : Rat := sm (fun j => ent R i j * v j) w
def Sol (R : List (List Rat)) (w : Nat) (v : Nat → Rat) : Prop := ∀ i, i < R.length → rd R w v i = 0
theorem Stp.rdr {A B : List (List Rat)} {w a r c : Nat} (h : Stp A B w a r c) (v : Nat → Rat) : rd B w v r = 1 / ent A a c * rd A w v a := by
 unfold rd
 rw [gV]
 exact cK w fun j hj => by rw [h.row j hj, Rat.mul_assoc]
theorem Stp.rdo {A B : List (List Rat)} {w a r c : Nat} (h : Stp A B w a r c) (v : Nat → Rat) {i : Nat} (hi : i < A.length) (hir : i ≠ r) : rd B w v i = rd A w v (swp a r i) + -(ent A (swp a r i) c * (1 / ent A a c)) * rd A w v a := by
 unfold rd
 rw [gV, ← pO]
 exact cK w fun j hj => by rw [h.oth i j hi hir hj]; grind
theorem Stp.sol {A B : List (List Rat)} {w a r c : Nat} (h : Stp A B w a r c) (v : Nat → Rat) : Sol B w v ↔ Sol A w v := by
 have hl := h.len
 have hp := h.ne
 have ha := h.ha
 have hr := h.hr
 constructor
 ·intro hB
  have h1 : rd A w v a = 0 := by
   have h2 := hB r om
   rw [h.rdr] at h2
   grind
  intro k hk
  by_cases e : k = a
  ·rw [e]; exact h1
  ·have hi := oR hk h.ha h.hr
   have h3 := hB (swp a r k) om
   rw [h.rdo v hi (by unfold swp; rw [if_neg e]; split <;> omega), swp_swp, h1] at h3
   grind
 ·intro hA i hi
  by_cases e : i = r
  ·rw [e, h.rdr, hA a h.ha, Rat.mul_zero]
  ·rw [h.rdo v om e, hA a h.ha, hA _ (oR om h.ha h.hr)]; grind
theorem gjn_sol {R : List (List Rat)} {w : Nat} (hw : Wid w R) (v : Nat → Rat) : ∀ c, c ≤ w → (Sol (gjn R c).1 w v ↔ Sol R w v) :=
 qX hw (P := fun c S L => (Sol S w v ↔ Sol R w v)) Iff.rfl (fun c S L _ _ _ _ _ h _ => h) (fun c S L B a _ _ _ _ _ h hs _ _ => (hs.sol v).trans h)
theorem pivot_lt {R : List (List Rat)} {r c k : Nat} (h1 : r ≤ k) (h2 : k < pivot R r c) : ent R k c = 0 := by
 unfold pivot at h2
 have h3 : k - r < (R.drop r).findIdx (fun a => decide (a.getD c default ≠ 0)) := by omega
 have h4 := List.not_of_lt_findIdx h3
 have h5 : k - r < (R.drop r).length := Nat.lt_of_lt_of_le h3 List.findIdx_le_length
 rw [List.length_drop] at h5
 have e : (R.drop r)[k - r]'(by rw [List.length_drop]; omega) = R.getD k default := by
  rw [List.getElem_drop]
  simp only [show r + (k - r) = k by omega]
  rw [List.getD_eq_getElem?_getD, List.getElem?_eq_getElem om]; rfl
 rw [e] at h4
 unfold ent
 simpa using h4
theorem pivot_ext {A B : List (List Rat)} {r c : Nat} (hl : A.length = B.length) (hr : r ≤ A.length) (h : ∀ i, i < A.length → ent A i c = ent B i c) : pivot A r c = pivot B r c := by
 obtain ⟨p1, p2, p3⟩ := eQ (R := B) (r := r) (c := c) om
 refine kB p1 om (fun k h1 h2 => ?_) ?_
 ·rw [h k om]; exact pivot_lt h1 h2
 ·by_cases e : pivot B r c = B.length
  ·left; omega
  ·right; rw [h _ om]; exact p3 om
theorem gjn_ext {A B : List (List Rat)} {w w2 : Nat} (hA : Wid w A) (hB : Wid w2 B) (hww : w ≤ w2) (hl : B.length = A.length) (he : ∀ i j, i < A.length → j < w → ent B i j = ent A i j) : ∀ c, c ≤ w → (gjn B c).2 = (gjn A c).2 ∧ ∀ i j, i < A.length → j < w → ent (gjn B c).1 i j = ent (gjn A c).1 i j
 | 0, _ => ⟨rfl, he⟩
 | c + 1, hc => by
  obtain ⟨ih1, ih2⟩ := gjn_ext hA hB hww hl he c om
  have hSA := St0.all hA c om
  have hSB := St0.all hB c om
  have hlA := cW A c
  have hlB := cW B c
  have hpe : pivot (gjn B c).1 (gjn B c).2.length c = pivot (gjn A c).1 (gjn A c).2.length c := by
   rw [ih1]
   exact pivot_ext om (by have := hSA.led; omega) fun i hi => ih2 i c om om
  obtain ⟨p1, p2, p3⟩ := eQ (R := (gjn A c).1) (r := (gjn A c).2.length) (c := c) (by have := hSA.led; omega)
  by_cases e : pivot (gjn A c).1 (gjn A c).2.length c = (gjn A c).1.length
  ·rw [lL e, lL om]; exact ⟨ih1, ih2⟩
  ·rw [lZ (R := B) hpe om, lZ (R := A) rfl om, ih1]
   refine ⟨rfl, fun i j hi hj => ?_⟩
   have hp := p3 om
   have sA := stp_of (r := (gjn A c).2.length) (c := c) hSA.wid (show pivot (gjn A c).1 (gjn A c).2.length c < _ by omega) om om hp
   have sB := stp_of (r := (gjn A c).2.length) (c := c) hSB.wid (show pivot (gjn A c).1 (gjn A c).2.length c < _ by omega) om om (by rw [ih2 _ c om om]; exact hp)
   by_cases e2 : i = (gjn A c).2.length
   ·rw [e2, sA.row j hj, sB.row j om, ih2 _ c om om, ih2 _ j om hj]
   ·have hsl : swp (pivot (gjn A c).1 (gjn A c).2.length c) (gjn A c).2.length i < A.length := oR hi om om
    rw [sA.oth i j om e2 hj, sB.oth i j om e2 om, ih2 (swp _ _ i) c hsl om, ih2 (swp _ _ i) j hsl hj, ih2 _ c om om, ih2 _ j om hj]
theorem RI.ge {S : List (List Rat)} {L : List Nat} {c : Nat} (h : RI S L c) : ∀ t, t < L.length → t ≤ L.getD t default
 | 0, _ => Nat.zero_le _
 | t + 1, ht => by have := h.ge t om; have := h.mono t (t + 1) om ht; omega
theorem RI.le {S : List (List Rat)} {L : List Nat} {c : Nat} (h : RI S L c) : ∀ d t, t < L.length → L.length - 1 - t = d → L.getD t default + d < c
 | 0, t, ht, _ => by have := h.lt t ht; omega
 | d + 1, t, ht, hd => by have := h.le d (t + 1) om om; have := h.mono t (t + 1) om om; omega
theorem RI.unit {S : List (List Rat)} {L : List Nat} {c : Nat} (h : RI S L c) (hc : L.length = c) {i j : Nat} (hi : i < S.length) (hj : j < c) : ent S i j = if i = j then 1 else 0 := by
 have h1 := h.ge j om
 have h2 := h.le _ j om rfl
 have h3 := h.piv j om i hi
 rw [show L.getD j default = j by omega] at h3
 exact h3
theorem RowF.zero {n : Nat} {F : (Nat → Nat → Rat) → Rat} (hF : RowF n F) (M : Nat → Nat → Rat) {r : Nat} (hr : r < n) (h : ∀ b, b < n → M r b = 0) : F M = 0 := by
 have h1 := hF.scale M (r := r) 0 hr
 rw [Rat.zero_mul] at h1
 rw [← h1]
 refine hF.congr fun a b ha hb => ?_
 unfold upd
 by_cases e : a = r
 ·rw [if_pos e, e, h b hb]; exact (Rat.zero_mul _).symm
 ·rw [if_neg e]
def dtv (A : List (List Rat)) (n : Nat) : Rat := if (gjn A n).2.length < n then 0 else gjd A n
theorem gjn_end {n : Nat} {F : (Nat → Nat → Rat) → Rat} (hF : RowF n F) {A : List (List Rat)} (hl : A.length = n) (hw : Wid n A) : F (fm A) = dtv A n * F oneF := by
 have hR := gjn_RI hw n (Nat.le_refl _)
 have hgl := cW A n
 have h := gjn_F hF hl hw n (Nat.le_refl _)
 have hrk := hR.rk
 unfold dtv
 by_cases e : (gjn A n).2.length < n
 ·rw [if_pos e, h, hF.zero (fm (gjn A n).1) (r := n - 1) om (fun b hb => hR.zer (n - 1) om om b hb)]; grind
 ·rw [if_neg e, h]
  congr 1
  exact hF.congr fun a b ha hb => hR.unit om om hb
theorem det_dtv {n : Nat} {A : List (List Rat)} (hl : A.length = n) (hw : Wid n A) : det n (fm A) = dtv A n := by
 rw [gjn_end (lI n) hl hw, det_one, Rat.mul_one]
theorem det_mulF {n : Nat} {A : List (List Rat)} (hl : A.length = n) (hw : Wid n A) (B : Nat → Nat → Rat) : det n (mulF n (fm A) B) = dtv A n * det n B := by
 rw [gjn_end (mul_rowF n B) hl hw]
 congr 1
 refine eE n fun a b ha hb => ?_
 unfold mulF
 rw [gJ n ha fun i hi hne => by rw [show oneF a i = 0 from if_neg (Ne.symm hne), Rat.zero_mul], show oneF a a = 1 from if_pos rfl, Rat.one_mul]
open Go.RowKit
theorem dotR_rd {A : List (List Rat)} {w i : Nat} (hw : Wid w A) (hi : i < A.length) (y : List Rat) : dotR (A.getD i default) y = rd A w (fun j => y.getD j default) i := by
 rw [nV, hw.row hi]; rfl
def ev (w : Nat) (y : List Rat) : Nat → Rat := fun j => if j < w then y.getD j default else -1
theorem ent_wR {A : List (List Rat)} {b : List Rat} {w i j : Nat} (hw : Wid w A) (hi : i < A.length) (hj : j < w) : ent (wR A b) i j = ent A i j := by
 unfold ent wR
 rw [fN hi]
 simp only [List.getD_eq_getElem?_getD]
 rw [List.getElem?_append_left (by have := hw.row hi; rw [List.getD_eq_getElem?_getD] at this; omega)]
theorem ent_wR_last {A : List (List Rat)} {b : List Rat} {w i : Nat} (hw : Wid w A) (hi : i < A.length) : ent (wR A b) i w = b.getD i default := by
 unfold ent wR
 rw [fN hi]
 have h1 := hw.row hi
 rw [← h1]
 simp only [List.getD_eq_getElem?_getD]
 rw [List.getElem?_append_right (Nat.le_refl _), Nat.sub_self]; rfl
theorem rd_ev {S : List (List Rat)} {w : Nat} (y : List Rat) (i : Nat) : rd S (w + 1) (ev w y) i = rd S w (fun j => y.getD j default) i - ent S i w := by
 unfold rd
 rw [sm, show ev w y w = -1 from if_neg om, cK w fun j hj => by rw [show ev w y j = y.getD j default from if_pos hj]]
 grind
theorem sol_wR {A : List (List Rat)} {b y : List Rat} {w : Nat} (hw : Wid w A) : Sol (wR A b) (w + 1) (ev w y) ↔ ∀ i, i < A.length → dotR (A.getD i default) y = b.getD i default := by
 unfold Sol
 rw [nM]
 have key : ∀ i, i < A.length → rd (wR A b) (w + 1) (ev w y) i = dotR (A.getD i default) y - b.getD i default := fun i hi => by
  rw [rd_ev, ent_wR_last hw hi, dotR_rd hw hi]
  congr 1
  exact cK w fun j hj => by rw [ent_wR hw hi hj]
 constructor
 ·intro h i hi
  have := h i hi
  rw [key i hi] at this; grind
 ·intro h i hi
  rw [key i hi, h i hi]; grind
theorem solv_getD {S : GS} {w : Nat} (hm : ∀ t u, t < u → u < S.2.length → S.2.getD t default < S.2.getD u default) (hlt : ∀ t, t < S.2.length → S.2.getD t default < w) : ∀ i, i ≤ S.2.length → ∀ j, j < w → (solv S w i).getD j default = sm (fun t => if S.2.getD t default = j then ent S.1 t w else 0) i
 | 0, _, j, hj => by
  rw [solv, sm]; simp [List.getD_eq_getElem?_getD, hj]
 | i + 1, hi, j, hj => by
  rw [solv, sm, cD (by rw [solv_len]; exact hj)]
  by_cases e : S.2.getD i default = j
  ·rw [if_pos e, if_pos e]
   have h0 : sm (fun t => if S.2.getD t default = j then ent S.1 t w else 0) i = 0 := by
    refine (cK i fun t ht => if_neg ?_).trans (iN i)
    have := hm t i ht om
    omega
   rw [h0]; grind
  ·rw [if_neg e, if_neg e, Rat.add_zero, solv_getD hm hlt i om j hj]
theorem solv_ok {A : List (List Rat)} {b : List Rat} {w : Nat} (hw : Wid w A) (hns : nosol (gjn (wR A b) w) w = false) : ∀ i, i < A.length → dotR (A.getD i default) (solv (gjn (wR A b) w) w (gjn (wR A b) w).2.length) = b.getD i default := by
 have hW : Wid (w + 1) (wR A b) := wR_wid hw
 rw [← sol_wR hw, ← gjn_sol hW _ w om]
 have hR := gjn_RI hW w om
 have hl : (gjn (wR A b) w).1.length = A.length := by rw [cW, nM]
 generalize gjn (wR A b) w = S at *
 intro i hi
 rw [rd_ev]
 have h1 : rd S.1 w (fun j => (solv S w S.2.length).getD j default) i = sm (fun t => ent S.1 i (S.2.getD t default) * ent S.1 t w) S.2.length := by
  have e1 : ∀ j, j < w → ent S.1 i j * (solv S w S.2.length).getD j default = sm (fun t => ent S.1 i j * if S.2.getD t default = j then ent S.1 t w else 0) S.2.length := fun j hj => by
   rw [solv_getD hR.mono hR.lt _ (Nat.le_refl _) j hj, gV]
  unfold rd
  rw [cK w e1]
  rw [sm_swap (fun j t => ent S.1 i j * if S.2.getD t default = j then ent S.1 t w else 0)]
  refine cK _ fun t ht => ?_
  rw [gJ (j := S.2.getD t default) w (hR.lt t ht) fun j _ hne => by rw [if_neg (Ne.symm hne), Rat.mul_zero], if_pos rfl]
 rw [h1]
 by_cases e : i < S.2.length
 ·rw [gJ (j := i) _ e fun t ht hne => by rw [hR.piv t ht i hi, if_neg (Ne.symm hne), Rat.zero_mul], hR.piv i e i hi, if_pos rfl]
  grind
 ·rw [show sm (fun t => ent S.1 i (S.2.getD t default) * ent S.1 t w) S.2.length = 0 by
   rw [← iN S.2.length]
   exact cK _ fun t ht => by rw [hR.piv t ht i hi, if_neg om, Rat.zero_mul]]
  have hp : pivot S.1 S.2.length w = S.1.length := by
   unfold nosol at hns
   have := of_decide_eq_false hns
   omega
  rw [nG hp om hi]; grind
def two (n : Nat) (x y : Nat → Rat) : Nat → Rat := fun j => if j < n then x j else y (j - n)
open Go.RowKit
theorem pL {q : Rat} {y : NM} (h : outN q = some y) : VN y ∧ nq y = q := by
 unfold outN at h
 split at h
 ·rename_i hc
  obtain ⟨⟨h1, h2⟩, h3⟩ := hc
  cases h
  have := q.den_pos
  refine ⟨⟨by show (1 : Int) ≤ (q.den : Int); omega, h3, h2, h1, ?_⟩, Rat.num_divInt_den q⟩
  show Int.gcd q.num (q.den : Int) = 1
  have := q.reduced
  unfold Nat.Coprime at this
  rw [Int.gcd, Int.natAbs_natCast]; exact this
 ·cases h
theorem VN.i64 {y : NM} (h : VN y) : I64 y.1 ∧ I64 y.2 := by
 obtain ⟨k1, k2, k3, k4, _⟩ := h
 unfold I64; omega
section
variable {P : Program} {T : TT} {E : TypeId → Bool} {N : Nat} {oa : Array Oper} {i b n z id : Nat} {e : Env} {h : Hp} {Q : Env → Hp → Prop} {K : Ex → Env → Hp → Nat → Prop} {t dst : Nat} {pos : String} {af : Array Edge} {l : List Oper} {x : Operand} {r : LV} {acc : List Rec} {c : Code} {o : Oper} {k : IntKind} {u : Int} {d : Delta} {R : List Nat}
theorem Um (hx : evE e x = some r) (hd : Nat.blt dst N = true) (q : WO P T E N oa l (i + 1) b ((dst, r) :: e) h Q) : WO P T E N oa (⟨some dst, .move x, t, pos, af, none⟩ :: l) i b e h Q := aA (eW hx) hd q
theorem Ua (hx : evE e x = some r) (hd : Nat.blt dst N = true) (q : WO P T E N oa l (i + 1) b ((dst, r) :: e) h Q) : WO P T E N oa (⟨some dst, .assign x, t, pos, af, none⟩ :: l) i b e h Q := aA (jJ hx) hd q
theorem Dm (hx : evE e x = some r) (hd : Nat.blt dst N = true) (q : WD P T E N oa l (i + 1) b ((dst, r) :: e) h (⟨i, [], [], false⟩ :: acc) Q) : WD P T E N oa (⟨some dst, .move x, t, pos, af, none⟩ :: l) i b e h acc Q := aC (eW hx) hd q
theorem Wn (q : Q e h) : WO P T E N oa [] i b e h Q := cQ q
theorem Nw (a : Env) (hs : subs a e) (q : WC P T E N c a h n K) : WO P T E N oa [] i b e h (fun e' m' => WC P T E N c e' m' n K) := cQ (qQ a hs q)
theorem Rg (z : Nat) (hz : oa.size = z) (q : WO P T E N oa oa.toList 0 n e h fun e' m' => WC P T E N c e' m' (n + z) K) : WC P T E N (.seq (.region id oa false) c) e h n K := WC.reg hz q
def pickE : List Nat → Env → Option Env
 | [], _ => some []
 | t :: ts, e => match e.get t, pickE ts e with
  | some v, some a => some ((t, v) :: a)
  | _, _ => none
theorem nF : ∀ {ts : List Nat} {e a : Env}, pickE ts e = some a → subs a e
 | [], e, a, h => by simp only [pickE, Option.some.injEq] at h; subst h; trivial
 | t :: ts, e, a, h => by
  simp only [pickE] at h
  cases h1 : e.get t with
  | none => rw [h1] at h; cases h
  | some v =>
   cases h2 : pickE ts e with
   | none => rw [h1, h2] at h; cases h
   | some a' =>
    rw [h1, h2] at h; cases h
    exact ⟨h1, nF h2⟩
theorem Nk {a : Env} (ts : List Nat) (hs : pickE ts e = some a) (q : WC P T E N c a h n K) : WO P T E N oa [] i b e h (fun e' m' => WC P T E N c e' m' n K) := cQ (qQ a (nF hs) q)
theorem Ck {a : Env} (ts : List Nat) (hs : pickE ts e = some a) (q : WC P T E N c a h n K) : WC P T E N c e h n K := qQ a (nF hs) q
theorem K1 {op : Op} {g : Option (Nat × Bool)} (hg : guardE oa ⟨some dst, op, t, pos, af, g⟩ e = some false) (hd : Nat.blt dst N = true) (k : WO P T E N oa l (i + 1) b ((dst, .v undef) :: e) h Q) : WO P T E N oa (⟨some dst, op, t, pos, af, g⟩ :: l) i b e h Q := WO.K hg hd k
theorem gG {s : Nat} {y : Option Ob} (q : getH h s = y := by repeat (first | exact g0 | refine g1 om ?_)) : getH h s = y := q
theorem dD {p : Prop} (q : p := by first | exact dc | exact dc1 | (simp [-cJ]; done) | simp) : p := q
theorem cI (v : Int) (q : OP P T E o id e h (.v (.int k u)) d R) (hv : u = v) : OP P T E o id e h (.v (.int k v)) d R := OP.castI q hv
end
theorem J {α : Sort _} {a : α} : a = a := rfl
theorem kR {p : Prop} (q : p := by kernel_rfl) : p := q
theorem dL {a b : Nat} (h : Nat.ble a b = true) : a ≤ b := Nat.le_of_ble_eq_true h
end Go.Ab
namespace Go.Ab
open Go.RowKit
structure GB (R : List (List Rat)) (cols β : Nat) : Prop where
 pos : 2 ≤ β
 bds : ∀ c, c < cols → BdL β (gjn R c).1
 dts : ∀ c, c < cols → Bd β (gjd R c)
structure GI3 (R : List (List Rat)) (w β cols c : Nat) : Prop where
 bds : c < cols → BdL β (gjn R c).1
 wid : Wid w (gjn R c).1
 led : (gjn R c).2.length ≤ R.length
 ldc : ∀ x, x ∈ (gjn R c).2 → x < c
theorem GB.all {R : List (List Rat)} {cols β w : Nat} (h : GB R cols β) (hw : Wid w R) (hcw : cols ≤ w) (c : Nat) (hc : c ≤ cols) : GI3 R w β cols c where
 bds hcc := h.bds c hcc
 wid := (St0.all hw c om).wid
 led := (St0.all hw c om).led
 ldc x hx := by
  obtain ⟨t, ht, rfl⟩ := List.mem_iff_getElem.1 hx
  have := (gjn_RI hw c om).lt t ht
  rw [List.getD_eq_getElem?_getD, List.getElem?_eq_getElem ht] at this
  exact this
theorem Bd_int {z : Int} (h : z.natAbs < 18446744073709551616) : Bd 2 (z : Rat) := by
 refine ⟨?_, ?_⟩
 ·rw [Rat.num_intCast]; exact fH h
 ·rw [Rat.den_intCast]; exact Nat.le_trans (eP (n := 1) (by decide)) (by decide)
open Go.RowKit
theorem bV {q sz : Nat} {el : TypeId} {us : List (List LV)} {h H : Hp} (hq : us ≠ [] → getH H q = some { cells := us.flatten, sz := sz, elem := el, st := 0 }) (hs : subsM h H) : subsM (outH q sz el us h) H := by
 cases us with
 | nil => exact hs
 | cons u us => exact ⟨hq (by simp), hs⟩
section
variable {P : Program} {T : TT} {E : TypeId → Bool} {N : Nat} {e : Env} {h : Hp} {K : Env → Hp → Prop}
variable {dst : Option Tmp} {ty : TypeId} {pos : String} {af : Array Edge} {g : Option (Nat × Bool)} {id : Nat} {x y : Operand} {bt : TypeId} {ti : TI}
end
end Go.Ab
namespace Go.Ab
open Go.RowKit
abbrev BR := Int × NM
abbrev CH := NM × (Nat × List BR)
abbrev ST := (Int × Int) × (Nat × List CH)
def brc (b : BR) : List LV := [.v (.int .i64 b.1), .v (.int .i64 b.2.1), .v (.int .i64 b.2.2)]
def chc (c : CH) : List LV := [.v (.int .i64 c.1.1), .v (.int .i64 c.1.2), .sl c.2.1 (c.2.2.map brc)]
def stc (s : ST) : List LV := [.v (.int .i64 s.1.1), .v (.int .i64 s.1.2), .sl s.2.1 (s.2.2.map chc)]
def lvC (c : CH) : LV := .agg (chc c)
def lvMo (k : Nat) (ss : List ST) : LV := .agg [.sl k (ss.map stc)]
def IB (b : BR) : Prop := I64 b.1 ∧ I64 b.2.1 ∧ I64 b.2.2
def IC (c : CH) : Prop := I64 c.1.1 ∧ I64 c.1.2 ∧ ∀ b, b ∈ c.2.2 → IB b
def IS (s : ST) : Prop := I64 s.1.1 ∧ I64 s.1.2 ∧ ∀ c, c ∈ s.2.2 → IC c
theorem dbrc {bs : List BR} : ∀ row, row ∈ bs.map brc → ∀ c, c ∈ row → Data c := by
 intro row hr c hc
 obtain ⟨b, _, rfl⟩ := List.mem_map.1 hr
 simp only [brc, List.mem_cons, List.not_mem_nil, or_false] at hc
 rcases hc with rfl | rfl | rfl <;> exact .v _
theorem dchc1 (c : CH) : ∀ x, x ∈ chc c → Data x := by
 intro x hx
 simp only [chc, List.mem_cons, List.not_mem_nil, or_false] at hx
 rcases hx with rfl | rfl | rfl
 ·exact .v _
 ·exact .v _
 ·exact .sl _ _ fun row hr c hc => dbrc row hr c hc
theorem dchc {cs : List CH} : ∀ row, row ∈ cs.map chc → ∀ c, c ∈ row → Data c := by
 intro row hr c hc
 obtain ⟨b, _, rfl⟩ := List.mem_map.1 hr
 exact dchc1 b c hc
theorem dstc1 (s : ST) : ∀ x, x ∈ stc s → Data x := by
 intro x hx
 simp only [stc, List.mem_cons, List.not_mem_nil, or_false] at hx
 rcases hx with rfl | rfl | rfl
 ·exact .v _
 ·exact .v _
 ·exact .sl _ _ fun row hr c hc => dchc row hr c hc
theorem dstc {ss : List ST} : ∀ row, row ∈ ss.map stc → ∀ c, c ∈ row → Data c := by
 intro row hr c hc
 obtain ⟨b, _, rfl⟩ := List.mem_map.1 hr
 exact dstc1 b c hc
def psum (bs : List BR) : Nat → Rat
 | 0 => 0
 | i + 1 => psum bs i + nq (bs.getD i default).2
def lastB (bs : List BR) : Nat → Int
 | 0 => -1
 | i + 1 => (bs.getD i default).1
def okB (n : Nat) (bs : List BR) (i : Nat) : Bool := decide (lastB bs i < (bs.getD i default).1) && decide ((bs.getD i default).1 < n) && vn (bs.getD i default).2 && decide (0 < (bs.getD i default).2.1)
def VC (n : Nat) (c : CH) : Bool := vn c.1 && decide (1 ≤ c.2.2.length) && decide (c.2.2.length ≤ 8) && (List.range c.2.2.length).all (okB n c.2.2) && decide (psum c.2.2 c.2.2.length = 1)
def VS (n : Nat) (s : ST) : Bool := decide (0 ≤ s.1.1) && decide (s.1.1 ≤ 1) && decide (0 ≤ s.1.2) && decide (s.1.2 ≤ 63) && decide (1 ≤ s.2.2.length) && decide (s.2.2.length ≤ 8) && s.2.2.all (VC n)
def VMo (ss : List ST) : Bool := decide (1 ≤ ss.length) && decide (ss.length ≤ 40) && ss.all (VS ss.length)
theorem range_all_no {n i : Nat} {p : Nat → Bool} (hi : i < n) (h : p i = false) : (List.range n).all p = false := by
 rw [Bool.eq_false_iff]
 intro h2
 have := List.all_eq_true.1 h2 i (List.mem_range.2 hi)
 rw [h] at this; cases this
theorem jS {n : Nat} {p : Nat → Bool} (h : ∀ i, i < n → p i = true) : (List.range n).all p = true := List.all_eq_true.2 fun i hi => h i (List.mem_range.1 hi)
theorem mE {bs : List BR} : ∀ i, i ≤ bs.length → (∀ j, j < i → vn (bs.getD j default).2 = true) → Bd (1 + 3 * i) (psum bs i)
 | 0, _, _ => Bd0 (by decide)
 | i + 1, hi, h => by
  have h1 := mE i om (fun j hj => h j om)
  have h2 : VN (bs.getD i default).2 := of_decide_eq_true (h i om)
  exact (h1.add h2.bd).mono om
theorem nE {n : Nat} {bs : List BR} {i : Nat} (h : okB n bs i = true) : vn (bs.getD i default).2 = true ∧ 0 < (bs.getD i default).2.1 := by
 unfold okB at h
 rw [Bool.and_eq_true, Bool.and_eq_true] at h
 exact ⟨h.1.2, of_decide_eq_true h.2⟩
theorem VC_no1 {n : Nat} {c : CH} (h : vn c.1 = false) : VC n c = false := by unfold VC; rw [h]; rfl
theorem VC_no2 {n : Nat} {c : CH} (h : c.2.2.length < 1 ∨ 8 < c.2.2.length) : VC n c = false := by
 unfold VC
 rcases h with h | h
 ·rw [decide_eq_false (show ¬ 1 ≤ c.2.2.length by omega), Bool.and_false]; rfl
 ·rw [decide_eq_false (show ¬ c.2.2.length ≤ 8 by omega), Bool.and_false]; rfl
theorem iY {n i : Nat} {c : CH} (hi : i < c.2.2.length) (h : okB n c.2.2 i = false) : VC n c = false := by
 unfold VC
 rw [range_all_no hi h, Bool.and_false]; rfl
theorem VC_yes {n : Nat} {c : CH} (h1 : vn c.1 = true) (h2 : 1 ≤ c.2.2.length) (h3 : c.2.2.length ≤ 8) (h4 : ∀ i, i < c.2.2.length → okB n c.2.2 i = true) : VC n c = decide (psum c.2.2 c.2.2.length = 1) := by
 unfold VC
 rw [h1, decide_eq_true h2, decide_eq_true h3, jS h4]; rfl
theorem jF {n i : Nat} {bs : List BR} (h : (bs.getD i default).1 ≤ lastB bs i ∨ (n : Int) ≤ (bs.getD i default).1 ∨ vn (bs.getD i default).2 = false ∨ (bs.getD i default).2.1 ≤ 0) : okB n bs i = false := by
 unfold okB
 rcases h with h | h | h | h
 ·rw [decide_eq_false (show ¬ lastB bs i < (bs.getD i default).1 by omega)]; rfl
 ·rw [decide_eq_false (show ¬ (bs.getD i default).1 < (n : Int) by omega), Bool.and_false]; rfl
 ·rw [h, Bool.and_false]; rfl
 ·rw [decide_eq_false (show ¬ 0 < (bs.getD i default).2.1 by omega), Bool.and_false]
theorem okB_yes {n i : Nat} {bs : List BR} (h1 : lastB bs i < (bs.getD i default).1) (h2 : (bs.getD i default).1 < (n : Int)) (h3 : vn (bs.getD i default).2 = true) (h4 : 0 < (bs.getD i default).2.1) : okB n bs i = true := by
 unfold okB
 rw [decide_eq_true h1, decide_eq_true h2, h3, decide_eq_true h4]; rfl
theorem sign_one {x : Rat} : ((x - 1).num.sign = 0) ↔ x = 1 := by
 rw [fY]
 constructor <;> intro h <;> grind
theorem lC {n : Nat} {s : ST} (h : s.1.1 < 0 ∨ 1 < s.1.1 ∨ s.1.2 < 0 ∨ 63 < s.1.2 ∨ s.2.2.length < 1 ∨ 8 < s.2.2.length) : VS n s = false := by
 unfold VS
 rcases h with h | h | h | h | h | h
 ·rw [decide_eq_false (show ¬ 0 ≤ s.1.1 by omega)]; rfl
 ·rw [decide_eq_false (show ¬ s.1.1 ≤ 1 by omega), Bool.and_false]; rfl
 ·rw [decide_eq_false (show ¬ 0 ≤ s.1.2 by omega), Bool.and_false]; rfl
 ·rw [decide_eq_false (show ¬ s.1.2 ≤ 63 by omega), Bool.and_false]; rfl
 ·rw [decide_eq_false (show ¬ 1 ≤ s.2.2.length by omega), Bool.and_false]; rfl
 ·rw [decide_eq_false (show ¬ s.2.2.length ≤ 8 by omega), Bool.and_false]; rfl
theorem VS_no2 {n j : Nat} {s : ST} (hj : j < s.2.2.length) (h : VC n (s.2.2.getD j default) = false) : VS n s = false := by
 unfold VS
 rw [rO (i := j) hj h, Bool.and_false]
theorem VS_yes {n : Nat} {s : ST} (h1 : 0 ≤ s.1.1) (h2 : s.1.1 ≤ 1) (h3 : 0 ≤ s.1.2) (h4 : s.1.2 ≤ 63) (h5 : 1 ≤ s.2.2.length) (h6 : s.2.2.length ≤ 8) (h7 : s.2.2.all (VC n) = true) : VS n s = true := by
 unfold VS
 rw [decide_eq_true h1, decide_eq_true h2, decide_eq_true h3, decide_eq_true h4, decide_eq_true h5, decide_eq_true h6, h7]; rfl
theorem VMo_no {ss : List ST} (h : ss.length < 1 ∨ 40 < ss.length) : VMo ss = false := by
 unfold VMo
 rcases h with h | h
 ·rw [decide_eq_false (show ¬ 1 ≤ ss.length by omega)]; rfl
 ·rw [decide_eq_false (show ¬ ss.length ≤ 40 by omega), Bool.and_false]; rfl
theorem fC {i : Nat} {ss : List ST} (hi : i < ss.length) (h : VS ss.length (ss.getD i default) = false) : VMo ss = false := by
 unfold VMo
 rw [rO (i := i) hi h, Bool.and_false]
theorem VMo_yes {ss : List ST} (h1 : 1 ≤ ss.length) (h2 : ss.length ≤ 40) (h3 : ss.all (VS ss.length) = true) : VMo ss = true := by
 unfold VMo
 rw [decide_eq_true h1, decide_eq_true h2, h3]; rfl
instance {c : CH} : DC (lvC c) := ⟨.agg _ (dchc1 c)⟩
instance {k : Nat} {ss : List ST} : DC (lvMo k ss) := ⟨.agg _ (by intro c hc; rw [List.mem_singleton] at hc; subst hc; exact .sl _ _ fun row hr c hc => dstc row hr c hc)⟩
open Go.RowKit
theorem lastB_pos {bs : List BR} {i : Nat} (h : 0 < i) : lastB bs i = (bs.getD (i - 1) default).1 := by
 obtain ⟨j, rfl⟩ : ∃ j, i = j + 1 := ⟨i - 1, om⟩
 rfl
theorem okB_lo {n : Nat} {bs : List BR} : ∀ i, (∀ j, j < i → okB n bs j = true) → -1 ≤ lastB bs i
 | 0, _ => Int.le_refl _
 | i + 1, h => by
  have h1 := okB_lo i (fun j hj => h j om)
  have h2 := h i om
  unfold okB at h2
  rw [Bool.and_eq_true, Bool.and_eq_true, Bool.and_eq_true] at h2
  have h3 := of_decide_eq_true h2.1.1.1
  show -1 ≤ (bs.getD i default).1
  omega
def ic (n : Int) : List LV := [.v (.int .i64 n)]
theorem dic {l : List Int} : ∀ row, row ∈ l.map ic → ∀ c, c ∈ row → Data c := by
 intro row hr c hc
 obtain ⟨b, _, rfl⟩ := List.mem_map.1 hr
 rw [ic, List.mem_singleton] at hc
 subst hc; exact .v _
open Go.RowKit
section
variable {P : Program} {T : TT} {E : TypeId → Bool} {e : Env} {h : Hp}
variable {dst : Option Tmp} {ty : TypeId} {pos : String} {af : Array Edge} {g : Option (Nat × Bool)} {id : Nat} {x y : Operand} {bt el : TypeId} {ti te : TI}
end
def sb (f : Nat → Bool) : List LV := (List.range 40).map fun i => .v (.bool (f i))
def lvS (f : Nat → Bool) : LV := .agg (sb f)
theorem data_sb (f : Nat → Bool) : ∀ c, c ∈ sb f → Data c := fun c hc => by
 obtain ⟨i, _, rfl⟩ := List.mem_map.1 hc
 exact .v _
instance {f : Nat → Bool} : DC (lvS f) := ⟨.agg _ (data_sb f)⟩
section
variable {P : Program} {T : TT} {E : TypeId → Bool} {e : Env} {h : Hp}
variable {dst : Option Tmp} {ty : TypeId} {pos : String} {af : Array Edge} {g : Option (Nat × Bool)} {id : Nat} {x y : Operand} {bt el : TypeId} {ti te : TI}
end
def inl (l : List Int) (i : Nat) (s : Nat) : Bool := (l.take i).any fun t => decide (t = s)
def inL (l : List Int) (s : Nat) : Bool := l.any fun t => decide (t = s)
end Go.Ab
namespace Go.Ab
open Go.RowKit
def tab {α : Type} (n : Nat) (f : Nat → α) : List α := (List.range n).map f
def fset {α : Type} (f : Nat → α) (j : Nat) (a : α) : Nat → α := fun i => if i = j then a else f i
theorem eO {α : Type} (n : Nat) (f : Nat → α) : (tab n f).length = n := by simp [tab]
theorem tab_get {α : Type} [Inhabited α] {n j : Nat} (f : Nat → α) (h : j < n) : (tab n f).getD j default = f j := by
 rw [List.getD_eq_getElem?_getD, List.getElem?_eq_getElem (by rw [eO]; exact h)]
 simp [tab]
theorem tab_set {α : Type} {n j : Nat} (f : Nat → α) (a : α) : (tab n f).set j a = tab n (fset f j a) := by
 refine List.ext_getElem (by simp [tab]) fun i h1 h2 => ?_
 rw [List.getElem_set]
 simp only [tab, fset, List.getElem_map, List.getElem_range]
 by_cases h : j = i
 ·subst h; simp
 ·rw [if_neg h, if_neg (Ne.symm h)]
theorem tab_eq {α : Type} {n : Nat} {f g : Nat → α} (h : ∀ i, i < n → f i = g i) : tab n f = tab n g := List.map_congr_left fun i hi => h i (List.mem_range.1 hi)
theorem tab_const {α : Type} (n : Nat) (a : α) : List.replicate n a = tab n fun _ => a := by
 refine List.ext_getElem (by simp [tab]) fun i h1 h2 => by simp [tab]
def bc (b : Bool) : List LV := [.v (.bool b)]
theorem dbc (b : Bool) : ∀ c, c ∈ bc b → Data c := by intro c hc; rw [bc, List.mem_singleton] at hc; subst hc; exact .v _
theorem dic1 (b : Int) : ∀ c, c ∈ ic b → Data c := by intro c hc; rw [ic, List.mem_singleton] at hc; subst hc; exact .v _
def fl (n : Nat) (f : Nat → Bool) : List Int := ((List.range n).filter f).map fun (i : Nat) => (i : Int)
abbrev lvL (k : Nat) (l : List Int) : LV := .sl k (l.map ic)
abbrev lvF (k n : Nat) (f : Nat → Bool) : LV := .sl k ((tab n f).map bc)
abbrev lvG (k n : Nat) (g : Nat → Int) : LV := .sl k ((tab n g).map ic)
theorem dlvL (k : Nat) (l : List Int) : Data (lvL k l) := .sl _ _ dic
theorem dlvF (k n : Nat) (f : Nat → Bool) : Data (lvF k n f) := .sl _ _ (cL dbc)
instance {k : Nat} {l : List Int} : DC (lvL k l) := ⟨dlvL k l⟩
instance {k n : Nat} {f : Nat → Bool} : DC (lvF k n f) := ⟨dlvF k n f⟩
instance {k n : Nat} {f : Nat → Int} : DC (lvG k n f) := ⟨dlvL k _⟩
section
variable {P : Program} {T : TT} {E : TypeId → Bool} {e : Env} {h : Hp}
variable {dst : Option Tmp} {ty : TypeId} {pos : String} {af : Array Edge} {g : Option (Nat × Bool)} {id : Nat}
def Lent (h : Hp) (S : List Nat) : Prop := ∀ q, q ∈ S → ∃ o, getH h q = some o ∧ o.st ≠ 2
inductive SnapB (h : Hp) (S : List Nat) : List LV → List LV → Prop
 | nil : SnapB h S [] []
 | cons {l l' : LV} {ls ls' : List LV} : (∀ m, FitsM h m → Snap m (· ∈ S) l l') → SnapB h S ls ls' → SnapB h S (l :: ls) (l' :: ls')
theorem SnapB.snap {m : Mem} {S : List Nat} {d : Delta} {ls ls' : List LV} (hm : FitsM h m) (hk : keys d = S) (hw : SnapB h S ls ls') : SnapL m d ls ls' := by
 subst hk
 induction hw with
 | nil => exact ⟨rfl, by simp⟩
 | cons h1 _ ih =>
  refine ⟨by simp [ih.1], fun i l l' hl hl' => ?_⟩
  cases i with
  | zero => simp at hl hl'; subst hl; subst hl'; exact h1 m hm
  | succ i => simp at hl hl'; exact ih.2 i l l' hl hl'
theorem SnapB.data {S : List Nat} {l : LV} {ls ls' : List LV} (hl : Data l) (k : SnapB h S ls ls') : SnapB h S (l :: ls) (l :: ls') := .cons (fun m _ => .data _ hl) k
theorem SnapB.own {S : List Nat} {q sz len : Nat} {ob : Ob} {ls ls' : List LV} (ys : List (List LV)) (hlen : len = ys.length) (hq : getH h q = some ob) (h2 : ob.st ≠ 2) (hz : ob.sz = sz) (h0 : 0 < sz) (hS : q ∈ S) (hc : ob.cells = ys.flatten) (hl : ∀ row, row ∈ ys → row.length = sz) (hd : ∀ row, row ∈ ys → ∀ c, c ∈ row → Data c) (k : SnapB h S ls ls') :
  SnapB h S (.ref q sz 0 len :: ls) (.sl 1 ys :: ls') := .cons (fun m hm => by
   subst hlen
   obtain ⟨d, hk⟩ : ∃ d : Delta, keys d = S := ⟨S.map fun q => (q, ⟨[], 0, 0, 0⟩), by simp [keys, Function.comp_def]⟩
   subst hk
   exact mK hq h2 hz h0 hS hc hl hd m hm) k
theorem snapBox {S : List Nat} {q : Nat} {ob : Ob} {ds : List LV} {m : Mem} (hq : m q = some ob) (h2 : ob.st ≠ 2) (hS : q ∈ S) (hlen : ob.cells.length = ds.length) (ho : ∀ (i : Nat) (c d : LV), ob.cells[i]? = some c → ds[i]? = some d → d.one = c.one) (hd : ∀ (i : Nat) (c d : LV), ob.cells[i]? = some c → ds[i]? = some d → Snap m (· ∈ S) c d) :
  Snap m (· ∈ S) (.ptr q 0) (.ro ds) := .ptr q 0 ob ds hq hS h2 (by simpa using hlen) (by simpa using ho) (by simpa using hd)
theorem snapBoxD {S : List Nat} {q : Nat} {ob : Ob} {m : Mem} (hq : m q = some ob) (h2 : ob.st ≠ 2) (hS : q ∈ S) (hd : ∀ c, c ∈ ob.cells → Data c) : Snap m (· ∈ S) (.ptr q 0) (.ro ob.cells) :=
 snapBox hq h2 hS rfl (fun i c d hc hd => by rw [hc] at hd; cases hd; rfl) fun i c d hc hd' => by rw [hc] at hd'; cases hd'; exact .data _ (hd c (List.mem_of_getElem? hc))
end
end Go.Ab
namespace Go.Ab
open Go.RowKit
section
variable {P : Program} {T : TT} {E : TypeId → Bool} {e : Env} {h : Hp}
variable {dst : Option Tmp} {ty : TypeId} {pos : String} {af : Array Edge} {g : Option (Nat × Bool)} {id : Nat} {x y : Operand} {bt el : TypeId} {ti te : TI}
theorem oStTi {f : Nat → Int} {b : Int} {n j r : Nat} (hx : evE e x = some (.ptr r ((0 + j) * 1))) (hy : evE e y = some (.v (.int .i64 b))) (hE : T bt = some ti) (hr : getH h r = some { cells := ((tab n f).map ic).flatten, sz := 1, elem := el, st := 0 }) (hj : j < n) (hz : 1 = ti.size) :
  OP P T E ⟨dst, .store bt x y, ty, pos, af, g⟩ id e h (.v undef) [(r, { cells := ((tab n (fset f j b)).map ic).flatten, sz := 1, elem := el, st := 0 })] [r] := by
 have := eJ (P := P) (T := T) (E := E) (e := e) (h := h) (dst := dst) (ty := ty) (pos := pos) (af := af) (g := g) (id := id) (f := ic) (us := tab n f) b hx hy hE hr (fun _ => rfl) hz rfl (by rw [eO]; exact hj) rfl
 rwa [tab_set] at this
end
theorem rows_ic {n : Nat} {f : Nat → Int} : ∀ row, row ∈ (tab n f).map ic → row.length = 1 := cU (f := ic) fun _ => rfl
def wi (c : CH) (f : Nat → Bool) : Bool := c.2.2.all fun b => f b.1.toNat
def me (c : CH) (f : Nat → Bool) : Bool := c.2.2.any fun b => f b.1.toNat
def okc (f g : Nat → Bool) (c : CH) : Bool := wi c f && me c g
def alw (ss : List ST) (s : Nat) (p : Int) (f g : Nat → Bool) : Bool :=
 if (ss.getD s default).1.1 = p then (ss.getD s default).2.2.any (okc f g) else (ss.getD s default).2.2.all (okc f g)
structure WT (ss : List ST) : Prop where
 to : ∀ s, s ∈ ss → ∀ c, c ∈ s.2.2 → ∀ b, b ∈ c.2.2 → 0 ≤ b.1 ∧ b.1 < ss.length
 len : ss.length ≤ 40
end Go.Ab
namespace Go.Ab
open Go.RowKit
theorem tab_repi (n : Nat) : (List.replicate n [LV.v (.int .i64 0)]).flatten = ((tab n fun _ => (0 : Int)).map ic).flatten := by rw [← tab_const, List.map_replicate]; rfl
section
variable {P : Program} {T : TT} {E : TypeId → Bool} {e : Env} {h : Hp}
variable {dst : Option Tmp} {ty : TypeId} {pos : String} {af : Array Edge} {g : Option (Nat × Bool)} {id : Nat} {x y : Operand} {bt el : TypeId} {ti te : TI}
end
end Go.Ab
namespace Go.Ab
open Go.RowKit
section
variable {P : Program} {T : TT} {E : TypeId → Bool} {e : Env} {h : Hp}
variable {dst : Option Tmp} {ty : TypeId} {pos : String} {af : Array Edge} {g : Option (Nat × Bool)} {id : Nat}
theorem SnapB.get {S : List Nat} {m : Mem} (hm : FitsM h m) {ls ls' : List LV} (hw : SnapB h S ls ls') : ls.length = ls'.length ∧ ∀ (i : Nat) (c d : LV), ls[i]? = some c → ls'[i]? = some d → Snap m (· ∈ S) c d := by
 induction hw with
 | nil => exact ⟨rfl, by simp⟩
 | cons h1 _ ih =>
  refine ⟨by simp [ih.1], fun i l l' hl hl' => ?_⟩
  cases i with
  | zero => simp at hl hl'; subst hl; subst hl'; exact h1 m hm
  | succ i => simp at hl hl'; exact ih.2 i l l' hl hl'
theorem SnapB.fn {S : List Nat} {f : Fn} {as0 as1 bs bs' ls ls' : List LV} (h1 : SnapB h S as0 as1) (h2 : SnapB h S bs bs') (k : SnapB h S ls ls') : SnapB h S (.fn f as0 bs :: ls) (.fn f as1 bs' :: ls') :=
 .cons (fun m hm => .fn f _ _ _ _ (h1.get hm).1 (h2.get hm).1 (h1.get hm).2 (h2.get hm).2) k
theorem SnapB.box {S : List Nat} {q : Nat} {ob : Ob} {ls ls' : List LV} (hq : getH h q = some ob) (hS : q ∈ S) (h2 : ob.st ≠ 2) (hd : ∀ c, c ∈ ob.cells → Data c) (k : SnapB h S ls ls') : SnapB h S (.ptr q 0 :: ls) (.ro ob.cells :: ls') :=
 .cons (fun m hm => snapBoxD (hm _ _ hq) h2 hS hd) k
theorem SnapB.app {S : List Nat} {as0 as1 bs bs' : List LV} (h1 : SnapB h S as0 as1) (h2 : SnapB h S bs bs') : SnapB h S (as0 ++ bs) (as1 ++ bs') := by
 induction h1 with
 | nil => exact h2
 | cons k _ ih => exact .cons k ih
theorem Lent.cons {q : Nat} {S : List Nat} {o : Ob} (hq : getH h q = some o) (h2 : o.st ≠ 2) (k : Lent h S) : Lent h (q :: S) := fun r hr => by
 rcases List.mem_cons.1 hr with rfl | hr
 ·exact ⟨o, hq, h2⟩
 ·exact k r hr
theorem oCallVD {t : Tmp} {f : FuncId} {first cap : List LV} {args : Array Operand} {at_ : Array TypeId} {ls : List LV} {r : LV} (hv : evE e (.tmp t) = some (.fn (.func f) first cap)) (ha : argsE e args.toList = some ls) (hr : Run P T E (.call f (first ++ ls ++ cap) r)) (hd : ∀ c, c ∈ first ++ ls ++ cap → Data c) :
  OP P T E ⟨dst, .call { callee := .value (.tmp t), args := args, argTypes := at_ }, ty, pos, af, g⟩ id e h r [] [] := fun s m hs hm =>
 .pcall _ _ _ _ _ _ _ (.tmp t) f first cap (first ++ ls ++ cap) rfl rfl (hs _ _ hv) (by
  rw [dZ hs ha]
  exact ⟨rfl, fun i l l' hl hl' => by rw [hl] at hl'; cases hl'; exact .data _ (hd l (List.mem_of_getElem? hl))⟩) (by intro p hp; simp at hp) hr
end
theorem data3 {as0 bs cs : List LV} (h1 : ∀ c, c ∈ as0 → Data c) (h2 : ∀ c, c ∈ bs → Data c) (h3 : ∀ c, c ∈ cs → Data c) : ∀ c, c ∈ as0 ++ bs ++ cs → Data c := fun c hc => by
 rcases List.mem_append.1 hc with hc | hc
 ·rcases List.mem_append.1 hc with hc | hc
  ·exact h1 c hc
  ·exact h2 c hc
 ·exact h3 c hc
theorem dfn {f : Fn} {as0 bs : List LV} (h1 : ∀ c, c ∈ as0 → Data c) (h2 : ∀ c, c ∈ bs → Data c) : Data (.fn f as0 bs) := .fn f as0 bs h1 h2
theorem d0 : ∀ c, c ∈ ([] : List LV) → Data c := by intro c hc; simp at hc
def pk (x : ST) (p : Int) (q : CH → Bool) : Int := if x.1.1 = p then fidx q x.2.2 else if x.2.2.any (fun c => !q c) then -1 else 0
end Go.Ab
namespace Go.Ab
open Go.RowKit
def mixf {α : Type} (f f' : Nat → α) (j : Nat) : Nat → α := fun s => if s < j then f' s else f s
theorem mixf_set {α : Type} {f f' : Nat → α} {j : Nat} : mixf f f' (j + 1) = fset (mixf f f' j) j (f' j) := by
 funext s
 unfold mixf fset
 by_cases h : s = j
 ·subst h; rw [if_pos om, if_pos rfl]
 ·rw [if_neg h]
  show _ = if s < j then f' s else f s
  by_cases h2 : s < j
  ·rw [if_pos h2, if_pos om]
  ·rw [if_neg h2, if_neg om]
theorem mixf_zero {α : Type} {f f' : Nat → α} : mixf f f' 0 = f := by funext s; unfold mixf; rw [if_neg om]
def gstep (ss : List ST) (p : Int) (ins old : Nat → Bool) (s : Nat) : Bool := old s || (decide (s < ss.length) && ins s && alw ss s p ins old)
def newc (ss : List ST) (p : Int) (ins old : Nat → Bool) (c : Nat → Int) (s : Nat) : Int :=
 if (!old s && decide (s < ss.length) && ins s && alw ss s p ins old && decide ((ss.getD s default).1.1 = p)) = true then pk (ss.getD s default) p (okc ins old) else c s
def gx (ss : List ST) (p : Int) (ins goal : Nat → Bool) : Nat → Nat → Bool
 | 0 => goal
 | k + 1 => gstep ss p ins (gx ss p ins goal k)
def gc (ss : List ST) (p : Int) (ins goal : Nat → Bool) : Nat → Nat → Int
 | 0 => fun _ => 0
 | k + 1 => newc ss p ins (gx ss p ins goal k) (gc ss p ins goal k)
theorem cR {H h : Hp} (hnd : subsM H H) (hs : ∀ q o, getH H q = some o → getH h q = some o) : subsM H h := by
 suffices ∀ L, subsM L H → subsM L h from this H hnd
 intro L
 induction L with
 | nil => intro _; trivial
 | cons p L ih => exact fun ⟨h1, h2⟩ => ⟨hs _ _ h1, ih h2⟩
section
variable {P : Program} {T : TT} {E : TypeId → Bool} {N : Nat} {oa : Array Oper} {l : List Oper} {i b n : Nat} {e : Env} {h : Hp} {Q : Env → Hp → Nat → Prop}
theorem WN.weakH (a : Hp) (hs : Hp.le a h) (k : WN P T E N oa l i b e a n Q) : WN P T E N oa l i b e h n Q := fun hd s m hf hm => k hd s m hf fun t l hg => hm t l (hs t l hg)
theorem nO (a : Hp) (hs : subsM a h) (k : WN P T E N oa l i b e a n Q) : WN P T E N oa l i b e h n Q := WN.weakH a hs.get k
end
end Go.Ab
namespace Go.Ab
open Go.RowKit
section
variable {ss : List ST} {p : Int} {ins old : Nat → Bool} {c : Nat → Int} {j : Nat}
end
section
variable {T : TT} {e : Env} {h : Hp} {ti : TI}
end
end Go.Ab
namespace Go.Ab
open Go.RowKit
theorem tab_repiF {n : Nat} {el : TypeId} {f : Nat → Int} (hf : ∀ i, f i = 0) : Ob.mk (List.replicate n [LV.v (.int .i64 0)]).flatten 1 el 0 = Ob.mk ((tab n f).map ic).flatten 1 el 0 := by
 rw [tab_repi, tab_eq (g := f) fun i _ => (hf i).symm]
end Go.Ab
namespace Go.Ab
open Go.RowKit
theorem WN.S0 {P : Program} {T : TT} {E : TypeId → Bool} {N : Nat} {oa : Array Oper} {i b n : Nat} {e : Env} {h : Hp} {Q : Env → Hp → Nat → Prop} {op : Op} {t : TypeId} {pos : String} {af : Array Edge} {l : List Oper} {r : LV} {d : Delta} {R : List Nat} (ho : OP P T E ⟨none, op, t, pos, af, none⟩ (b + i) e h r d R)
  (k : WN P T E N oa l (i + 1) b e (appH d h) n Q) : WN P T E N oa (⟨none, op, t, pos, af, none⟩ :: l) i b e h n Q := by
 intro hdr s m hs hm
 obtain ⟨hi, hl⟩ := eZ hdr
 obtain ⟨rs, s', h1, h3⟩ := k hl _ _ hs (hm.app d)
 refine ⟨⟨i, keys d, R, false⟩ :: rs, s', ?_, h3⟩
 rw [List.length_cons, List.range'_succ]
 exact .did oa i _ b ⟨s, m, n⟩ s' rs _ r d R (by simpa using hi) rfl (ho s m (fun x l hx => dM hs hx) hm) h1
section
variable {ss : List ST} {p : Int} {g : Nat → Bool} (hg : ∀ s, g s = true → s < ss.length)
include hg
end
structure VM1 (ss : List ST) : Prop where
 wt : WT ss
 own : ∀ x, x ∈ ss → 0 ≤ x.1.1 ∧ x.1.1 ≤ 1
 cs : ∀ x, x ∈ ss → 1 ≤ x.2.2.length ∧ x.2.2.length ≤ 8
 bs : ∀ x, x ∈ ss → ∀ c, c ∈ x.2.2 → 1 ≤ c.2.2.length ∧ c.2.2.length ≤ 8
 pos : 1 ≤ ss.length
theorem iZ {ss : List ST} (h : VMo ss = true) : VM1 ss := by
 unfold VMo at h
 rw [Bool.and_eq_true, Bool.and_eq_true] at h
 obtain ⟨⟨h1, h2⟩, h3⟩ := h
 have h1 := of_decide_eq_true h1
 have h2 := of_decide_eq_true h2
 have hs : ∀ x, x ∈ ss → VS ss.length x = true := List.all_eq_true.1 h3
 have hc : ∀ x, x ∈ ss → ∀ c, c ∈ x.2.2 → VC ss.length c = true := fun x hx => by
  have := hs x hx
  unfold VS at this
  rw [Bool.and_eq_true] at this
  exact List.all_eq_true.1 this.2
 refine ⟨⟨fun x hx c hcx b hb => ?_, h2⟩, fun x hx => ?_, fun x hx => ?_, fun x hx c hcx => ?_, h1⟩
 ·have := hc x hx c hcx
  unfold VC at this
  rw [Bool.and_eq_true, Bool.and_eq_true] at this
  have hok := List.all_eq_true.1 this.1.2
  obtain ⟨i, hi, rfl⟩ := List.getElem_of_mem hb
  have hlo := okB_lo (n := ss.length) (bs := c.2.2) i fun j hj => hok j (List.mem_range.2 om)
  have hi2 := hok i (List.mem_range.2 hi)
  unfold okB at hi2
  rw [Bool.and_eq_true, Bool.and_eq_true, Bool.and_eq_true] at hi2
  have e1 := of_decide_eq_true hi2.1.1.1
  have e2 := of_decide_eq_true hi2.1.1.2
  rw [show c.2.2.getD i default = c.2.2[i] by rw [List.getD_eq_getElem?_getD, List.getElem?_eq_getElem hi]; rfl] at e1 e2
  omega
 ·have := hs x hx
  unfold VS at this
  simp only [Bool.and_eq_true, decide_eq_true_eq] at this
  omega
 ·have := hs x hx
  unfold VS at this
  simp only [Bool.and_eq_true, decide_eq_true_eq] at this
  omega
 ·have := hc x hx c hcx
  unfold VC at this
  simp only [Bool.and_eq_true, decide_eq_true_eq] at this
  omega
end Go.Ab
namespace Go.Ab
open Go.RowKit
section
variable {ss : List ST} {p : Int} {l : List Int} (hg : ∀ s, inL l s = true → s < ss.length)
include hg
end
theorem eqL_take {l l' : List Int} {i : Nat} (h : l.take i = l'.take i) (h1 : i < l.length) (h2 : i < l'.length) (he : l.getD i default = l'.getD i default) : l.take (i + 1) = l'.take (i + 1) := by
 rw [List.take_succ_eq_append_getElem h1, List.take_succ_eq_append_getElem h2, h]
 rw [List.getD_eq_getElem?_getD, List.getD_eq_getElem?_getD, List.getElem?_eq_getElem h1, List.getElem?_eq_getElem h2] at he
 simp only [Option.getD_some] at he
 rw [he]
theorem eqL_no {l l' : List Int} {i : Nat} (h1 : i < l.length) (h2 : i < l'.length) (he : l.getD i default ≠ l'.getD i default) : l ≠ l' := fun h => he (by rw [h])
end Go.Ab
namespace Go.Ab
open Go.RowKit
section
variable {P : Program} {T : TT} {E : TypeId → Bool} {e : Env} {h : Hp}
variable {dst : Option Tmp} {ty : TypeId} {pos : String} {af : Array Edge} {g : Option (Nat × Bool)} {id : Nat} {x y lo hi : Operand} {bt el : TypeId} {ti te : TI} {k : Nat}
theorem oStV {q sz s r off : Nat} {us : List (List LV)} {c : LV} (hx : evE e x = some (.ptr r off)) (ho : off = 0) (hy : evE e y = some (outV q sz us)) (hE : T bt = some ti) (hz : ti.size = 1) (hr : getH h r = some { cells := [c], sz := s, elem := el, st := 0 }) :
  OP P T E ⟨dst, .store bt x y, ty, pos, af, g⟩ id e h (.v undef) [(r, { cells := [outV q sz us], sz := s, elem := el, st := 0 })] [r] := by
 subst ho
 cases us with
 | nil => exact cB hx hy hE hr rfl rfl (by rw [hz]; rfl) rfl
 | cons u us => exact cB hx hy hE hr rfl rfl (by rw [hz]; rfl) rfl
end
theorem tab_succ {α : Type} {n : Nat} (f : Nat → α) : tab (n + 1) f = tab n f ++ [f n] := by simp [tab, List.range_succ]
def hit (bs : List BR) (t : Nat) : Bool := bs.any fun b => decide (b.1.toNat = t)
def nxt (ss : List ST) (s t : Nat) : Bool := (ss.getD s default).2.2.any fun c => hit c.2.2 t
def wst (k s : Nat) (g : Nat → Int) (t : Int) : Nat → Int := if g s < 0 ∧ g t.toNat = k then fset g s (k + 1) else g
def w3 (k s : Nat) (g : Nat → Int) (l : List Int) (i : Nat) : Nat → Int := (l.take i).foldl (wst k s) g
def w2 (ss : List ST) (k : Nat) (g : Nat → Int) : Nat → Nat → Int
 | 0 => g
 | j + 1 => w3 k j (w2 ss k g j) (fl ss.length (nxt ss j)) (fl ss.length (nxt ss j)).length
def winit (l : List Int) (s : Nat) : Int := if inL l s = true then 0 else -1
def w1 (ss : List ST) (l : List Int) : Nat → Nat → Int
 | 0 => winit l
 | k + 1 => w2 ss k (w1 ss l k) ss.length
def vSt (ss : List ST) (st : List Int) : Bool := decide (st.length = ss.length) && (List.range st.length).all fun i => decide (0 ≤ st.getD i default) && decide (st.getD i default < ((ss.getD i default).2.2.length : Int))
theorem rK {α : Type} {n : Nat} {f : Nat → α} {x : α} : x ∈ tab n f ↔ ∃ i, i < n ∧ f i = x := by
 unfold tab
 rw [List.mem_map]
 exact ⟨fun ⟨i, h1, h2⟩ => ⟨i, List.mem_range.1 h1, h2⟩, fun ⟨i, h1, h2⟩ => ⟨i, List.mem_range.2 h1, h2⟩⟩
theorem nJ {ss : List ST} {st : List Int} (h : vSt ss st = true) {i : Nat} (hi : i < ss.length) : 0 ≤ st.getD i default ∧ st.getD i default < ((ss.getD i default).2.2.length : Int) := by
 unfold vSt at h
 rw [Bool.and_eq_true] at h
 have h1 := of_decide_eq_true h.1
 have h2 := List.all_eq_true.1 h.2 i (List.mem_range.2 om)
 rw [Bool.and_eq_true] at h2
 exact ⟨of_decide_eq_true h2.1, of_decide_eq_true h2.2⟩
theorem gW {ss : List ST} {st : List Int} (h : vSt ss st = true) : st.length = ss.length := by
 unfold vSt at h
 rw [Bool.and_eq_true] at h
 exact of_decide_eq_true h.1
end Go.Ab
namespace Go.Ab
open Go.RowKit
section
variable {P : Program} {T : TT} {E : TypeId → Bool} {e : Env} {h : Hp}
variable {dst : Option Tmp} {ty : TypeId} {pos : String} {af : Array Edge} {g : Option (Nat × Bool)} {id : Nat} {x y : Operand} {bt el : TypeId} {te : TI}
end
end Go.Ab
namespace Go.Ab
open Go.RowKit
def fewC (c : CH) : Bool := decide (c.2.2.length ≤ 10)
def fewS (s : ST) : Bool := decide (s.2.2.length ≤ 10) && s.2.2.all fewC
def fewM (ss : List ST) : Bool := decide (ss.length ≤ 45) && ss.all fewS
theorem fewS_no1 {s : ST} (h : 10 < s.2.2.length) : fewS s = false := by unfold fewS; rw [decide_eq_false om]; rfl
theorem fewS_no2 {s : ST} {j : Nat} (hj : j < s.2.2.length) (h : 10 < (s.2.2.getD j default).2.2.length) : fewS s = false := by
 unfold fewS; rw [rO (i := j) hj (decide_eq_false om), Bool.and_false]
theorem qU {ss : List ST} {i : Nat} (hi : i < ss.length) (h : fewS (ss.getD i default) = false) : fewM ss = false := by unfold fewM; rw [rO (i := i) hi h, Bool.and_false]
open Go.RowKit
end Go.Ab
namespace Go.Ab
open Go.RowKit
theorem HasC.fields {T : TT} {t : TypeId} {ti : TI} {fs : List (Nat × TypeId)} {cs : List LV} (h : HasC T t cs) (ht : T t = some ti) (hd : ti.desc = .st fs) : cs.length = ti.size ∧ ∀ f tf, f ∈ fs → T f.2 = some tf → HasC T f.2 ((cs.drop f.1).take tf.size) := by
 have hdsc : dsc T t = some (.st fs) := by unfold dsc; rw [ht]; exact congrArg some hd
 cases h with
 | int _ k n h1 => rw [h1] at hdsc; cases hdsc
 | bool _ b h1 => rw [h1] at hdsc; cases hdsc
 | nil _ e h1 => rw [h1] at hdsc; cases hdsc
 | sl _ e xs h1 => rw [h1] at hdsc; cases hdsc
 | st _ ti' fs' _ h1 h2 h3 h4 =>
  rw [ht] at h1; cases h1
  rw [hd] at h2; cases h2
  exact ⟨h3, h4⟩
theorem HasC.i64 {T : TT} {t : TypeId} {cs : List LV} (h : HasC T t cs) (ht : dsc T t = some (.int .i64)) : ∃ z, cs = [.v (.int .i64 z)] ∧ I64 z := by
 cases h with
 | int _ k n h1 h2 h3 => rw [ht] at h1; cases h1; exact ⟨n, rfl, h2, h3⟩
 | bool _ b h1 => rw [ht] at h1; cases h1
 | nil _ e h1 => rw [ht] at h1; cases h1
 | sl _ e xs h1 => rw [ht] at h1; cases h1
 | st _ ti fs cs h1 h2 => unfold dsc at ht; rw [h1] at ht; simp only [Option.some.injEq] at ht; rw [h2] at ht; cases ht
theorem len1 {cs : List LV} (h : cs.length = 1) : ∃ a, cs = [a] := by
 match cs, h with
 | [a], _ => exact ⟨a, rfl⟩
theorem len3 {cs : List LV} (h : cs.length = 3) : ∃ a b c, cs = [a, b, c] := by
 match cs, h with
 | [a, b, c], _ => exact ⟨a, b, c, rfl⟩
open Go.RowKit
def Rk (k : Nat) (g g' : Nat → Int) : Prop := ∀ r, (0 ≤ g r → g' r = g r) ∧ (g r < 0 → g' r = g r ∨ g' r = k + 1)
theorem Rk.refl (k : Nat) (g : Nat → Int) : Rk k g g := fun r => ⟨fun _ => rfl, fun _ => .inl rfl⟩
theorem Rk.wst {k s : Nat} {g g' : Nat → Int} (h : Rk k g g') (t : Int) : Rk k g (wst k s g' t) := by
 unfold Go.Ab.wst
 by_cases hc : g' s < 0 ∧ g' t.toNat = k
 ·rw [if_pos hc]
  intro r
  unfold fset
  by_cases e : r = s
  ·subst e
   rw [if_pos rfl]
   refine ⟨fun h0 => ?_, fun _ => .inr rfl⟩
   have := (h r).1 h0
   omega
  ·rw [if_neg e]; exact h r
 ·rw [if_neg hc]; exact h
theorem Rk.fold {k s : Nat} {g : Nat → Int} : ∀ (L : List Int) {g' : Nat → Int}, Rk k g g' → Rk k g (L.foldl (Go.Ab.wst k s) g')
 | [], _, h => h
 | t :: L, _, h => Rk.fold L (h.wst t)
theorem Rk.w2 {ss : List ST} {k : Nat} {g : Nat → Int} : ∀ j, Rk k g (Go.Ab.w2 ss k g j)
 | 0 => .refl _ _
 | j + 1 => Rk.fold _ (Rk.w2 j)
section
variable {ss : List ST} {l : List Int}
end
end Go.Ab
namespace Go.Ab
open Go.RowKit
section
variable {ss : List ST} {p : Int} {g : Nat → Bool} (hn : ss.length ≤ 40) (hg : ∀ s, g s = true → s < ss.length)
include hn hg
end
def tos (c : CH) : List Int := c.2.2.map (·.1)
structure Alk (ss ss' : List ST) : Prop where
 len : ss.length = ss'.length
 own : ∀ s, s < ss.length → (ss.getD s default).1.1 = (ss'.getD s default).1.1
 cs : ∀ s, s < ss.length → (ss.getD s default).2.2.map tos = (ss'.getD s default).2.2.map tos
theorem wi_tos {c : CH} {f : Nat → Bool} : wi c f = (tos c).all fun t => f t.toNat := by unfold wi tos; rw [List.all_map]; rfl
theorem me_tos {c : CH} {f : Nat → Bool} : me c f = (tos c).any fun t => f t.toNat := by unfold me tos; rw [List.any_map]; rfl
theorem okc_tos {f g : Nat → Bool} : okc f g = (fun l : List Int => (l.all fun t => f t.toNat) && (l.any fun t => g t.toNat)) ∘ tos := by
 funext c; unfold okc; rw [wi_tos, me_tos]; rfl
theorem Alk.alw {ss ss' : List ST} (h : Alk ss ss') {s : Nat} (hs : s < ss.length) {p : Int} {f g : Nat → Bool} : Go.Ab.alw ss s p f g = Go.Ab.alw ss' s p f g := by
 unfold Go.Ab.alw
 rw [h.own s hs, okc_tos, ← List.any_map, ← List.all_map, h.cs s hs, List.any_map, List.all_map]
theorem Alk.gstep {ss ss' : List ST} (h : Alk ss ss') {p : Int} {ins old : Nat → Bool} : Go.Ab.gstep ss p ins old = Go.Ab.gstep ss' p ins old := by
 funext s
 unfold Go.Ab.gstep
 rw [← h.len]
 by_cases hs : s < ss.length
 ·rw [h.alw hs]
 ·rw [decide_eq_false hs]; rfl
theorem Alk.gx {ss ss' : List ST} (h : Alk ss ss') {p : Int} {ins g : Nat → Bool} : ∀ k, Go.Ab.gx ss p ins g k = Go.Ab.gx ss' p ins g k
 | 0 => rfl
 | k + 1 => by
  show Go.Ab.gstep ss p ins (Go.Ab.gx ss p ins g k) = Go.Ab.gstep ss' p ins (Go.Ab.gx ss' p ins g k)
  rw [h.gx k, h.gstep]
end Go.Ab
namespace Go.Ab
open Go.RowKit
section
variable {P : Program} {T : TT} {E : TypeId → Bool} {N : Nat} {e : Env} {h : Hp} {K : Env → Hp → Prop}
theorem Fz.cellR {q sz C z : Nat} {el el2 : TypeId} {us : List (List LV)} {A : List LV} {H : Hp} (a : Env) (hs : subs a e) (hqC : q ≠ C) (h0 : 0 < sz) (hl : ∀ row, row ∈ us → row.length = sz) (hd : ∀ row, row ∈ us → ∀ c, c ∈ row → Data c) (hH : getH H q = none)
  (k : K a ((C, { cells := A ++ [outR us], sz := z, elem := el2, st := 0 }) :: H)) : Fz N e (outH q sz el us ((C, { cells := A ++ [outV q sz us], sz := z, elem := el2, st := 0 }) :: H)) K := by
 cases us with
 | nil => exact Fz.same a _ hs (fun _ _ h => h) k
 | cons u us =>
  refine Fz.one (u :: us) a ((C, { cells := A ++ [outR (u :: us)], sz := z, elem := el2, st := 0 }) :: H) (ob := { cells := (u :: us).flatten, sz := sz, elem := el, st := 0 }) g0 (by show (0 : Nat) ≠ 2; decide) rfl h0 rfl hl hd (fun t l2 h2 => ⟨l2, hs.get t l2 h2, .inl rfl⟩) (fun r o2 hr => ?_) k
  by_cases e1 : C = r
  ·subst e1
   rw [g0] at hr; cases hr
   refine ⟨fun hc => hqC hc.symm, _, g1 hqC g0, rfl, by simp, fun i c c2 hc hc2 => ?_⟩
   rcases Nat.lt_or_ge i A.length with hi | hi
   ·rw [List.getElem?_append_left hi] at hc hc2
    rw [hc] at hc2; exact .inl (Option.some.inj hc2).symm
   ·rw [List.getElem?_append_right hi] at hc hc2
    rcases Nat.eq_zero_or_pos (i - A.length) with h1 | h1
    ·rw [h1] at hc hc2
     simp only [List.getElem?_cons_zero, Option.some.injEq] at hc hc2
     exact .inr ⟨hc.symm, hc2.symm⟩
    ·rw [List.getElem?_eq_none (by simp; omega)] at hc; cases hc
  ·rw [g1 e1 rfl] at hr
   refine ⟨fun hc => ?_, o2, g1 (fun hc => ?_) (g1 e1 hr), rfl, rfl, fun i c c2 hc hc2 => .inl (by rw [hc] at hc2; exact (Option.some.inj hc2).symm)⟩
   ·rw [hc, hH] at hr; cases hr
   ·rw [← hc, hH] at hr; cases hr
end
def KC (c : CH) : Prop := c.2.1 = 0 → c.2.2 = []
def KN (ss : List ST) : Prop := ∀ x, x ∈ ss → ∀ c, c ∈ x.2.2 → KC c
end Go.Ab
namespace Go.Ab
open Go.RowKit
section
variable {ss : List ST} {l : List Int} {p : Int} {L st : List Int} {b : Bool}
end
theorem KN.ne {ss : List ST} (h : KN ss) (hV : VM1 ss) : ∀ x, x ∈ ss → ∀ c, c ∈ x.2.2 → c.2.1 ≠ 0 := fun x hx c hc h0 => by
 have h1 := (hV.bs x hx c hc).1
 rw [h x hx c hc h0] at h1
 exact absurd h1 (by decide)
end Go.Ab
namespace Go.Ab
theorem rI {f : Nat → Rat} : ∀ n, (∀ i, 0 < i → i < n + 1 → f i = 0) → sm f (n + 1) = f 0
 | 0, _ => by show 0 + f 0 = f 0; rw [Rat.zero_add]
 | n + 1, h => by
  show sm f (n + 1) + f (n + 1) = f 0
  rw [rI n fun i h0 hi => h i h0 om, h (n + 1) om om, Rat.add_zero]
theorem det_zcol : ∀ n {M : Nat → Nat → Rat}, (∀ i, i ≤ n → M i n = 0) → det (n + 1) M = 0
 | 0, M, h => by
  show 0 + sg 0 * M 0 0 * 1 = 0
  rw [h 0 (Nat.le_refl _)]; grind
 | n + 1, M, h => by
  rw [det]
  refine (cK (g := fun _ => 0) _ fun i hi => ?_).trans (iN _)
  rw [det_zcol n fun a ha => h _ (by unfold skp; split <;> omega)]; grind
theorem det_last : ∀ n {M : Nat → Nat → Rat}, (∀ i, i < n → M i n = 0) → M n n = 1 → det (n + 1) M = det n M
 | 0, M, _, h => by
  show 0 + 1 * M 0 0 * 1 = 1
  rw [h]; grind
 | n + 1, M, h, h1 => by
  rw [det, sm, det_zcol n (M := fun a b => M (skp (n + 1) a) (b + 1)) fun a ha => h _ (by unfold skp; split <;> omega), det]
  rw [show sg (n + 1) * M (n + 1) 0 * (0 : Rat) = 0 by grind, Rat.add_zero]
  refine cK _ fun i hi => ?_
  rw [det_last n (M := fun a b => M (skp i a) (b + 1)) (fun a ha => h _ (by unfold skp; split <;> omega)) (by rw [show skp i n = n + 1 by unfold skp; split <;> omega]; exact h1)]
def colF (k : Nat) (x : Nat → Rat) : Nat → Nat → Rat := fun i b => if b = k then x i else if i = b then 1 else 0
theorem det_col : ∀ n {k : Nat} {x : Nat → Rat}, k < n → det n (colF k x) = x k
 | 0, _, _, h => absurd h om
 | n + 1, 0, x, _ => by
  rw [det, rI n fun i h0 hi => ?_]
  ·have e : det n (fun a b => colF 0 x (skp 0 a) (b + 1)) = det n oneF := eE n fun a b _ _ => by
    show (if b + 1 = 0 then x (skp 0 a) else if skp 0 a = b + 1 then 1 else 0) = if a = b then 1 else 0
    rw [show skp 0 a = a + 1 by unfold skp; rw [if_neg om], if_neg om]
    by_cases h : a = b
    ·rw [if_pos h, if_pos om]
    ·rw [if_neg h, if_neg om]
   rw [e, det_one]
   show 1 * (if 0 = 0 then x 0 else _) * 1 = x 0
   rw [if_pos rfl]; grind
  ·have e : det n (fun a b => colF 0 x (skp i a) (b + 1)) = 0 := (lI n).zero _ (r := 0) om fun b hb => by
    unfold colF skp
    rw [if_pos h0, if_neg om, if_neg om]
   rw [e]; grind
 | n + 1, k + 1, x, h => by
  rw [det, rI n fun i h0 hi => by rw [show colF (k + 1) x i 0 = 0 by unfold colF; rw [if_neg om, if_neg om]]; grind]
  have e : det n (fun a b => colF (k + 1) x (skp 0 a) (b + 1)) = det n (colF k fun a => x (a + 1)) := eE n fun a b _ _ => by
   unfold colF skp
   rw [if_neg (show ¬ a < 0 by omega)]
   by_cases h1 : b = k
   ·rw [if_pos h1, if_pos om]
   ·rw [if_neg h1, if_neg om]
    by_cases h2 : a = b
    ·rw [if_pos h2, if_pos om]
    ·rw [if_neg h2, if_neg om]
  rw [e, det_col n om, show colF (k + 1) x 0 0 = 1 by unfold colF; rw [if_neg om, if_pos rfl]]
  show 1 * 1 * x (k + 1) = _
  grind
def toL (n : Nat) (M : Nat → Nat → Rat) : List (List Rat) := (List.range n).map fun i => (List.range n).map fun j => M i j
theorem toL_ent {n : Nat} {M : Nat → Nat → Rat} {i j : Nat} (hi : i < n) (hj : j < n) : ent (toL n M) i j = M i j := by unfold ent toL; rw [fN hi, fN hj]
theorem toL_len (n : Nat) (M : Nat → Nat → Rat) : (toL n M).length = n := by simp [toL]
theorem toL_wid (n : Nat) (M : Nat → Nat → Rat) : Wid n (toL n M) := fun r hr => by
 obtain ⟨i, _, rfl⟩ := List.mem_map.1 hr
 simp
theorem oY (n : Nat) (M B : Nat → Nat → Rat) : det n (mulF n M B) = det n M * det n B := by
 have h1 : det n M = det n (fm (toL n M)) := eE n fun a b ha hb => (toL_ent ha hb).symm
 rw [h1, det_dtv (toL_len n M) (toL_wid n M), ← det_mulF (toL_len n M) (toL_wid n M)]
 refine eE n fun a b ha hb => ?_
 unfold mulF
 exact cK _ fun t ht => by rw [show fm (toL n M) a t = M a t from toL_ent ha ht]
theorem cramer {n k : Nat} (hk : k < n) (A : Nat → Nat → Rat) (x b : Nat → Rat) (h : ∀ a, a < n → sm (fun t => A a t * x t) n = b a) : det n (fun a c => if c = k then b a else A a c) = det n A * x k := by
 rw [← det_col n (x := x) hk, ← oY]
 refine eE n fun a c ha hc => ?_
 unfold mulF colF
 by_cases e : c = k
 ·rw [if_pos e, ← h a ha]
  exact cK _ fun t ht => by rw [if_pos e]
 ·rw [if_neg e, gJ n hc fun i hi hne => by rw [if_neg e, if_neg hne]; grind]
  rw [if_neg e, if_pos rfl]; grind
structure PV (R S : List (List Rat)) (L : List Nat) (w : Nat) (g : Rat) (π : Nat → Nat) : Prop where
 rng : ∀ i, i < R.length → π i < R.length
 eq : ∀ i j, i < R.length → j < w → ent R (π i) j = sm (fun k => ent R (π i) (L.getD k default) * ent S k j) L.length + (if i < L.length then 0 else ent S i j)
 dt : g = det L.length (fun a b => ent R (π a) (L.getD b default)) ∨ g = -det L.length (fun a b => ent R (π a) (L.getD b default))
theorem swp_r (a r : Nat) : swp a r r = a := by
 unfold swp
 by_cases h : r = a
 ·rw [if_pos h, h]
 ·rw [if_neg h, if_pos rfl]
theorem PV.step {R S B : List (List Rat)} {L : List Nat} {w a c : Nat} {g : Rat} {π : Nat → Nat} (hSl : S.length = R.length) (hc : c < w) (ha : L.length ≤ a) (h : PV R S L w g π) (hs : Stp S B w a L.length c) :
  PV R B (L ++ [c]) w ((if a ≠ L.length then -g else g) * ent S a c) (fun i => π (swp a L.length i)) := by
 have haR : a < R.length := by have := hs.ha; omega
 have hrR : L.length < R.length := by have := hs.hr; omega
 have hsw : ∀ i, i < R.length → swp a L.length i < R.length := fun i hi => oR hi haR hrR
 have hLk : ∀ k, k < L.length → (L ++ [c]).getD k default = L.getD k default := fun k hk => mL hk
 have hLr : (L ++ [c]).getD L.length default = c := oP
 have hlen : (L ++ [c]).length = L.length + 1 := by simp
 refine ⟨fun i hi => h.rng _ (hsw i hi), fun i j hi hj => ?_, ?_⟩
 ·have e1 := h.eq (swp a L.length i) j (hsw i hi) hj
  have e2 := h.eq (swp a L.length i) c (hsw i hi) hc
  rw [hlen, sm, hLr]
  have e3 : sm (fun k => ent R (π (swp a L.length i)) ((L ++ [c]).getD k default) * ent B k j) L.length = sm (fun k => ent R (π (swp a L.length i)) (L.getD k default) * ent S k j) L.length + -(1 / ent S a c * ent S a j) * sm (fun k => ent R (π (swp a L.length i)) (L.getD k default) * ent S k c) L.length := by
   rw [gV, ← pO]
   refine cK _ fun k hk => ?_
   rw [hLk k hk, hs.oth k j om om hj, pP hk ha]; grind
  have hBr := hs.row j hj
  have hne := hs.ne
  rw [e3, hBr]
  by_cases h1 : i < L.length
  ·rw [if_pos om]
   rw [pP h1 ha, if_pos h1] at e1 e2
   rw [pP h1 ha]
   rw [e1, e2]; grind
  ·rw [if_neg (show ¬ swp a L.length i < L.length by have := swp_ge (a := a) (r := L.length) (i := i) om ha; omega)] at e1 e2
   by_cases h2 : i = L.length
   ·rw [if_pos om]
    rw [h2, swp_r] at e1 e2 ⊢
    rw [e1, e2]
    grind
   ·rw [if_neg om, hs.oth i j om h2 hj, e1, e2]; grind
 ·have hdet : det (L.length + 1) (fun x b => ent R (π (swp a L.length x)) ((L ++ [c]).getD b default)) = det L.length (fun x b => ent R (π x) (L.getD b default)) * ent S a c := by
   have h1 : det (L.length + 1) (fun x b => if b = L.length then (if x = L.length then 1 else 0) else ent R (π (swp a L.length x)) (L.getD b default)) = det L.length (fun x b => ent R (π x) (L.getD b default)) := by
    rw [det_last L.length (fun i hi => by rw [if_pos rfl, if_neg om]) (by rw [if_pos rfl, if_pos rfl])]
    refine eE _ fun x b hx hb => ?_
    rw [if_neg om, pP hx ha]
   rw [← h1]
   have hcol := det_col (L.length + 1) (k := L.length) (x := fun k => if k = L.length then ent S a c else ent S k c) om
   rw [if_pos rfl] at hcol
   rw [← hcol, ← oY]
   refine eE _ fun x b hx hb => ?_
   unfold mulF colF
   by_cases e : b = L.length
   ·have e2 := h.eq (swp a L.length x) c (hsw x om) hc
    rw [e, hLr, sm, e2]
    have e4 : sm (fun t => (if t = L.length then (if x = L.length then (1 : Rat) else 0) else ent R (π (swp a L.length x)) (L.getD t default)) * (if L.length = L.length then (if t = L.length then ent S a c else ent S t c) else if t = L.length then 1 else 0)) L.length = sm (fun k => ent R (π (swp a L.length x)) (L.getD k default) * ent S k c) L.length := cK _ fun t ht => by
     rw [if_neg om, if_pos rfl, if_neg om]
    rw [e4, if_pos rfl]
    congr 1
    show _ = (if L.length = L.length then (if x = L.length then (1 : Rat) else 0) else _) * (if L.length = L.length then ent S a c else _)
    rw [if_pos rfl, if_pos rfl]
    by_cases hx2 : x = L.length
    ·rw [if_pos hx2, hx2, swp_r, if_neg om]; grind
    ·rw [if_neg hx2, pP om ha, if_pos om]; grind
   ·rw [hLk b om, gJ (L.length + 1) hb fun i hi hne => by rw [if_neg e, if_neg hne]; grind]
    show _ = (if b = L.length then _ else ent R (π (swp a L.length x)) (L.getD b default)) * (if b = L.length then _ else if b = b then 1 else 0)
    rw [if_neg e, if_neg e, if_pos rfl]; grind
  rw [hlen, hdet]
  rcases h.dt with h2 | h2 <;> (rw [h2]; by_cases h3 : a = L.length)
  ·rw [if_neg (by simp [h3])]; exact .inl rfl
  ·rw [if_pos h3]; exact .inr (by grind)
  ·rw [if_neg (by simp [h3])]; exact .inr (by grind)
  ·rw [if_pos h3]; exact .inl (by grind)
theorem PV.all {R : List (List Rat)} {w : Nat} (hw : Wid w R) (c : Nat) (hc : c ≤ w) : ∃ π, PV R (gjn R c).1 (gjn R c).2 w (gjd R c) π := by
 refine qX (P := fun c S L => ∃ π, PV R S L w (gjd R c) π) hw ⟨id, fun i hi => hi, fun i j hi hj => by simp [sm, Rat.zero_add], .inl rfl⟩ (fun c S L hcw he hSl hwS hL ⟨π, h⟩ hz => ?_) (fun c S L B a hcw he hSl hwS ha ⟨π, h⟩ hs hn hp => ?_) c hc
 ·refine ⟨π, ?_⟩
  rw [gjd_no (by rw [he]; exact kB (by show L.length ≤ S.length; omega) (Nat.le_refl _) (fun k h1 h2 => hz k h1 (by have h2' : k < S.length := h2; omega)) (.inl rfl))]
  exact h
 ·refine ⟨fun i => π (swp a L.length i), ?_⟩
  rw [nZ (a := a) (by rw [he]; exact hp) (by rw [he]; exact hs.ha), he]
  exact h.step hSl hcw ha hs
def fbd (C : Nat) : Nat → Nat
 | 0 => 1
 | n + 1 => (n + 1) * (C * fbd C n)
def IsI (C : Nat) (x : Rat) : Prop := ∃ z : Int, x = (z : Rat) ∧ z.natAbs ≤ C
theorem IsI.mul {C D : Nat} {x y : Rat} (hx : IsI C x) (hy : IsI D y) : IsI (C * D) (x * y) := by
 obtain ⟨a, rfl, h1⟩ := hx
 obtain ⟨b, rfl, h2⟩ := hy
 exact ⟨a * b, by rw [Rat.intCast_mul], by rw [Int.natAbs_mul]; exact Nat.mul_le_mul h1 h2⟩
theorem IsI.mono {C D : Nat} {x : Rat} (hx : IsI C x) (h : C ≤ D) : IsI D x := let ⟨a, h1, h2⟩ := hx; ⟨a, h1, Nat.le_trans h2 h⟩
theorem IsI.sm {C : Nat} {f : Nat → Rat} : ∀ n, (∀ i, i < n → IsI C (f i)) → IsI (n * C) (Go.Ab.sm f n)
 | 0, _ => ⟨0, rfl, by simp⟩
 | n + 1, h => by
  obtain ⟨a, h1, h2⟩ := IsI.sm n fun i hi => h i om
  obtain ⟨b, h3, h4⟩ := h n om
  refine ⟨a + b, by rw [Go.Ab.sm, h1, h3, Rat.intCast_add], ?_⟩
  have := Int.natAbs_add_le a b
  rw [Nat.succ_mul]; omega
theorem sg_int : ∀ i, IsI 1 (sg i)
 | 0 => ⟨1, rfl, by decide⟩
 | i + 1 => by
  obtain ⟨a, h1, h2⟩ := sg_int i
  exact ⟨-a, by rw [sg, h1, Rat.intCast_neg], by rw [Int.natAbs_neg]; exact h2⟩
theorem det_int {C : Nat} : ∀ n {M : Nat → Nat → Rat}, (∀ a b, a < n → b < n → IsI C (M a b)) → IsI (fbd C n) (det n M)
 | 0, _, _ => ⟨1, rfl, Nat.le_refl 1⟩
 | n + 1, M, h => by
  refine IsI.sm (n + 1) fun i hi => ?_
  have h1 := det_int n (M := fun a b => M (skp i a) (b + 1)) fun a b ha hb => h _ _ (by unfold skp; split <;> omega) om
  have h2 := (((sg_int i).mul (h i 0 hi om)).mul h1)
  rwa [Nat.one_mul] at h2
theorem fbd_le {C K : Nat} : ∀ n, n ≤ K → fbd C n ≤ (K * C) ^ n
 | 0, _ => Nat.le_refl _
 | n + 1, h => by
  rw [fbd, Nat.pow_succ, ← Nat.mul_assoc, Nat.mul_comm ((K * C) ^ n)]
  exact Nat.mul_le_mul (Nat.mul_le_mul_right _ h) (fbd_le n om)
def pr : Nat → (Nat → Rat) → Rat
 | 0, _ => 1
 | n + 1, d => d 0 * pr n fun a => d (a + 1)
theorem det_diag : ∀ n (d : Nat → Rat), det n (fun a b => if a = b then d a else 0) = pr n d
 | 0, _ => rfl
 | n + 1, d => by
  rw [det, rI n fun i h0 hi => by rw [if_neg om]; grind, pr, ← det_diag n]
  rw [eE n (N := fun a b => if a = b then d (a + 1) else 0) fun a b _ _ => by
   unfold skp
   rw [if_neg (show ¬ a < 0 by omega)]
   by_cases e : a = b
   ·rw [if_pos e, if_pos om]
   ·rw [if_neg e, if_neg om]]
  rw [if_pos rfl]
  show 1 * d 0 * _ = _
  grind
theorem det_rows (n : Nat) (d : Nat → Rat) (M : Nat → Nat → Rat) : det n (fun a b => d a * M a b) = pr n d * det n M := by
 rw [← det_diag, ← oY]
 refine eE n fun a b ha hb => ?_
 unfold mulF
 rw [gJ n ha fun i hi hne => by show (if a = i then d a else 0) * M i b = 0; rw [if_neg (Ne.symm hne)]; grind]
 show d a * M a b = (if a = a then d a else 0) * M a b
 rw [if_pos rfl]
theorem pr_int {C : Nat} : ∀ n {d : Nat → Rat}, (∀ a, a < n → IsI C (d a)) → IsI (C ^ n) (pr n d)
 | 0, _, _ => ⟨1, rfl, Nat.le_refl 1⟩
 | n + 1, d, h => by
  have h1 := (h 0 om).mul (pr_int n (d := fun a => d (a + 1)) fun a ha => h _ om)
  rw [Nat.pow_succ, Nat.mul_comm]; exact h1
theorem pr_ne : ∀ n {d : Nat → Rat}, (∀ a, a < n → d a ≠ 0) → pr n d ≠ 0
 | 0, _, _ => by show (1 : Rat) ≠ 0; decide
 | n + 1, d, h => by
  have h1 := h 0 om
  have h2 := pr_ne n (d := fun a => d (a + 1)) fun a ha => h _ om
  show d 0 * _ ≠ 0
  grind
theorem IsI.quot {C n : Nat} {x y : Rat} (hx : IsI C x) (hy : IsI C y) (h0 : y ≠ 0) (hC : C < 4294967296 ^ n) : Bd n (x / y) := by
 obtain ⟨a, rfl, h1⟩ := hx
 obtain ⟨b, rfl, h2⟩ := hy
 rw [← Rat.divInt_eq_div]
 refine Bd.raw (fun h => h0 (by rw [h]; rfl)) (eP om) (eP om)
theorem sm_bd {q : Nat} {f : Nat → Rat} : ∀ n, (∀ k, k < n → Bd q (f k)) → Bd (1 + n * (q + 1)) (sm f n)
 | 0, _ => Bd0 om
 | n + 1, h => ((sm_bd n fun k hk => h k om).add (h n om)).mono (by rw [Nat.succ_mul]; omega)
theorem pow_a {B n d x y z : Nat} (hB : 0 < B) (hn : n ≤ B ^ x) (hd : d ≤ (B ^ x) ^ y) (hz : x + x * y ≤ z) : n * d ≤ B ^ z := by
 refine Nat.le_trans (Nat.mul_le_mul hn hd) ?_
 rw [← Nat.pow_mul, ← Nat.pow_add]
 exact Nat.pow_le_pow_right hB hz
theorem pow_b {B d x y z : Nat} (hB : 0 < B) (hd : d ≤ (B ^ x) ^ y) (hz : x * y ≤ z) : d ≤ B ^ z := by
 rw [← Nat.pow_mul] at hd
 exact Nat.le_trans hd (Nat.pow_le_pow_right hB hz)
theorem pow_c {B n f z y k : Nat} (hB : k ≤ B) (hk : 1 < k) (hn : n ≤ k) (hf : f ≤ (k * B ^ z) ^ n) (hy : (z + 1) * k < y) : f < B ^ y := by
 have h2 : k * B ^ z ≤ B ^ (z + 1) := by
  rw [Nat.pow_succ, Nat.mul_comm]
  exact Nat.mul_le_mul_left _ hB
 have h3 : (k * B ^ z) ^ n ≤ (B ^ (z + 1)) ^ k := Nat.le_trans (Nat.pow_le_pow_left h2 n) (Nat.pow_le_pow_right (Nat.pow_pos om) hn)
 rw [← Nat.pow_mul] at h3
 have h4 : B ^ ((z + 1) * k) < B ^ y := Nat.pow_lt_pow_right om hy
 omega
theorem pow_d {B n z y k : Nat} (hB : 2 ≤ B) (hn : n ≤ k) (hy : z * k < y) : (B ^ z) ^ n < B ^ y := by
 rw [← Nat.pow_mul]
 exact Nat.pow_lt_pow_right om (by have : z * n ≤ z * k := Nat.mul_le_mul_left _ hn; omega)
theorem row_int {l : List Rat} {b z : Nat} (hz : 672 ≤ z) (hb : b ≤ 16) (hl : l.length ≤ 41) (h : ∀ x, x ∈ l → Bd b x) {x : Rat} (hx : x ∈ l) : IsI (4294967296 ^ z) ((dd l : Rat) * x) := by
 obtain ⟨e, he⟩ := dd_dvd hx
 have hd : dd l ≤ (4294967296 ^ 16) ^ 41 := Nat.le_trans (dd_le (b := 4294967296 ^ 16) fun y hy => Nat.le_of_lt (Nat.lt_of_lt_of_le (h y hy).abs.2 (Nat.pow_le_pow_right (by decide) hb))) (Nat.pow_le_pow_right (Nat.pow_pos (by decide)) hl)
 have hn : x.num.natAbs ≤ 4294967296 ^ 16 := Nat.le_of_lt (Nat.lt_of_lt_of_le (h x hx).abs.1 (Nat.pow_le_pow_right (by decide) hb))
 have hdp := x.den_pos
 have hed : e ≤ dd l := by rw [he]; exact Nat.le_mul_of_pos_left _ hdp
 refine ⟨x.num * (e : Int), ?_, ?_⟩
 ·have hx2 : x = (x.num : Rat) / (x.den : Rat) := by rw [← Rat.intCast_natCast, ← Rat.divInt_eq_div]; exact (Rat.num_divInt_den x).symm
  have hden : (x.den : Rat) ≠ 0 := by exact_mod_cast Nat.pos_iff_ne_zero.1 hdp
  rw [he, Rat.intCast_mul, Rat.intCast_natCast, Rat.natCast_mul]
  generalize hq : (x.den : Rat) = q at *
  generalize (e : Rat) = e'
  generalize hp : (x.num : Rat) = p at *
  rw [hx2]
  grind
 ·rw [Int.natAbs_mul, Int.natAbs_natCast]
  exact pow_a (by decide) hn (Nat.le_trans hed hd) hz
theorem GB_all {R : List (List Rat)} {w cols b : Nat} (hb : BdL b R) (h1 : 1 ≤ b) (hb16 : b ≤ 16) (hw : Wid w R) (hm : R.length ≤ 41) (hw41 : w ≤ 41) (hcw : cols ≤ w) : GB R cols 268435456 := by
 obtain ⟨z, hz⟩ : ∃ z, z = 672 := ⟨_, rfl⟩
 obtain ⟨y, hy⟩ : ∃ y, y = 27594 := ⟨_, rfl⟩
 have key : ∀ c, c < cols → BdL 2000000 (gjn R c).1 ∧ Bd 2000000 (gjd R c) := by
  intro c hc
  obtain ⟨π, hP⟩ := PV.all hw c om
  have hS := St0.all hw c om
  have hSl := cW R c
  have hRI := gjn_RI hw c om
  have hg := gjd_ne hw c om
  have hled := hS.led
  have hwS := hS.wid
  generalize (gjn R c).1 = S at *
  generalize (gjn R c).2 = L at *
  generalize gjd R c = g at *
  have hLt : ∀ k, k < L.length → L.getD k default < w := fun k hk => by have := hRI.lt k hk; omega
  let D : Nat → Rat := fun i => (dd (R.getD (π i) default) : Rat)
  have hDi : ∀ i j, i < R.length → j < w → IsI (4294967296 ^ z) (D i * ent R (π i) j) := fun i j hi hj => by
   have hm2 := bG (us := R) (hP.rng i hi)
   have hl := hw _ hm2
   exact row_int om hb16 om (hb _ hm2) (bG (us := R.getD (π i) default) om)
  have hD1 : ∀ i, i < R.length → IsI (4294967296 ^ z) (D i) := fun i hi => by
   have hm2 := bG (us := R) (hP.rng i hi)
   have hl := hw _ hm2
   refine ⟨(dd (R.getD (π i) default) : Int), by rw [Rat.intCast_natCast], ?_⟩
   rw [Int.natAbs_natCast]
   have hd : dd (R.getD (π i) default) ≤ (4294967296 ^ 16) ^ 41 := Nat.le_trans (dd_le (b := 4294967296 ^ 16) fun y hy => Nat.le_of_lt (Nat.lt_of_lt_of_le (hb _ hm2 y hy).abs.2 (Nat.pow_le_pow_right (by decide) hb16))) (Nat.pow_le_pow_right (Nat.pow_pos (by decide)) om)
   exact pow_b (by decide) hd om
  have hDne : ∀ i, D i ≠ 0 := fun i => by
   have := dd_pos (R.getD (π i) default)
   show ((dd (R.getD (π i) default) : Nat) : Rat) ≠ 0
   exact_mod_cast Nat.pos_iff_ne_zero.1 this
  have hdA : det L.length (fun a b => ent R (π a) (L.getD b default)) ≠ 0 := fun h0 => by
   rcases hP.dt with h | h <;> rw [h, h0] at hg <;> exact hg (by grind)
  have hdA2 : IsI (fbd (4294967296 ^ z) L.length) (det L.length (fun a b => D a * ent R (π a) (L.getD b default))) := det_int _ fun a b ha hb => hDi a _ om (hLt b hb)
  have hdA3 : det L.length (fun a b => D a * ent R (π a) (L.getD b default)) ≠ 0 := by
   rw [det_rows]
   have := pr_ne L.length (d := D) fun a _ => hDne a
   grind
  have hbig : fbd (4294967296 ^ z) L.length < 4294967296 ^ y := pow_c (k := 41) (by decide) (by decide) om (fbd_le (C := 4294967296 ^ z) L.length om) om
  have hx : ∀ k j, k < L.length → j < w → Bd y (ent S k j) := fun k j hk hj => by
   have hcr := cramer hk (fun a b => D a * ent R (π a) (L.getD b default)) (fun t => ent S t j) (fun a => D a * ent R (π a) j) fun a ha => by
    have e := hP.eq a j om hj
    rw [if_pos ha, Rat.add_zero] at e
    show sm (fun t => D a * ent R (π a) (L.getD t default) * ent S t j) L.length = D a * ent R (π a) j
    rw [e, gV]
    exact cK _ fun t _ => by rw [Rat.mul_assoc]
   have e2 : ent S k j = det L.length (fun a c => if c = k then D a * ent R (π a) j else D a * ent R (π a) (L.getD c default)) / det L.length (fun a b => D a * ent R (π a) (L.getD b default)) := by
    rw [hcr]
    grind
   rw [e2]
   refine IsI.quot (det_int _ fun a b ha hb => ?_) hdA2 hdA3 hbig
   split
   ·exact hDi a j om hj
   ·exact hDi a _ om (hLt b hb)
  refine ⟨fun row hr x hxr => ?_, ?_⟩
  ·obtain ⟨i, hi, rfl⟩ := List.getElem_of_mem hr
   obtain ⟨j, hj, rfl⟩ := List.getElem_of_mem hxr
   have hwj : j < w := by rw [hwS _ (List.getElem_mem hi)] at hj; exact hj
   have hent : S[i][j] = ent S i j := by
    unfold ent
    rw [show S.getD i default = S[i] by rw [List.getD_eq_getElem?_getD, List.getElem?_eq_getElem hi]; rfl, List.getD_eq_getElem?_getD, List.getElem?_eq_getElem hj]; rfl
   rw [hent]
   by_cases hiL : i < L.length
   ·exact (hx i j hiL hwj).mono om
   ·have e := hP.eq i j om hwj
    rw [if_neg hiL] at e
    have e3 : ent S i j = ent R (π i) j + -sm (fun k => ent R (π i) (L.getD k default) * ent S k j) L.length := by rw [e]; grind
    rw [e3]
    have b1 : Bd 16 (ent R (π i) j) := (BdL.ent h1 hb _ _).mono hb16
    have b2 := (sm_bd (q := 16 + y) (f := fun k => ent R (π i) (L.getD k default) * ent S k j) L.length fun k hk => ((BdL.ent h1 hb _ _).mono hb16).mul (hx k j hk hwj)).neg
    refine (b1.add b2).mono ?_
    have : L.length * (16 + y + 1) ≤ 41 * (16 + y + 1) := Nat.mul_le_mul_right _ om
    omega
  ·have e4 : det L.length (fun a b => ent R (π a) (L.getD b default)) = det L.length (fun a b => D a * ent R (π a) (L.getD b default)) / pr L.length D := by
    rw [det_rows]
    have := pr_ne L.length (d := D) fun a _ => hDne a
    grind
   have b3 : Bd y (det L.length (fun a b => ent R (π a) (L.getD b default))) := by
    rw [e4]
    have hp := pr_int L.length (C := 4294967296 ^ z) (d := D) fun a ha => hD1 a om
    have hpl : (4294967296 ^ z) ^ L.length < 4294967296 ^ y := pow_d (k := 41) (by decide) om om
    refine IsI.quot (C := max (fbd (4294967296 ^ z) L.length) ((4294967296 ^ z) ^ L.length)) (hdA2.mono (Nat.le_max_left _ _)) (hp.mono (Nat.le_max_right _ _)) (pr_ne _ fun a _ => hDne a) (Nat.max_lt.2 ⟨hbig, hpl⟩)
   rcases hP.dt with h | h <;> rw [h]
   ·exact b3.mono om
   ·exact b3.neg.mono om
 exact ⟨by decide, fun c hc => (key c hc).1.mono (by decide), fun c hc => (key c hc).2.mono (by decide)⟩
open Go.RowKit
def mnF (bs : List BR) (v : Nat → Rat) : Nat → Rat
 | 0 => 0
 | i + 1 => mnF bs v i + nq (bs.getD i default).2 * v (bs.getD i default).1.toNat
def mn (c : CH) (v : Nat → Rat) : Rat := mnF c.2.2 v c.2.2.length
def yl (d : Rat) (c : CH) (v : Nat → Rat) : Rat := nq c.1 + d * mn c v
structure WB (n : Nat) (bs : List BR) : Prop where
 pos : ∀ i, i < bs.length → 0 < nq (bs.getD i default).2
 sum : psum bs bs.length = 1
 to : ∀ i, i < bs.length → (bs.getD i default).1.toNat < n
theorem mnF_sub (bs : List BR) (u v : Nat → Rat) : ∀ i, mnF bs v i - mnF bs u i = mnF bs (fun s => v s - u s) i
 | 0 => by unfold mnF; grind
 | i + 1 => by
  have ih := mnF_sub bs u v i
  unfold mnF
  rw [← ih]; grind
theorem mnF_le {n : Nat} {bs : List BR} (h : WB n bs) {v : Nat → Rat} {M : Rat} (hv : ∀ j, j < n → v j ≤ M) : ∀ i, i ≤ bs.length → mnF bs v i ≤ M * psum bs i
 | 0, _ => by unfold mnF psum; grind
 | i + 1, hi => by
  have ih := mnF_le h hv i om
  have hp := h.pos i om
  have hj := hv _ (h.to i om)
  have h2 : nq (bs.getD i default).2 * v (bs.getD i default).1.toNat ≤ nq (bs.getD i default).2 * M := Rat.mul_le_mul_of_nonneg_left hj (Rat.le_of_lt hp)
  unfold mnF psum
  grind
theorem mnF_mono {n : Nat} {bs : List BR} (h : WB n bs) {u v : Nat → Rat} (hv : ∀ j, j < n → u j ≤ v j) : ∀ i, i ≤ bs.length → mnF bs u i ≤ mnF bs v i
 | 0, _ => by unfold mnF; grind
 | i + 1, hi => by
  have ih := mnF_mono h hv i om
  have hp := h.pos i om
  have h2 := Rat.mul_le_mul_of_nonneg_left (hv _ (h.to i om)) (Rat.le_of_lt hp)
  unfold mnF
  grind
theorem pG {n : Nat} {bs : List BR} (h : WB n bs) {u v : Nat → Rat} (hv : ∀ j, j < n → u j = v j) : ∀ i, i ≤ bs.length → mnF bs u i = mnF bs v i
 | 0, _ => rfl
 | i + 1, hi => by
  unfold mnF
  rw [pG h hv i om, hv _ (h.to i om)]
theorem argmax (f : Nat → Rat) : ∀ n, 0 < n → ∃ m, m < n ∧ ∀ i, i < n → f i ≤ f m
 | 0, h => absurd h om
 | 1, _ => ⟨0, om, fun i hi => (show i = 0 by omega) ▸ Rat.le_refl⟩
 | n + 2, _ => by
  obtain ⟨m, h1, h2⟩ := argmax f (n + 1) om
  by_cases h : f m ≤ f (n + 1)
  ·refine ⟨n + 1, om, fun i hi => ?_⟩
   by_cases e : i = n + 1
   ·rw [e]; exact Rat.le_refl
   ·exact Rat.le_trans (h2 i om) h
  ·refine ⟨m, om, fun i hi => ?_⟩
   by_cases e : i = n + 1
   ·rw [e]; grind
   ·exact h2 i om
theorem comp {n : Nat} {d : Rat} (hd0 : 0 ≤ d) (hd1 : d < 1) {u v : Nat → Rat} (h : ∀ i, i < n → ∃ bs, WB n bs ∧ v i - u i ≤ d * (mnF bs v bs.length - mnF bs u bs.length)) : ∀ i, i < n → v i ≤ u i := by
 intro i hi
 obtain ⟨m, hm, hmax⟩ := argmax (fun s => v s - u s) n om
 obtain ⟨bs, hb, hle⟩ := h m hm
 have h1 := mnF_le hb (v := fun s => v s - u s) hmax bs.length (Nat.le_refl _)
 rw [hb.sum, ← mnF_sub] at h1
 have h2 := hmax i hi
 by_cases hD : v m - u m ≤ 0
 ·grind
 ·exfalso
  have h3 := Rat.mul_le_mul_of_nonneg_left h1 hd0
  have h4 : 0 < (1 - d) * (v m - u m) := Rat.mul_pos (by grind) (by grind)
  grind
structure DM (ss : List ST) (d : Rat) : Prop where
 d0 : 0 < d
 d1 : d < 1
 pos : 1 ≤ ss.length
 cs : ∀ x, x ∈ ss → 1 ≤ x.2.2.length
 wb : ∀ x, x ∈ ss → ∀ c, c ∈ x.2.2 → WB ss.length c.2.2
abbrev ch (ss : List ST) (i k : Nat) : CH := (ss.getD i default).2.2.getD k default
def WV (ss : List ST) (d : Rat) (st : List Int) (v : Nat → Rat) : Prop := ∀ i, i < ss.length → v i = yl d (ch ss i (st.getD i default).toNat) v
theorem yl_mono {ss : List ST} {d : Rat} (h : DM ss d) {c : CH} (hc : WB ss.length c.2.2) {u v : Nat → Rat} (hv : ∀ j, j < ss.length → u j ≤ v j) : yl d c u ≤ yl d c v := by
 have := Rat.mul_le_mul_of_nonneg_left (mnF_mono hc hv c.2.2.length (Nat.le_refl _)) (Rat.le_of_lt h.d0)
 unfold yl mn
 grind
section
variable {ss : List ST} {d : Rat} (h : DM ss d)
include h
theorem ch_wb {i k : Nat} (hi : i < ss.length) (hk : k < (ss.getD i default).2.2.length) : WB ss.length (ch ss i k).2.2 := h.wb _ (bG hi) _ (bG hk)
theorem st_wb {st : List Int} (hst : vSt ss st = true) {i : Nat} (hi : i < ss.length) : WB ss.length (ch ss i (st.getD i default).toNat).2.2 := by
 have := nJ hst hi
 exact ch_wb h hi om
theorem WV.le {st : List Int} (hst : vSt ss st = true) {u v : Nat → Rat} (hv : WV ss d st v) (hu : ∀ i, i < ss.length → yl d (ch ss i (st.getD i default).toNat) u ≤ u i) : ∀ i, i < ss.length → v i ≤ u i :=
 comp (Rat.le_of_lt h.d0) h.d1 fun i hi => ⟨_, st_wb h hst hi, by
  have h1 := hv i hi
  have h2 := hu i hi
  unfold yl mn at h1 h2
  grind⟩
theorem WV.ge {st : List Int} (hst : vSt ss st = true) {u v : Nat → Rat} (hv : WV ss d st v) (hu : ∀ i, i < ss.length → u i ≤ yl d (ch ss i (st.getD i default).toNat) u) : ∀ i, i < ss.length → u i ≤ v i :=
 comp (Rat.le_of_lt h.d0) h.d1 fun i hi => ⟨_, st_wb h hst hi, by
  have h1 := hv i hi
  have h2 := hu i hi
  unfold yl mn at h1 h2
  grind⟩
theorem WV.uniq {st : List Int} (hst : vSt ss st = true) {u v : Nat → Rat} (hv : WV ss d st v) (hu : WV ss d st u) : ∀ i, i < ss.length → v i = u i := fun i hi => by
 have h1 := hv.le h hst (u := u) (fun j hj => by rw [← hu j hj]; exact Rat.le_refl) i hi
 have h2 := hu.le h hst (u := v) (fun j hj => by rw [← hv j hj]; exact Rat.le_refl) i hi
 grind
end
def btr (p : Int) (a b : Rat) : Prop := if p = 1 then a < b else b < a
def NoImp (ss : List ST) (d : Rat) (p : Int) (v : Nat → Rat) : Prop := ∀ i, i < ss.length → (ss.getD i default).1.1 = p → ∀ k, k < (ss.getD i default).2.2.length → ¬ btr p (yl d (ch ss i k) v) (v i)
def Val (ss : List ST) (d : Rat) (v : Nat → Rat) : Prop := ∀ i, i < ss.length → (∃ k, k < (ss.getD i default).2.2.length ∧ v i = yl d (ch ss i k) v) ∧ ∀ k, k < (ss.getD i default).2.2.length → if (ss.getD i default).1.1 = 1 then v i ≤ yl d (ch ss i k) v else yl d (ch ss i k) v ≤ v i
theorem Val.uniq {ss : List ST} {d : Rat} (h : DM ss d) {u v : Nat → Rat} (hu : Val ss d u) (hv : Val ss d v) : ∀ i, i < ss.length → v i = u i := by
 have key : ∀ {u v : Nat → Rat}, Val ss d u → Val ss d v → ∀ i, i < ss.length → v i ≤ u i := by
  intro u v hu hv
  refine comp (Rat.le_of_lt h.d0) h.d1 fun i hi => ?_
  obtain ⟨⟨k, hk, e1⟩, a1⟩ := hu i hi
  obtain ⟨⟨l, hl, e2⟩, a2⟩ := hv i hi
  by_cases ho : (ss.getD i default).1.1 = 1
  ·have := a2 k hk
   rw [if_pos ho] at this
   refine ⟨_, ch_wb h hi hk, ?_⟩
   unfold yl mn at this e1
   grind
  ·have := a1 l hl
   rw [if_neg ho] at this
   refine ⟨_, ch_wb h hi hl, ?_⟩
   unfold yl mn at this e2
   grind
 intro i hi
 have h1 := key hu hv i hi
 have h2 := key hv hu i hi
 grind
theorem val_of {ss : List ST} {d : Rat} (ho : ∀ x, x ∈ ss → x.1.1 = 0 ∨ x.1.1 = 1) {st : List Int} (hst : vSt ss st = true) {v : Nat → Rat} (hv : WV ss d st v) (h0 : NoImp ss d 0 v) (h1 : NoImp ss d 1 v) : Val ss d v := fun i hi => by
 have hs := nJ hst hi
 refine ⟨⟨(st.getD i default).toNat, om, hv i hi⟩, fun k hk => ?_⟩
 rcases ho _ (bG hi) with e | e
 ·have := h0 i hi e k hk
  unfold btr at this
  rw [if_neg (by decide)] at this
  rw [if_neg om]; grind
 ·have := h1 i hi e k hk
  unfold btr at this
  rw [if_pos rfl] at this
  rw [if_pos e]; grind
theorem lR {st : List Int} {i j : Nat} {k : Int} (hi : i < st.length) : (st.set i k).getD j default = if i = j then k else st.getD j default := by
 rcases Nat.lt_or_ge j st.length with hj | hj
 ·exact cD hj
 ·rw [List.getD_eq_getElem?_getD, List.getElem?_eq_none (by simpa using hj), if_neg om, List.getD_eq_getElem?_getD, List.getElem?_eq_none hj]
theorem vSt_set {ss : List ST} {st : List Int} (h : vSt ss st = true) {i k : Nat} (hk : k < (ss.getD i default).2.2.length) : vSt ss (st.set i (k : Int)) = true := by
 have hl := gW h
 unfold vSt
 rw [decide_eq_true (by rw [List.length_set]; exact hl), Bool.true_and]
 refine jS fun j hj => ?_
 rw [List.length_set] at hj
 have ha := nJ h (i := j) om
 rw [show (st.set i (k : Int)).getD j default = if i = j then (k : Int) else st.getD j default from cD hj]
 by_cases e : i = j
 ·rw [if_pos e, ← e, decide_eq_true om, decide_eq_true om]; rfl
 ·rw [if_neg e, decide_eq_true ha.1, decide_eq_true ha.2]; rfl
section
variable {ss : List ST} {d : Rat} (h : DM ss d)
include h
theorem imp1 {st : List Int} {i k : Nat} {u v : Nat → Rat} (hst : vSt ss st = true) (hi : i < ss.length) (hk : k < (ss.getD i default).2.2.length) (hv : WV ss d st v) (hb : yl d (ch ss i k) v < v i) (hu : WV ss d (st.set i (k : Int)) u) : (∀ j, j < ss.length → u j ≤ v j) ∧ u i < v i := by
 have hl := gW hst
 have hle := hu.le h (vSt_set hst hk) (u := v) fun j hj => by
  rw [lR om]
  by_cases e : i = j
  ·subst e; rw [if_pos rfl, Int.toNat_natCast]; exact Rat.le_of_lt hb
  ·rw [if_neg e, ← hv j hj]; exact Rat.le_refl
 refine ⟨hle, ?_⟩
 have h1 := hu i hi
 rw [lR om, if_pos rfl, Int.toNat_natCast] at h1
 have h2 := yl_mono h (ch_wb h hi hk) hle
 grind
theorem imp0 {st st' : List Int} {i k : Nat} {u v : Nat → Rat} (hst : vSt ss st = true) (hst' : vSt ss st' = true) (hi : i < ss.length) (ho : (ss.getD i default).1.1 ≠ 1) (hk : k < (ss.getD i default).2.2.length) (hv : WV ss d st v) (hn : NoImp ss d 1 v) (hb : v i < yl d (ch ss i k) v)
  (hs : ∀ j, j < ss.length → (ss.getD j default).1.1 ≠ 1 → st'.getD j default = (st.set i (k : Int)).getD j default) (hu : WV ss d st' u) : (∀ j, j < ss.length → v j ≤ u j) ∧ v i < u i := by
 have hl := gW hst
 have hge := hu.ge h hst' (u := v) fun j hj => by
  by_cases hoj : (ss.getD j default).1.1 = 1
  ·have hs' := nJ hst' hj
   have := hn j hj hoj (st'.getD j default).toNat om
   unfold btr at this
   rw [if_pos rfl] at this
   grind
  ·rw [hs j hj hoj, lR om]
   by_cases e : i = j
   ·subst e; rw [if_pos rfl, Int.toNat_natCast]; exact Rat.le_of_lt hb
   ·rw [if_neg e, ← hv j hj]; exact Rat.le_refl
 refine ⟨hge, ?_⟩
 have h1 := hu i hi
 rw [hs i hi ho, lR om, if_pos rfl, Int.toNat_natCast] at h1
 have h2 := yl_mono h (ch_wb h hi hk) hge
 grind
end
theorem all_lists (m : Nat) : ∀ n, ∃ L : List (List Int), ∀ st : List Int, st.length = n → (∀ x, x ∈ st → 0 ≤ x ∧ x < (m : Int)) → st ∈ L
 | 0 => ⟨[[]], fun st h _ => by rw [List.length_eq_zero_iff.1 h]; simp⟩
 | n + 1 => by
  obtain ⟨L, hL⟩ := all_lists m n
  refine ⟨(List.range m).flatMap fun (k : Nat) => L.map fun t => (k : Int) :: t, fun st h1 h2 => ?_⟩
  match st, h1, h2 with
  | x :: t, h1, h2 =>
   have hx := h2 x (by simp)
   refine List.mem_flatMap.2 ⟨x.toNat, List.mem_range.2 om, List.mem_map.2 ⟨t, hL t (by simpa using h1) (fun y hy => h2 y (by simp [hy])), ?_⟩⟩
   rw [Int.toNat_of_nonneg hx.1]
theorem filter_lt {α : Type} {p q : α → Bool} : ∀ {l : List α}, (∀ a, a ∈ l → p a = true → q a = true) → (∃ a, a ∈ l ∧ p a = false ∧ q a = true) → (l.filter p).length < (l.filter q).length
 | [], _, ⟨_, h, _⟩ => by simp at h
 | a :: l, h1, ⟨b, hb, h2, h3⟩ => by
  have hle : ∀ l : List α, (∀ a, a ∈ l → p a = true → q a = true) → (l.filter p).length ≤ (l.filter q).length := fun l => by
   induction l with
   | nil => exact fun _ => Nat.le_refl _
   | cons a l ih =>
    intro h
    have := ih fun b hb => h b (by simp [hb])
    rw [List.filter_cons, List.filter_cons]
    cases e : p a
    ·cases q a <;> simp <;> omega
    ·rw [h a (by simp) e]; simpa using this
  rw [List.filter_cons, List.filter_cons]
  rcases List.mem_cons.1 hb with rfl | hb
  ·rw [h2, h3]
   have := hle l fun c hc => h1 c (by simp [hc])
   simp; omega
  ·have ih := filter_lt (l := l) (fun c hc => h1 c (by simp [hc])) ⟨b, hb, h2, h3⟩
   cases e : p a
   ·cases q a <;> simp <;> omega
   ·rw [h1 a (by simp) e]; simpa using ih
theorem rank {ss : List ST} (R : List Int → List Int → Prop) (hir : ∀ a, ¬ R a a) (htr : ∀ a b c, R a b → R b c → R a c) (hv : ∀ a b, R a b → vSt ss a = true) : ∃ (μ : List Int → Nat) (M : Nat), (∀ a, μ a < M) ∧ ∀ a b, R a b → μ a < μ b := by
 obtain ⟨m, hm⟩ : ∃ m, ∀ x, x ∈ ss → x.2.2.length ≤ m := by
  clear hv
  induction ss with
  | nil => exact ⟨0, by simp⟩
  | cons x ss ih =>
   obtain ⟨m, h⟩ := ih
   refine ⟨max x.2.2.length m, fun y hy => ?_⟩
   rcases List.mem_cons.1 hy with rfl | hy
   ·omega
   ·have := h y hy; omega
 obtain ⟨L, hL⟩ := all_lists m ss.length
 have hin : ∀ a, vSt ss a = true → a ∈ L := fun a ha => hL a (gW ha) fun x hx => by
  obtain ⟨i, hi, rfl⟩ := List.getElem_of_mem hx
  have hl := gW ha
  have h1 := nJ ha (i := i) om
  have h2 := hm _ (bG (us := ss) (i := i) om)
  rw [show a.getD i default = a[i] by rw [List.getD_eq_getElem?_getD, List.getElem?_eq_getElem hi]; rfl] at h1
  omega
 refine ⟨fun b => (L.filter fun a => @decide (R a b) (Classical.propDecidable _)).length, L.length + 1, fun a => Nat.lt_succ_of_le (List.length_filter_le _ _), fun a b hab => ?_⟩
 refine filter_lt (fun c _ hc => ?_) ⟨a, hin a (hv a b hab), ?_, ?_⟩
 ·have := @of_decide_eq_true _ (Classical.propDecidable _) hc
  exact @decide_eq_true _ (Classical.propDecidable _) (htr c a b this hab)
 ·exact @decide_eq_false _ (Classical.propDecidable _) (hir a)
 ·exact @decide_eq_true _ (Classical.propDecidable _) hab
section
variable {ss : List ST} {d : Rat} (h : DM ss d)
include h
theorem rank1 : ∃ (μ : List Int → Nat) (M : Nat), (∀ a, μ a < M) ∧ ∀ a b u v i, vSt ss a = true → vSt ss b = true → WV ss d a u → WV ss d b v → (∀ j, j < ss.length → u j ≤ v j) → i < ss.length → u i < v i → μ a < μ b := by
 obtain ⟨μ, M, hM, hμ⟩ := rank (ss := ss) (fun a b => vSt ss a = true ∧ vSt ss b = true ∧ ∃ u v i, WV ss d a u ∧ WV ss d b v ∧ (∀ j, j < ss.length → u j ≤ v j) ∧ i < ss.length ∧ u i < v i) (fun a ⟨ha, _, u, v, i, h1, h2, _, hi, h4⟩ => by
  have := h1.uniq h ha h2 i hi
  grind) (fun a b c ⟨ha, hb, u, v, i, h1, h2, h3, hi, h4⟩ ⟨_, hc, v', w, k, k1, k2, k3, hk, k4⟩ => ⟨ha, hc, u, w, i, h1, k2, fun j hj => by
   have e := h2.uniq h hb k1 j hj
   have := h3 j hj
   have := k3 j hj
   grind, hi, by
   have e := h2.uniq h hb k1 i hi
   have := k3 i hi
   grind⟩) (fun a b hab => hab.1)
 exact ⟨μ, M, hM, fun a b u v i ha hb h1 h2 h3 hi h4 => hμ a b ⟨ha, hb, u, v, i, h1, h2, h3, hi, h4⟩⟩
theorem rank0 : ∃ (μ : List Int → Nat) (M : Nat), (∀ a, μ a < M) ∧ ∀ a b u v i, vSt ss a = true → vSt ss b = true → WV ss d a u → WV ss d b v → (∀ j, j < ss.length → v j ≤ u j) → i < ss.length → v i < u i → μ a < μ b := by
 obtain ⟨μ, M, hM, hμ⟩ := rank (ss := ss) (fun a b => vSt ss a = true ∧ vSt ss b = true ∧ ∃ u v i, WV ss d a u ∧ WV ss d b v ∧ (∀ j, j < ss.length → v j ≤ u j) ∧ i < ss.length ∧ v i < u i) (fun a ⟨ha, _, u, v, i, h1, h2, _, hi, h4⟩ => by
  have := h1.uniq h ha h2 i hi
  grind) (fun a b c ⟨ha, hb, u, v, i, h1, h2, h3, hi, h4⟩ ⟨_, hc, v', w, k, k1, k2, k3, hk, k4⟩ => ⟨ha, hc, u, w, i, h1, k2, fun j hj => by
   have e := h2.uniq h hb k1 j hj
   have := h3 j hj
   have := k3 j hj
   grind, hi, by
   have e := h2.uniq h hb k1 i hi
   have := k3 i hi
   grind⟩) (fun a b hab => hab.1)
 exact ⟨μ, M, hM, fun a b u v i ha hb h1 h2 h3 hi h4 => hμ a b ⟨ha, hb, u, v, i, h1, h2, h3, hi, h4⟩⟩
end
end Go.Ab
namespace Go.Ab
open Go.RowKit
theorem sm_upd {f g : Nat → Rat} {t : Nat} : ∀ n, t < n → (∀ i, i < n → i ≠ t → f i = g i) → sm f n = sm g n + (f t - g t)
 | 0, h, _ => absurd h om
 | n + 1, h, he => by
  show sm f n + f n = sm g n + g n + (f t - g t)
  by_cases e : t = n
  ·subst e
   rw [cK t fun i hi => he i om om]; grind
  ·rw [sm_upd n om fun i hi hne => he i om hne, he n om (Ne.symm e)]; grind
theorem nU {a : List Rat} {t : Nat} {x : Rat} (ht : t < a.length) (v : List Rat) : dotR (a.set t x) v = dotR a v + (x - a.getD t default) * v.getD t default := by
 rw [nV, nV, List.length_set, sm_upd (t := t) a.length ht fun i hi hne => by rw [cD hi, if_neg (Ne.symm hne)]]
 rw [cD ht, if_pos rfl]; grind
theorem dotR_zero (n : Nat) (v : List Rat) : dotR (List.replicate n 0) v = 0 := by
 rw [nV]
 refine (cK _ fun i hi => ?_).trans (iN _)
 rw [List.length_replicate] at hi
 rw [List.getD_eq_getElem?_getD, List.getElem?_replicate, if_pos hi]
 exact Rat.zero_mul _
theorem full_rank {A : List (List Rat)} {n : Nat} (hl : A.length = n) (hw : Wid n A) (hk : ∀ x : Nat → Rat, (∀ i, i < n → sm (fun j => ent A i j * x j) n = 0) → ∀ j, j < n → x j = 0) : (gjn A n).2.length = n := by
 have hR := gjn_RI hw n (Nat.le_refl _)
 have hS := cW A n
 have hsol := fun x => gjn_sol hw x n (Nat.le_refl _)
 have hrk := hR.rk
 apply Classical.byContradiction
 intro hne
 have hlt : (gjn A n).2.length < n := by omega
 generalize (gjn A n).1 = S at *
 generalize (gjn A n).2 = L at *
 obtain ⟨j, hj, hj1, hj2⟩ : ∃ j, j ≤ L.length ∧ (∀ t, t < j → L.getD t default = t) ∧ ∀ t, j ≤ t → t < L.length → j < L.getD t default := by
  have key : ∀ m, m ≤ L.length → (∀ t, t < m → L.getD t default = t) ∨ ∃ j, j < m ∧ (∀ t, t < j → L.getD t default = t) ∧ L.getD j default ≠ j := by
   intro m
   induction m with
   | zero => exact fun _ => .inl fun t ht => absurd ht om
   | succ m ih =>
    intro hm
    rcases ih om with h | ⟨j, h1, h2⟩
    ·by_cases e : L.getD m default = m
     ·exact .inl fun t ht => by
       by_cases e2 : t = m
       ·rw [e2]; exact e
       ·exact h t om
     ·exact .inr ⟨m, om, h, e⟩
    ·exact .inr ⟨j, om, h2⟩
  rcases key L.length (Nat.le_refl _) with h | ⟨j, h1, h2, h3⟩
  ·exact ⟨L.length, Nat.le_refl _, h, fun t h1 h2 => by omega⟩
  ·refine ⟨j, om, h2, fun t h4 h5 => ?_⟩
   have h6 := hR.ge j h1
   by_cases e : t = j
   ·rw [e]; omega
   ·have := hR.mono j t om h5
    omega
 have hjn : j < n := by omega
 let x : Nat → Rat := fun t => if t < j then -ent S t j else if t = j then 1 else 0
 have hx := hk x ?_ j hjn
 ·have : x j = 1 := by show (if j < j then _ else if j = j then (1 : Rat) else 0) = 1; rw [if_neg om, if_pos rfl]
  rw [this] at hx
  exact absurd hx (by decide)
 ·have h1 : Sol S n x := by
   intro i hi
   unfold rd
   have h2 : ∀ t, t < n → t ≠ j → (t < j → i ≠ t) → ent S i t * x t = 0 := fun t ht hne hti => by
    by_cases e : t < j
    ·have := hR.piv t om i hi
     rw [hj1 t e, if_neg (hti e)] at this
     rw [this]; exact Rat.zero_mul _
    ·show _ * (if t < j then _ else if t = j then (1 : Rat) else 0) = 0
     rw [if_neg e, if_neg hne]; exact Rat.mul_zero _
   by_cases e : i < j
   ·
    have h3 : sm (fun t => ent S i t * x t) n = sm (fun t => if t = j then ent S i j else 0) n + (ent S i i * x i - 0) := by
     have := sm_upd (f := fun t => ent S i t * x t) (g := fun t => if t = j then ent S i j else 0) (t := i) n om fun t ht hne => by
      show ent S i t * x t = if t = j then ent S i j else 0
      by_cases e2 : t = j
      ·rw [if_pos e2, e2]
       show ent S i j * (if j < j then _ else if j = j then (1 : Rat) else 0) = _
       rw [if_neg om, if_pos rfl, Rat.mul_one]
      ·rw [if_neg e2]; exact h2 t ht e2 fun _ h => hne h.symm
     rw [if_neg om] at this
     exact this
    rw [h3, gJ n hjn fun t _ hne => if_neg hne, if_pos rfl]
    have h4 := hR.piv i om i hi
    rw [hj1 i e, if_pos rfl] at h4
    rw [h4, show x i = -ent S i j from if_pos e]
    grind
   ·refine (cK n fun t ht => ?_).trans (iN n)
    by_cases e2 : t = j
    ·have h5 : ent S i j = 0 := by
      by_cases e3 : i < L.length
      ·exact hR.low i e3 j (hj2 i om e3)
      ·exact hR.zer i om hi j hjn
     rw [e2, h5]; exact Rat.zero_mul _
    ·exact h2 t ht e2 fun h => by omega
  have h6 := (hsol x).1 h1
  intro i hi
  exact h6 i om
theorem lin_ok {A : List (List Rat)} {b : List Rat} {n : Nat} (hl : A.length = n) (hw : Wid n A) (hk : ∀ x : Nat → Rat, (∀ i, i < n → sm (fun j => ent A i j * x j) n = 0) → ∀ j, j < n → x j = 0) :
  nosol (gjn (wR A b) n) n = false ∧ ∀ i, i < n → dotR (A.getD i default) (solv (gjn (wR A b) n) n (gjn (wR A b) n).2.length) = b.getD i default := by
 have hf := full_rank hl hw hk
 have hW : Wid (n + 1) (wR A b) := wR_wid hw
 have he := gjn_ext hw hW om (nM A b) (fun i j hi hj => ent_wR hw hi hj) n (Nat.le_refl _)
 have hns : nosol (gjn (wR A b) n) n = false := by
  have hgl := cW (wR A b) n
  rw [nM] at hgl
  exact nosol_no (by rw [he.1]; omega) fun k h1 h2 => by rw [he.1] at h1; omega
 exact ⟨hns, fun i hi => solv_ok hw hns i om⟩
theorem solv_bd {S : GS} {w β : Nat} (h1 : 1 ≤ β) (hb : BdL β S.1) : ∀ i, ∀ x, x ∈ solv S w i → Bd β x
 | 0, x, hx => by
  rw [solv] at hx
  obtain ⟨_, rfl⟩ := List.mem_replicate.1 hx
  exact Bd0 h1
 | i + 1, x, hx => by
  rw [solv] at hx
  rcases List.mem_or_eq_of_mem_set hx with h | h
  ·exact solv_bd h1 hb i x h
  ·rw [h]; exact BdL.ent h1 hb _ _
open Go.RowKit
structure VB (n : Nat) (bs : List BR) : Prop where
 len : 1 ≤ bs.length ∧ bs.length ≤ 8
 to : ∀ i, i < bs.length → 0 ≤ (bs.getD i default).1 ∧ (bs.getD i default).1 < n
 inc : ∀ i j, i < j → j < bs.length → (bs.getD i default).1 < (bs.getD j default).1
 vn : ∀ i, i < bs.length → VN (bs.getD i default).2
 pos : ∀ i, i < bs.length → 0 < (bs.getD i default).2.1
 sum : psum bs bs.length = 1
theorem okB_inc {n : Nat} {bs : List BR} (h : ∀ j, j < bs.length → okB n bs j = true) : ∀ i j, i < j → j < bs.length → (bs.getD i default).1 < (bs.getD j default).1 := by
 intro i j hij
 induction j with
 | zero => exact absurd hij om
 | succ j ih =>
  intro hj
  have h1 := h (j + 1) hj
  unfold okB at h1
  rw [Bool.and_eq_true, Bool.and_eq_true, Bool.and_eq_true] at h1
  have h2 : (bs.getD j default).1 < (bs.getD (j + 1) default).1 := of_decide_eq_true h1.1.1.1
  by_cases e : i = j
  ·rw [e]; exact h2
  ·have := ih om om; omega
theorem VC_VB {n : Nat} {c : CH} (h : VC n c = true) : VN c.1 ∧ VB n c.2.2 := by
 unfold VC at h
 simp only [Bool.and_eq_true] at h
 obtain ⟨⟨⟨⟨h1, h2⟩, h3⟩, h4⟩, h5⟩ := h
 have h2 := of_decide_eq_true h2
 have h3 := of_decide_eq_true h3
 have hok : ∀ j, j < c.2.2.length → okB n c.2.2 j = true := fun j hj => List.all_eq_true.1 h4 j (List.mem_range.2 hj)
 refine ⟨of_decide_eq_true h1, ⟨h2, h3⟩, fun i hi => ?_, okB_inc hok, fun i hi => of_decide_eq_true (nE (hok i hi)).1, fun i hi => (nE (hok i hi)).2, of_decide_eq_true h5⟩
 have hlo := okB_lo (n := n) (bs := c.2.2) i fun j hj => hok j om
 have h6 := hok i hi
 unfold okB at h6
 rw [Bool.and_eq_true, Bool.and_eq_true, Bool.and_eq_true] at h6
 have e1 := of_decide_eq_true h6.1.1.1
 have e2 := of_decide_eq_true h6.1.1.2
 omega
theorem oV {ss : List ST} (h : VMo ss = true) {x : ST} (hx : x ∈ ss) {c : CH} (hc : c ∈ x.2.2) : VN c.1 ∧ VB ss.length c.2.2 := by
 unfold VMo at h
 rw [Bool.and_eq_true] at h
 have h1 := List.all_eq_true.1 h.2 x hx
 unfold VS at h1
 rw [Bool.and_eq_true] at h1
 exact VC_VB (List.all_eq_true.1 h1.2 c hc)
theorem nq_pos {a : NM} (h : VN a) (h0 : 0 < a.1) : 0 < nq a := by
 have h2 : 0 < a.2 := by have := h.1; omega
 unfold nq
 rw [Rat.divInt_eq_div]
 have e1 : (0 : Rat) < (a.1 : Rat) := by exact_mod_cast h0
 have e2 : (0 : Rat) < (a.2 : Rat) := by exact_mod_cast h2
 generalize (a.1 : Rat) = p at *
 generalize (a.2 : Rat) = q at *
 apply Classical.byContradiction
 intro hn
 have h3 : 0 ≤ -(p / q) * q := Rat.mul_nonneg (by grind) (Rat.le_of_lt e2)
 have h4 : p / q * q = p := by grind
 grind
theorem VB.wb {n : Nat} {bs : List BR} (h : VB n bs) : WB n bs := ⟨fun i hi => nq_pos (h.vn i hi) (h.pos i hi), h.sum, fun i hi => by have := h.to i hi; omega⟩
theorem kG {ss : List ST} {d : Rat} (h : VMo ss = true) (h0 : 0 < d) (h1 : d < 1) : DM ss d :=
 ⟨h0, h1, (iZ h).pos, fun x hx => ((iZ h).cs x hx).1, fun x hx c hc => (oV h hx hc).2.wb⟩
def fn_ (v : List Rat) : Nat → Rat := fun s => v.getD s default
def RowOk (n : Nat) (d : Rat) (bs : List BR) (i : Nat) (row : List Rat) : Prop := row.length = n ∧ ∀ v : List Rat, dotR row v = v.getD i default - d * mnF bs (fn_ v) bs.length
def RowP (n : Nat) (d : Rat) (bs : List BR) (j : Nat) (row : List Rat) : Prop := row.length = n ∧ (∀ v : List Rat, dotR row v = -(d * mnF bs (fn_ v) j)) ∧ (∀ t, t < n → (∀ i, i < j → (bs.getD i default).1 ≠ t) → row.getD t default = 0) ∧ ∀ x, x ∈ row → Bd 4 x
theorem RowP.init (n : Nat) (d : Rat) (bs : List BR) : RowP n d bs 0 (List.replicate n 0) := by
 refine ⟨by simp, fun v => by rw [dotR_zero]; unfold mnF; grind, fun t ht _ => by rw [List.getD_eq_getElem?_getD, List.getElem?_replicate, if_pos ht]; rfl, fun x hx => by rw [(List.mem_replicate.1 hx).2]; exact Bd0 (by decide)⟩
theorem RowP.step {n : Nat} {d : Rat} {bs : List BR} {j : Nat} {row : List Rat} (h : RowP n d bs j row) (hb : VB n bs) (hj : j < bs.length) (hd : Bd 2 d) : RowP n d bs (j + 1) (row.set (bs.getD j default).1.toNat (-(d * nq (bs.getD j default).2))) := by
 obtain ⟨h1, h2, h3, h4⟩ := h
 have ht := hb.to j hj
 have hz := h3 (bs.getD j default).1.toNat om fun i hi => by have := hb.inc i j hi hj; omega
 refine ⟨by rw [List.length_set]; exact h1, fun v => ?_, fun t htn hne => ?_, fun x hx => ?_⟩
 ·rw [nU om, h2, hz]
  show _ = -(d * (mnF bs (fn_ v) j + nq (bs.getD j default).2 * v.getD (bs.getD j default).1.toNat default))
  grind
 ·rw [cD om, if_neg (fun e => hne j om om)]
  exact h3 t htn fun i hi => hne i om
 ·rcases List.mem_or_eq_of_mem_set hx with h | h
  ·exact h4 x h
  ·rw [h]; exact (hd.mul (hb.vn j hj).bd).neg
theorem RowP.done {n : Nat} {d : Rat} {bs : List BR} {i : Nat} {row : List Rat} (h : RowP n d bs bs.length row) (hi : i < n) : RowOk n d bs i (row.set i (row.getD i default + 1)) ∧ ∀ x, x ∈ row.set i (row.getD i default + 1) → Bd 8 x := by
 obtain ⟨h1, h2, h3, h4⟩ := h
 refine ⟨⟨by rw [List.length_set]; exact h1, fun v => ?_⟩, fun x hx => ?_⟩
 ·rw [nU om, h2]; grind
 ·rcases List.mem_or_eq_of_mem_set hx with h | h
  ·exact (h4 x h).mono (by decide)
  ·rw [h]; exact ((oL (b := 4) (by decide) h4 i).add Bd1).mono (by decide)
def RowR (n : Nat) (d : Rat) (bs : List BR) (a j : Nat) (row : List Rat) : Prop := row.length = n ∧ (∀ v : List Rat, dotR row v = v.getD a default - d * mnF bs (fn_ v) j) ∧ (∀ t, t < n → (∀ i, i < j → (bs.getD i default).1 ≠ t) → Bd 1 (row.getD t default)) ∧ ∀ x, x ∈ row → Bd 8 x
theorem RowR.init {n : Nat} (d : Rat) (bs : List BR) {a : Nat} (ha : a < n) : RowR n d bs a 0 ((List.replicate n 0).set a 1) := by
 have hb : ∀ x, x ∈ (List.replicate n (0 : Rat)).set a 1 → Bd 1 x := fun x hx => by
  rcases List.mem_or_eq_of_mem_set hx with h | h
  ·rw [(List.mem_replicate.1 h).2]; exact Bd0 (by decide)
  ·rw [h]; exact Bd1
 refine ⟨by simp, fun v => ?_, fun t ht _ => oL (by decide) hb t, fun x hx => (hb x hx).mono (by decide)⟩
 rw [nU (by simpa using ha), dotR_zero, List.getD_eq_getElem?_getD (l := List.replicate n 0), List.getElem?_replicate, if_pos ha]
 unfold mnF
 show 0 + (1 - (0 : Rat)) * _ = _
 grind
theorem RowR.step {n : Nat} {d : Rat} {bs : List BR} {a j : Nat} {row : List Rat} (h : RowR n d bs a j row) (hb : VB n bs) (hj : j < bs.length) (hd : Bd 2 d) : RowR n d bs a (j + 1) (row.set (bs.getD j default).1.toNat (row.getD (bs.getD j default).1.toNat default - d * nq (bs.getD j default).2)) := by
 obtain ⟨h1, h2, h3, h4⟩ := h
 have ht := hb.to j hj
 have hz := h3 (bs.getD j default).1.toNat om fun i hi => by have := hb.inc i j hi hj; omega
 refine ⟨by rw [List.length_set]; exact h1, fun v => ?_, fun t htn hne => ?_, fun x hx => ?_⟩
 ·rw [nU om, h2]
  show _ = v.getD a default - d * (mnF bs (fn_ v) j + nq (bs.getD j default).2 * v.getD (bs.getD j default).1.toNat default)
  grind
 ·rw [cD om, if_neg (fun e => hne j om om)]
  exact h3 t htn fun i hi => hne i om
 ·rcases List.mem_or_eq_of_mem_set hx with h | h
  ·exact h4 x h
  ·rw [h, Rat.sub_eq_add_neg]; exact (hz.add (hd.mul (hb.vn j hj).bd).neg).mono (by decide)
theorem worth_sys {ss : List ST} {d : Rat} (h : DM ss d) (hn : ss.length ≤ 40) {st : List Int} (hst : vSt ss st = true) {A : List (List Rat)} {b : List Rat} (hl : A.length = ss.length) (hbl : b.length = ss.length)
  (hA : ∀ i, i < ss.length → RowOk ss.length d (ch ss i (st.getD i default).toNat).2.2 i (A.getD i default)) (hb : ∀ i, i < ss.length → b.getD i default = nq (ch ss i (st.getD i default).toNat).1) (hbA : BdL 8 A) (hbb : ∀ x, x ∈ b → Bd 8 x) :
  GB (wR A b) ss.length 268435456 ∧ GB (wR A b) (ss.length + 1) 268435456 ∧ nosol (gjn (wR A b) ss.length) ss.length = false ∧ (solv (gjn (wR A b) ss.length) ss.length (gjn (wR A b) ss.length).2.length).length = ss.length ∧
   WV ss d st (fn_ (solv (gjn (wR A b) ss.length) ss.length (gjn (wR A b) ss.length).2.length)) ∧ ∀ x, x ∈ solv (gjn (wR A b) ss.length) ss.length (gjn (wR A b) ss.length).2.length → Bd 268435456 x := by
 have hw : Wid ss.length A := fun r hr => by
  obtain ⟨i, hi, rfl⟩ := List.getElem_of_mem hr
  have := (hA i om).1
  rwa [show A.getD i default = A[i] by rw [List.getD_eq_getElem?_getD, List.getElem?_eq_getElem hi]; rfl] at this
 have hW : Wid (ss.length + 1) (wR A b) := wR_wid hw
 have hbW : BdL 8 (wR A b) := wR_bd om hbA hbb
 have hG : ∀ c, c ≤ ss.length + 1 → GB (wR A b) c 268435456 := fun c hc => GB_all hbW (by decide) (by decide) hW (by rw [nM]; omega) om hc
 have hk : ∀ x : Nat → Rat, (∀ i, i < ss.length → sm (fun j => ent A i j * x j) ss.length = 0) → ∀ j, j < ss.length → x j = 0 := by
  intro x hx
  have hrow : ∀ i, i < ss.length → x i = d * mnF (ch ss i (st.getD i default).toNat).2.2 x (ch ss i (st.getD i default).toNat).2.2.length := fun i hi => by
   have h1 := (hA i hi).2 ((List.range ss.length).map x)
   rw [nV, (hA i hi).1, cK (g := fun j => ent A i j * x j) ss.length fun j hj => by rw [fN hj]; rfl, hx i hi, fN hi] at h1
   have h2 := pG (st_wb h hst hi) (u := fn_ ((List.range ss.length).map x)) (v := x) (fun j hj => fN hj) _ (Nat.le_refl _)
   rw [h2] at h1
   grind
  have hz : ∀ bs : List BR, ∀ i, mnF bs (fun _ => 0) i = 0 := fun bs i => by
   induction i with
   | zero => rfl
   | succ i ih => unfold mnF; rw [ih]; grind
  have k1 := comp (Rat.le_of_lt h.d0) h.d1 (u := fun _ => 0) (v := x) fun i hi => ⟨_, st_wb h hst hi, by have := hrow i hi; rw [hz]; grind⟩
  have k2 := comp (Rat.le_of_lt h.d0) h.d1 (u := x) (v := fun _ => 0) fun i hi => ⟨_, st_wb h hst hi, by have := hrow i hi; rw [hz]; grind⟩
  intro j hj
  have a1 := k1 j hj
  have a2 := k2 j hj
  grind
 obtain ⟨hns, hsol⟩ := lin_ok (b := b) hl hw hk
 refine ⟨hG _ om, hG _ (Nat.le_refl _), hns, solv_len _ _ _, fun i hi => ?_, solv_bd (by decide) ((hG _ (Nat.le_refl _)).bds _ om) _⟩
 have h1 := hsol i hi
 rw [(hA i hi).2, hb i hi] at h1
 show (solv _ _ _).getD i default = nq _ + d * mnF _ _ _
 grind
open Go.RowKit
def xmean (bs : List BR) (vx : List X) : Nat → X
 | 0 => x0
 | i + 1 => xadd (xmean bs vx i) (xmul (nx (bs.getD i default).2) (vx.getD (bs.getD i default).1.toNat default))
def xyl (c : CH) (d : X) (vx : List X) : X := xadd (nx c.1) (xmul d (xmean c.2.2 vx c.2.2.length))
def vl (vx : List X) : Nat → Rat := fn_ (vx.map (·.1))
theorem nL (vx : List X) (i : Nat) : (vx.getD i default).1 = vl vx i := by
 unfold vl fn_
 rw [List.getD_eq_getElem?_getD, List.getD_eq_getElem?_getD, List.getElem?_map]
 cases vx[i]? <;> rfl
theorem xmean_v (bs : List BR) (vx : List X) : ∀ i, (xmean bs vx i).1 = mnF bs (vl vx) i
 | 0 => rfl
 | i + 1 => by
  show (xmean bs vx i).1 + nq _ * (vx.getD _ default).1 = _
  rw [xmean_v bs vx i, nL]; rfl
theorem xyl_v (c : CH) (d : X) (vx : List X) : (xyl c d vx).1 = yl d.1 c (vl vx) := by
 show nq c.1 + d.1 * (xmean _ _ _).1 = _
 rw [xmean_v]; rfl
theorem VN.all3 {a : NM} (h : VN a) : I64 a.1 ∧ I64 a.2 ∧ a.2 ≠ 0 := by
 obtain ⟨h1, h2, h3, h4, _⟩ := h
 unfold I64
 omega
theorem nY {vx : List X} {β : Nat} (h0 : 1 ≤ β) (h : ∀ x, x ∈ vx → Bd β x.1) (t : Nat) : Bd β (vx.getD t default).1 := by
 rcases Nat.lt_or_ge t vx.length with ht | ht
 ·exact h _ (bG ht)
 ·rw [List.getD_eq_getElem?_getD, List.getElem?_eq_none ht]; exact Bd0 h0
theorem oU {n : Nat} {bs : List BR} (hb : VB n bs) {vx : List X} {β : Nat} (h0 : 1 ≤ β) (h : ∀ x, x ∈ vx → Bd β x.1) : ∀ i, i ≤ bs.length → Bd (1 + i * (β + 3)) (xmean bs vx i).1
 | 0, _ => Bd0 om
 | i + 1, hi => ((oU hb h0 h i om).add ((hb.vn i om).bd.mul (nY h0 h _))).mono (by rw [Nat.succ_mul]; omega)
theorem xyl_bd {n : Nat} {c : CH} (hr : VN c.1) (hb : VB n c.2.2) {d : X} (hd : Bd 2 d.1) {vx : List X} {β : Nat} (h0 : 1 ≤ β) (h : ∀ x, x ∈ vx → Bd β x.1) : Bd (8 * β + 40) (xyl c d vx).1 := by
 have h1 := oU hb h0 h c.2.2.length (Nat.le_refl _)
 refine (hr.bd.add (hd.mul h1)).mono ?_
 have : c.2.2.length * (β + 3) ≤ 8 * (β + 3) := Nat.mul_le_mul_right _ hb.len.2
 omega
def sgnF (p : Int) (a b : Rat) : Int := if p = 1 then (b - a).num.sign else (a - b).num.sign
theorem oN {p : Int} {a b : Rat} : 0 < sgnF p a b ↔ btr p a b := by
 have key : ∀ x : Rat, 0 < x.num.sign ↔ 0 < x := fun x => by
  rw [Int.sign_pos_iff]
  have h1 := Rat.num_nonneg (q := x)
  have h2 := Rat.num_eq_zero (q := x)
  constructor
  ·intro h
   have h3 := h1.1 om
   have h4 : x ≠ 0 := fun e => by have := h2.2 e; omega
   grind
  ·intro h
   have h3 := h1.2 (by grind)
   have h4 : x.num ≠ 0 := fun e => by have := h2.1 e; grind
   omega
 unfold sgnF btr
 by_cases h : p = 1
 ·rw [if_pos h, if_pos h, key]; constructor <;> intro h <;> grind
 ·rw [if_neg h, if_neg h, key]; constructor <;> intro h <;> grind
section
variable {P : Program} {T : TT} {E : TypeId → Bool} {N : Nat} {oa : Array Oper} {i b : Nat} {e : Env} {h : Hp} {Q : Env → Hp → Nat → Prop}
theorem WN.Gv {u : Tmp} {fn : Func} {f : FuncId} {c : Code} {args : Array Operand} {at_ : Array TypeId} {t : TypeId} {pos : String} {af : Array Edge} {l : List Oper} {dst : Tmp} {first cap ls : List LV} {n : Nat} {Φ : LV → Hp → Nat → Prop} (hv : evE e (.tmp u) = some (.fn (.func f) first cap)) (ha : argsE e args.toList = some ls) (hf : P.funcs[f]? = some fn) (hb : fn.body = some c) (hn : (fn.name == "runtime.NumGoroutine") = false)
  (hl : (first ++ ls ++ cap).length ≤ fn.ntmps) (hd : Nat.blt dst N = true)
  (k : WC P T E fn.ntmps c (argsEnv 0 (first ++ ls ++ cap)) h n (fun x e' h' n' => (x = .normal ∨ x = .ret) ∧ ∃ ls', resE e' T h' fn.results.toList = some ls' ∧ Φ (resultLV ls') h' n'))
  (kk : ∀ r h' n', Φ r h' n' → WN P T E N oa l (i + 1) b ((dst, r) :: e) h' n' Q) :
  WN P T E N oa (⟨some dst, .call { callee := .value (.tmp u), args := args, argTypes := at_ }, t, pos, af, none⟩ :: l) i b e h n Q := by
 intro hdr s m hs hm
 obtain ⟨hi, hl'⟩ := eZ hdr
 obtain ⟨x, s', h1, e', h', h2, h3, hx, ls', hr, hΦ⟩ := k (frame fn (first ++ ls ++ cap)) m ⟨by simp [frame]; simp at hl; omega, fun t l ht => by
  obtain ⟨_, k⟩ := fF (first ++ ls ++ cap) 0 t l ht
  simp only [Nat.sub_zero] at k
  unfold frame
  rw [List.getElem?_append_left (List.getElem?_eq_some_iff.1 k).1]; exact k⟩ hm
 have hg : Run P T E (.gcall f (first ++ ls ++ cap) m n (resultLV ls') s'.m s'.n) := .gcall f fn c (first ++ ls ++ cap) m n x s' ls' hf hb hn hl h1 hx (fO h2 h3 hr)
 obtain ⟨rs, s2, k1, k2⟩ := kk _ h' s'.n hΦ hl' _ _ (hs.put hd (resultLV ls')) h3
 refine ⟨⟨i, [], [], true⟩ :: rs, s2, ?_, k2⟩
 rw [List.length_cons, List.range'_succ]
 refine .gdid oa i _ b ⟨s, m, n⟩ s2 rs _ _ (.tmp u) f first cap (resultLV ls') s'.m s'.n (by simpa using hi) rfl rfl rfl (dM hs hv) ?_ k1
 rw [dZ (fun x l hx => dM hs hx) ha]
 exact hg
theorem Fz.weakH {K : Env → Hp → Prop} (a : Hp) (hs : Hp.le a h) (k : Fz N e a K) : Fz N e h K := fun s m hf hm => k s m hf fun t l hg => hm t l (hs t l hg)
end
def rq (q n x : Nat) : Nat := if x = q then 0 else rn n x + 1
theorem rq_self (q n : Nat) : rq q n q = 0 := if_pos rfl
theorem rq_lt {q n x : Nat} (h : x < n) (h2 : x ≠ q) : rq q n x = 1 := by unfold rq; rw [if_neg h2, qF h]
theorem rq_add {q n : Nat} (h : q < n) (k : Nat) : rq q n (n + k) = k + 2 := by unfold rq; rw [if_neg om, pN]
end Go.Ab
namespace Go.Ab
def rq2 (a b n x : Nat) : Nat := if x = a then 0 else if x = b then 1 else rn n x + 2
theorem rq2_a (a b n : Nat) : rq2 a b n a = 0 := if_pos rfl
theorem rq2_b {a b n : Nat} (h : b ≠ a) : rq2 a b n b = 1 := by unfold rq2; rw [if_neg h, if_pos rfl]
theorem rq2_lt {a b n x : Nat} (h : x < n) (h1 : x ≠ a) (h2 : x ≠ b) : rq2 a b n x = 2 := by unfold rq2; rw [if_neg h1, if_neg h2, qF h]
theorem rq2_add {a b n : Nat} (h1 : a < n) (h2 : b < n) (k : Nat) : rq2 a b n (n + k) = k + 3 := by unfold rq2; rw [if_neg om, if_neg om, pN]
end Go.Ab
namespace Go.Ab
open Go.RowKit
theorem WN.B {P : Program} {T : TT} {E : TypeId → Bool} {N : Nat} {oa : Array Oper} {i b n : Nat} {e : Env} {h : Hp} {Q : Env → Hp → Nat → Prop} {l : List Oper} {dst : Tmp} {p : Bool} (h1 : p = true → WN P T E N oa l i b ((dst, .v (.bool true)) :: e) h n Q) (h2 : p = false → WN P T E N oa l i b ((dst, .v (.bool false)) :: e) h n Q) : WN P T E N oa l i b ((dst, .v (.bool p)) :: e) h n Q := by
 cases p
 ·exact h2 rfl
 ·exact h1 rfl
theorem qW {n a b c d : Nat} {o1 o2 o3 o4 : Ob} (h1 : a < n) (h2 : b < n) (h3 : c < n) (h4 : d < n) : ∀ q o, getH [(a, o1), (b, o2), (c, o3), (d, o4)] q = some o → q < n := by
 intro q o hq
 by_cases e1 : a = q
 ·omega
 ·rw [g1 e1 rfl] at hq
  by_cases e2 : b = q
  ·omega
  ·rw [g1 e2 rfl] at hq
   by_cases e3 : c = q
   ·omega
   ·rw [g1 e3 rfl] at hq
    by_cases e4 : d = q
    ·omega
    ·rw [g1 e4 rfl] at hq; simp [getH] at hq
end Go.Ab
namespace Go.Ab
open Go.RowKit
def btB (p : Int) (a b : Rat) : Bool := if p = 1 then decide (a < b) else decide (b < a)
theorem btB_iff {p : Int} {a b : Rat} : btB p a b = true ↔ btr p a b := by
 unfold btB btr
 by_cases h : p = 1
 ·rw [if_pos h, if_pos h, decide_eq_true_eq]
 ·rw [if_neg h, if_neg h, decide_eq_true_eq]
theorem btr_irr {p : Int} {a : Rat} : ¬ btr p a a := by unfold btr; split <;> grind
def bkF (p : Int) (ys : Nat → Rat) : Nat → Nat
 | 0 => 0
 | i + 1 => if btB p (ys i) (ys (bkF p ys i)) = true then i else bkF p ys i
section
variable {p : Int} {ys : Nat → Rat}
theorem bkF_yes {i : Nat} (h : btr p (ys i) (ys (bkF p ys i))) : bkF p ys (i + 1) = i := if_pos (btB_iff.2 h)
theorem bkF_no {i : Nat} (h : ¬ btr p (ys i) (ys (bkF p ys i))) : bkF p ys (i + 1) = bkF p ys i := if_neg fun k => h (btB_iff.1 k)
theorem bkF_one : bkF p ys 1 = 0 := by rw [bkF_no btr_irr]; rfl
theorem bkF_lt : ∀ n, 0 < n → bkF p ys n < n
 | 0, h => absurd h om
 | 1, _ => by rw [bkF_one]; decide
 | n + 2, _ => by
  have := bkF_lt (n + 1) om
  unfold bkF
  split <;> omega
theorem btr_trans {a b c : Rat} (h1 : ¬ btr p a b) (h2 : ¬ btr p b c) : ¬ btr p a c := by
 unfold btr at *
 split at h1
 ·rename_i h; rw [if_pos h] at h2 ⊢; grind
 ·rename_i h; rw [if_neg h] at h2 ⊢; grind
theorem btr_asym {a b : Rat} (h : btr p a b) : ¬ btr p b a := by
 unfold btr at *
 split at h
 ·rename_i k; rw [if_pos k]; grind
 ·rename_i k; rw [if_neg k]; grind
theorem nR : ∀ n i, i < n → ¬ btr p (ys i) (ys (bkF p ys n))
 | 0, _, h => absurd h om
 | n + 1, i, h => by
  by_cases hb : btr p (ys n) (ys (bkF p ys n))
  ·rw [bkF_yes hb]
   by_cases e : i = n
   ·rw [e]; exact btr_irr
   ·exact btr_trans (nR n i om) (btr_asym hb)
  ·rw [bkF_no hb]
   by_cases e : i = n
   ·rw [e]; exact hb
   ·exact nR n i om
end
def ysF (x : ST) (d : Rat) (v : Nat → Rat) : Nat → Rat := fun k => yl d (x.2.2.getD k default) v
def bsK (x : ST) (d : Rat) (v : Nat → Rat) : Nat := bkF x.1.1 (ysF x d v) x.2.2.length
def bsV (x : ST) (d : Rat) (v : Nat → Rat) : Rat := ysF x d v (bsK x d v)
def isV (ss : List ST) (d : Rat) (v : Nat → Rat) : Bool := (List.range ss.length).all fun i => decide (bsV (ss.getD i default) d v = v i)
theorem isV_iff {ss : List ST} {d : Rat} {v : Nat → Rat} (h : DM ss d) : isV ss d v = true ↔ Val ss d v := by
 unfold isV
 rw [List.all_eq_true]
 constructor
 ·intro hv i hi
  have h1 : bsV (ss.getD i default) d v = v i := of_decide_eq_true (hv i (List.mem_range.2 hi))
  have hl := h.cs _ (bG hi)
  have hk := bkF_lt (p := (ss.getD i default).1.1) (ys := ysF (ss.getD i default) d v) (ss.getD i default).2.2.length om
  refine ⟨⟨_, hk, h1.symm⟩, fun k hkl => ?_⟩
  have h2 := nR (p := (ss.getD i default).1.1) (ys := ysF (ss.getD i default) d v) (ss.getD i default).2.2.length k hkl
  have h3 : ysF (ss.getD i default) d v (bkF (ss.getD i default).1.1 (ysF (ss.getD i default) d v) (ss.getD i default).2.2.length) = v i := h1
  rw [h3] at h2
  unfold btr at h2
  by_cases ho : (ss.getD i default).1.1 = 1
  ·rw [if_pos ho] at h2 ⊢
   show v i ≤ ysF (ss.getD i default) d v k
   grind
  ·rw [if_neg ho] at h2 ⊢
   show ysF (ss.getD i default) d v k ≤ v i
   grind
 ·intro hv i hi
  have hi := List.mem_range.1 hi
  obtain ⟨⟨k, hk, e⟩, ha⟩ := hv i hi
  have hl := h.cs _ (bG hi)
  have hb := bkF_lt (p := (ss.getD i default).1.1) (ys := ysF (ss.getD i default) d v) (ss.getD i default).2.2.length om
  have h2 := nR (p := (ss.getD i default).1.1) (ys := ysF (ss.getD i default) d v) (ss.getD i default).2.2.length k hk
  have h3 := ha _ hb
  refine decide_eq_true ?_
  show ysF (ss.getD i default) d v _ = v i
  have e' : v i = ysF (ss.getD i default) d v k := e
  unfold btr at h2
  by_cases ho : (ss.getD i default).1.1 = 1
  ·rw [if_pos ho] at h2 h3
   have h3' : v i ≤ ysF (ss.getD i default) d v (bkF (ss.getD i default).1.1 (ysF (ss.getD i default) d v) (ss.getD i default).2.2.length) := h3
   unfold bsK
   grind
  ·rw [if_neg ho] at h2 h3
   have h3' : ysF (ss.getD i default) d v (bkF (ss.getD i default).1.1 (ysF (ss.getD i default) d v) (ss.getD i default).2.2.length) ≤ v i := h3
   unfold bsK
   grind
def eD (ss : List ST) (f : NM) (ns : List NM) : Int := if VMo ss = true ∧ VN f ∧ ns.all vn = true then if 0 < f.1 ∧ f.1 < f.2 then 0 else 6 else 1
theorem eD_ok {ss : List ST} {f : NM} {ns : List NM} (h : eD ss f ns = 0) : VMo ss = true ∧ VN f ∧ ns.all vn = true ∧ 0 < f.1 ∧ f.1 < f.2 := by
 unfold eD at h
 by_cases h1 : VMo ss = true ∧ VN f ∧ ns.all vn = true
 ·rw [if_pos h1] at h
  by_cases h2 : 0 < f.1 ∧ f.1 < f.2
  ·exact ⟨h1.1, h1.2.1, h1.2.2, h2⟩
  ·rw [if_neg h2] at h; cases h
 ·rw [if_neg h1] at h; cases h
theorem fac01 {f : NM} (h : VN f) (h0 : 0 < f.1) (h1 : f.1 < f.2) : 0 < nq f ∧ nq f < 1 := by
 refine ⟨nq_pos h h0, ?_⟩
 unfold nq
 rw [Rat.divInt_eq_div]
 have e1 : (f.1 : Rat) < (f.2 : Rat) := by exact_mod_cast h1
 have e2 : (0 : Rat) < (f.2 : Rat) := by
  have : 0 < f.2 := by omega
  exact_mod_cast this
 generalize (f.1 : Rat) = p at *
 generalize (f.2 : Rat) = q at *
 apply Classical.byContradiction
 intro hn
 have h3 : 0 ≤ (p / q - 1) * q := Rat.mul_nonneg (by grind) (Rat.le_of_lt e2)
 have h4 : p / q * q = p := by grind
 grind
def bestO (ss : List ST) (d : Rat) (vv : List Rat) : LV :=
 match vv.mapM outN with
 | none => .tup [.sl 0 [], .sl 0 [], .v (.int .i64 3)]
 | some o => .tup [.sl (kd o.length) (o.map mc), .sl 1 ((tab ss.length fun i => ((bsK (ss.getD i default) d (fn_ vv) : Nat) : Int)).map ic), .v (.int .i64 0)]
theorem val_list {ss : List ST} {d : Rat} (h : DM ss d) {u v : List Rat} (hu : u.length = ss.length) (hv : v.length = ss.length) (h1 : Val ss d (fn_ u)) (h2 : Val ss d (fn_ v)) : u = v :=
 jW om fun i hi => (Val.uniq h h2 h1 i om)
end Go.Ab
namespace Go.Ab
open Go.RowKit
theorem vn_all {ns : List NM} (h : ns.all vn = true) : ∀ a, a ∈ ns → VN a := fun a ha => of_decide_eq_true (List.all_eq_true.1 h a ha)
end Go.Ab
namespace Go.Ab
open Go.RowKit
end Go.Ab
namespace Go.Ab
open Go.RowKit
theorem Bd_1 : Bd 2 (1 : Rat) := Bd_int (z := 1) (by decide)
theorem I64_1 : I64 1 := by unfold I64; omega
theorem I64_0 : I64 0 := by unfold I64; omega
open Go.RowKit
def fewN (m : Nat) (ss : List ST) : Bool := !(decide (m < ss.length) && decide (ss.length ≤ 40)) && fewM ss
def few6 (ss : List ST) : Bool := fewN 6 ss
end Go.Ab
namespace Go.Ab
open Go.RowKit
end Go.Ab
namespace Go.Ab
open Go.RowKit
open Go.RowKit
open Classical in
noncomputable def vals (ss : List ST) (d : Rat) : List Rat := if h : ∃ v : List Rat, v.length = ss.length ∧ Val ss d (fn_ v) then Classical.choose h else []
theorem oT {ss : List ST} {d : Rat} (hD : DM ss d) {v : List Rat} (hl : v.length = ss.length) (hv : Val ss d (fn_ v)) : vals ss d = v := by
 have h : ∃ v : List Rat, v.length = ss.length ∧ Val ss d (fn_ v) := ⟨v, hl, hv⟩
 have e : vals ss d = Classical.choose h := dif_pos h
 rw [e]
 exact val_list hD (Classical.choose_spec h).1 hl (Classical.choose_spec h).2 hv
noncomputable def dbO (ss : List ST) (f : NM) : LV := if eD ss f [] = 0 then bestO ss (nq f) (vals ss (nq f)) else .tup [.sl 0 [], .sl 0 [], .v (.int .i64 (eD ss f []))]
theorem dtup3 {a b c : LV} (ha : Data a) (hb : Data b) (hc : Data c) : Data (.tup [a, b, c]) := .tup _ (by intro x hx; simp only [List.mem_cons, List.not_mem_nil, or_false] at hx; rcases hx with rfl | rfl | rfl <;> assumption)
theorem kJ {ss : List ST} {d : Rat} {v : List Rat} (h : v.mapM outN = none) : bestO ss d v = .tup [.sl 0 [], .sl 0 [], .v (.int .i64 3)] := by unfold bestO; rw [h]
theorem gP {ss : List ST} {d : Rat} {v : List Rat} {o : List NM} (h : v.mapM outN = some o) : bestO ss d v = .tup [.sl (kd o.length) (o.map mc), .sl 1 ((tab ss.length fun i => ((bsK (ss.getD i default) d (fn_ v) : Nat) : Int)).map ic), .v (.int .i64 0)] := by unfold bestO; rw [h]
theorem bestO_data {ss : List ST} {d : Rat} {v : List Rat} : Data (bestO ss d v) := by
 cases h : v.mapM outN with
 | none => rw [kJ h]; exact dtup3 (.sl _ _ (by simp)) (.sl _ _ (by simp)) (.v _)
 | some o => rw [gP h]; exact dtup3 (.sl _ _ (cL dmc)) (.sl _ _ (cL dic1)) (.v _)
theorem dbO_data {ss : List ST} {f : NM} : Data (dbO ss f) := by
 unfold dbO
 split
 ·exact bestO_data
 ·exact dtup3 (.sl _ _ (by simp)) (.sl _ _ (by simp)) (.v _)
def awk (p : Int) : List ST := [((p, 0), (2, [((1, 1), (2, [(0, (1, 1))])), ((2, 1), (2, [(0, (1, 1))]))]))]
theorem awk_is (p : Int) (h : I64 p) : ∀ s, s ∈ awk p → IS s := by
 intro s hs
 simp only [awk, List.mem_cons, List.not_mem_nil, or_false] at hs
 subst hs
 refine ⟨h, I64_0, ?_⟩
 intro c hc
 simp only [List.mem_cons, List.not_mem_nil, or_false] at hc
 rcases hc with rfl | rfl <;> refine ⟨?_, ?_, ?_⟩ <;> simp [I64, IB]
theorem awk_data (p : Int) : Data (lvMo 2 (awk p)) := .agg _ fun c hc => by rw [List.mem_singleton] at hc; subst hc; exact .sl _ _ fun row hr c hc => dstc row hr c hc
theorem mD (k : Nat) (a : NM) : Data (.sl k [mc a]) := .sl _ _ fun row hr c hc => by rw [List.mem_singleton] at hr; subst hr; exact dmc a c hc
theorem mA (k : Nat) (a : Int) : Data (.sl k [ic a]) := .sl _ _ fun row hr c hc => by rw [List.mem_singleton] at hr; subst hr; exact dic1 a c hc
theorem awk_e0 : eD (awk 0) (1, 2) [] = 0 := by decide +kernel
theorem awk_e1 : eD (awk 1) (1, 2) [] = 0 := by decide +kernel
theorem awk_DM {p : Int} (h : eD (awk p) (1, 2) [] = 0) : DM (awk p) (nq (1, 2)) := by
 obtain ⟨h1, h2, _, h3, h4⟩ := eD_ok h
 exact kG h1 (fac01 h2 h3 h4).1 (fac01 h2 h3 h4).2
theorem awk_b0 : dbO (awk 0) (1, 2) = .tup [.sl 1 [mc (4, 1)], .sl 1 [ic 1], .v (.int .i64 0)] := by
 have hv : Val (awk 0) (nq (1, 2)) (fn_ [4]) := (isV_iff (awk_DM awk_e0)).1 (by decide +kernel)
 unfold dbO
 rw [if_pos awk_e0, oT (awk_DM awk_e0) (v := [4]) rfl hv, gP (o := [(4, 1)]) (by decide +kernel)]
 have h2 : (tab (awk 0).length fun i => ((bsK ((awk 0).getD i default) (nq (1, 2)) (fn_ [4]) : Nat) : Int)) = [1] := by decide +kernel
 rw [h2]; rfl
theorem awk_b1 : dbO (awk 1) (1, 2) = .tup [.sl 1 [mc (2, 1)], .sl 1 [ic 0], .v (.int .i64 0)] := by
 have hv : Val (awk 1) (nq (1, 2)) (fn_ [2]) := (isV_iff (awk_DM awk_e1)).1 (by decide +kernel)
 unfold dbO
 rw [if_pos awk_e1, oT (awk_DM awk_e1) (v := [2]) rfl hv, gP (o := [(2, 1)]) (by decide +kernel)]
 have h2 : (tab (awk 1).length fun i => ((bsK ((awk 1).getD i default) (nq (1, 2)) (fn_ [2]) : Nat) : Int)) = [0] := by decide +kernel
 rw [h2]; rfl
end Go.Ab
namespace Go.Ab
open Go.RowKit
end Go.Ab
namespace Go.Ab
open Go.RowKit
open Go.RowKit
open Classical in
noncomputable def wor (ss : List ST) (d : Rat) (st : List Int) : List Rat := if h : ∃ v : List Rat, v.length = ss.length ∧ WV ss d st (fn_ v) then Classical.choose h else []
theorem wor_eq {ss : List ST} {d : Rat} (hD : DM ss d) {st : List Int} (hst : vSt ss st = true) {v : List Rat} (hl : v.length = ss.length) (hv : WV ss d st (fn_ v)) : wor ss d st = v := by
 have h : ∃ v : List Rat, v.length = ss.length ∧ WV ss d st (fn_ v) := ⟨v, hl, hv⟩
 have e : wor ss d st = Classical.choose h := dif_pos h
 rw [e]
 exact jW (by rw [(Classical.choose_spec h).1, hl]) fun i hi => WV.uniq hD hst (Classical.choose_spec h).2 hv i (by rw [(Classical.choose_spec h).1] at hi; exact hi)
def CO (D C : Nat) (x : Rat) : Prop := ∃ a : Int, x * (D : Rat) = (a : Rat) ∧ a.natAbs * 16 ≤ C
theorem CO.mean {D C t : Nat} {d : Rat} {bs : List BR} {v : Nat → Rat} (hc : ∀ b, b ∈ bs → CO D C (d * nq b.2)) (hv : ∀ j, QB D C 8 t (v j)) : ∀ i, i ≤ bs.length → ∃ z : Int, (d * mnF bs v i) * (D : Rat) ^ (t + 1) = (z : Rat) ∧ z.natAbs * 16 ≤ i * C ^ (t + 1)
 | 0, _ => ⟨0, by unfold mnF; rw [Rat.mul_zero, Rat.zero_mul]; rfl, by simp⟩
 | i + 1, hi => by
  obtain ⟨z, h1, h2⟩ := CO.mean hc hv i om
  obtain ⟨a, h3, h4⟩ := hc _ (bG (us := bs) (i := i) om)
  obtain ⟨q, h5, h6⟩ := hv (bs.getD i default).1.toNat
  refine ⟨z + a * q, ?_, ?_⟩
  ·have e : (d * mnF bs v (i + 1)) * (D : Rat) ^ (t + 1) = (d * mnF bs v i) * (D : Rat) ^ (t + 1) + (d * nq (bs.getD i default).2 * (D : Rat)) * (v (bs.getD i default).1.toNat * (D : Rat) ^ t) := by
    rw [show mnF bs v (i + 1) = mnF bs v i + nq (bs.getD i default).2 * v (bs.getD i default).1.toNat from rfl, Rat.pow_succ]
    generalize (D : Rat) ^ t = p
    grind
   rw [e, h1, h3, h5, Rat.intCast_add, Rat.intCast_mul]
  ·have h7 := Int.natAbs_add_le z (a * q)
   rw [Int.natAbs_mul] at h7
   have h8 : (a.natAbs * 16) * q.natAbs ≤ C * C ^ t := Nat.mul_le_mul h4 om
   rw [← Nat.pow_succ'] at h8
   replace h8 : _ ≤ C ^ (t + 1) := h8
   have h9 : (a.natAbs * 16) * q.natAbs = a.natAbs * q.natAbs * 16 := by rw [Nat.mul_right_comm]
   rw [h9] at h8
   rw [Nat.succ_mul]
   omega
theorem CO.step {D C t : Nat} {d : Rat} {c : CH} {v : Nat → Rat} (hr : CO D C (nq c.1)) (hc : ∀ b, b ∈ c.2.2 → CO D C (d * nq b.2)) (hv : ∀ j, QB D C 8 t (v j)) (hl : c.2.2.length ≤ 8) (hDC : D ≤ C) : QB D C 8 (t + 1) (yl d c v) := by
 obtain ⟨z, h1, h2⟩ := CO.mean hc hv c.2.2.length (Nat.le_refl _)
 obtain ⟨a, h3, h4⟩ := hr
 refine ⟨z + a * ((D ^ t : Nat) : Int), ?_, ?_⟩
 ·have e : yl d c v * (D : Rat) ^ (t + 1) = (d * mnF c.2.2 v c.2.2.length) * (D : Rat) ^ (t + 1) + (nq c.1 * (D : Rat)) * (D : Rat) ^ t := by
   unfold yl mn
   rw [Rat.pow_succ]
   generalize (D : Rat) ^ t = p
   grind
  rw [e, h1, h3, Rat.intCast_add, Rat.intCast_mul, Rat.intCast_natCast, Rat.natCast_pow]
 ·have h7 := Int.natAbs_add_le z (a * ((D ^ t : Nat) : Int))
  rw [Int.natAbs_mul, Int.natAbs_natCast] at h7
  have h8 : (a.natAbs * 16) * D ^ t ≤ C * C ^ t := Nat.mul_le_mul h4 (Nat.pow_le_pow_left hDC t)
  rw [← Nat.pow_succ'] at h8
  replace h8 : _ ≤ C ^ (t + 1) := h8
  have h9 : (a.natAbs * 16) * D ^ t = a.natAbs * D ^ t * 16 := by rw [Nat.mul_right_comm]
  rw [h9] at h8
  have h10 : c.2.2.length * C ^ (t + 1) ≤ 8 * C ^ (t + 1) := Nat.mul_le_mul_right _ hl
  omega
theorem CO.base {W : List Rat} (h : ∀ x, x ∈ W → Bd 4 x) (hl : W.length ≤ 2880) : ∃ D C e : Nat, e = 11525 ∧ 0 < D ∧ D ≤ C ∧ D ≤ 4294967296 ^ e ∧ C ≤ 4294967296 ^ e ∧ ∀ x, x ∈ W → CO D C x := by
 obtain ⟨a, ha⟩ : ∃ a : Nat, a = 11520 := ⟨_, rfl⟩
 have hD : dd W ≤ 4294967296 ^ a := by
  refine Nat.le_trans (dd_le (b := 4294967296 ^ 4) fun x hx => Nat.le_of_lt (h x hx).abs.2) ?_
  rw [← Nat.pow_mul]
  exact Nat.pow_le_pow_right (by decide) om
 refine ⟨dd W, 16 * (4294967296 ^ 4 * dd W), a + 5, om, dd_pos _, ?_, Nat.le_trans hD (Nat.pow_le_pow_right (by decide) om), ?_, fun x hx => ?_⟩
 ·have := dd_pos W
  have h2 : dd W ≤ 4294967296 ^ 4 * dd W := Nat.le_mul_of_pos_left _ (by decide)
  omega
 ·rw [Nat.add_comm, Nat.pow_add, show (4294967296 : Nat) ^ 5 = 4294967296 * 4294967296 ^ 4 by decide +kernel, Nat.mul_assoc]
  exact Nat.mul_le_mul (by decide) (Nat.mul_le_mul_left _ hD)
 ·obtain ⟨q, hq⟩ := dd_dvd hx
  have hb := (h x hx).abs.1
  have hdq : q ≤ dd W := by
   have := x.den_pos
   rw [hq]; exact Nat.le_mul_of_pos_left q this
  have hxd : x * (x.den : Rat) = (x.num : Rat) := by
   have h1 : x = (x.num : Rat) / ((x.den : Int) : Rat) := by rw [← Rat.divInt_eq_div, Rat.num_divInt_den]
   have h2 : ((x.den : Int) : Rat) ≠ 0 := by
    intro h0
    have : (x.den : Int) = 0 := by exact_mod_cast h0
    have := x.den_pos
    omega
   rw [← Rat.intCast_natCast]
   conv => lhs; lhs; rw [h1]
   exact Rat.div_mul_cancel h2
  refine ⟨x.num * (q : Int), ?_, ?_⟩
  ·rw [hq, Rat.natCast_mul, ← Rat.mul_assoc, hxd, Rat.intCast_mul, Rat.intCast_natCast]
  ·rw [Int.natAbs_mul, Int.natAbs_natCast, Nat.mul_comm _ 16]
   exact Nat.mul_le_mul_left 16 (Nat.mul_le_mul (Nat.le_of_lt hb) hdq)
end Go.Ab
namespace Go.Ab
end Go.Ab
namespace Go.Ab
end Go.Ab
namespace Go.Ab
open Go.RowKit
open Go.RowKit
section
variable {ss : List ST} {st : List Int}
end
theorem dbO_pair (ss : List ST) (f : NM) (hv : (vals ss (nq f)).length ≤ ss.length) (hp : VMo ss = true → 1 ≤ ss.length) : ∃ (R : List NM) (S : List Int) (E : Int), dbO ss f = .tup [.sl (kd R.length) (R.map mc), .sl (kd S.length) (S.map ic), .v (.int .i64 E)] ∧ R.length ≤ ss.length ∧ S.length ≤ ss.length := by
 unfold dbO
 by_cases h : eD ss f [] = 0
 ·rw [if_pos h]
  have hpos := hp (eD_ok h).1
  cases e : (vals ss (nq f)).mapM outN with
  | none => rw [kJ e]; exact ⟨[], [], 3, rfl, Nat.zero_le _, Nat.zero_le _⟩
  | some o =>
   rw [gP e]
   have := jM e
   refine ⟨o, tab ss.length fun i => ((bsK (ss.getD i default) (nq f) (fn_ (vals ss (nq f))) : Nat) : Int), 0, ?_, om, by rw [eO]; exact Nat.le_refl _⟩
   rw [show kd (tab ss.length fun i => ((bsK (ss.getD i default) (nq f) (fn_ (vals ss (nq f))) : Nat) : Int)).length = 1 by unfold kd; rw [if_neg (by rw [eO]; omega)]]
 ·rw [if_neg h]; exact ⟨[], [], _, rfl, Nat.zero_le _, Nat.zero_le _⟩
theorem vals_len (ss : List ST) (d : Rat) : (vals ss d).length ≤ ss.length := by
 unfold vals
 split
 ·rename_i h; rw [(Classical.choose_spec h).1]; exact Nat.le_refl _
 ·exact Nat.zero_le _
end Go.Ab
namespace Go.Ab
end Go.Ab
namespace Go.Ab
open Go.RowKit
end Go.Ab
namespace Go.Ab
open Go.RowKit
theorem dbO_1 {ss : List ST} {f : NM} (h : ¬ eD ss f [] = 0) : dbO ss f = .tup [.sl 0 [], .sl 0 [], .v (.int .i64 (eD ss f []))] := by unfold dbO; rw [if_neg h]
theorem dbO_2 {ss : List ST} {f : NM} (h : eD ss f [] = 0) (hm : (vals ss (nq f)).mapM outN = none) : dbO ss f = .tup [.sl 0 [], .sl 0 [], .v (.int .i64 3)] := by unfold dbO; rw [if_pos h, kJ hm]
theorem dbO_3 {ss : List ST} {f : NM} {o : List NM} (h : eD ss f [] = 0) (hm : (vals ss (nq f)).mapM outN = some o) (hp : 1 ≤ ss.length) : dbO ss f = .tup [.sl (kd o.length) (o.map mc), .sl (kd (tab ss.length (fun i : Nat => ((bsK (ss.getD i default) (nq f) (fn_ (vals ss (nq f))) : Nat) : Int))).length) ((tab ss.length (fun i : Nat => ((bsK (ss.getD i default) (nq f) (fn_ (vals ss (nq f))) : Nat) : Int))).map ic), .v (.int .i64 0)] := by
 unfold dbO
 rw [if_pos h, gP hm, show kd (tab ss.length (fun i : Nat => ((bsK (ss.getD i default) (nq f) (fn_ (vals ss (nq f))) : Nat) : Int))).length = 1 by unfold kd; rw [if_neg (by rw [eO]; omega)]]
end Go.Ab
namespace Go.Ab
open Go.RowKit
theorem outs_all {v : List Rat} {o : List NM} (h : v.mapM outN = some o) : o.map nq = v ∧ ∀ a, a ∈ o → VN a := by
 induction v generalizing o with
 | nil => cases h; exact ⟨rfl, by simp⟩
 | cons x v ih =>
  rw [List.mapM_cons] at h
  cases h1 : outN x with
  | none => rw [h1] at h; cases h
  | some a =>
   cases h2 : v.mapM outN with
   | none => rw [h1, h2] at h; cases h
   | some u =>
    rw [h1, h2] at h; cases h
    obtain ⟨h3, h4⟩ := ih h2
    obtain ⟨h5, h6⟩ := pL h1
    exact ⟨by rw [List.map_cons, h3, h6], fun b hb => by rcases List.mem_cons.1 hb with rfl | hb; exact h5; exact h4 b hb⟩
end Go.Ab
namespace Go.Ab
open Go.RowKit
theorem mc_inj {a b : NM} (h : mc a = mc b) : a = b := by
 unfold mc at h
 injection h with h1 h2
 injection h2 with h3 _
 injection h1 with h1
 injection h3 with h3
 injection h1 with _ h1
 injection h3 with _ h3
 exact Prod.ext h1 h3
theorem ic_inj {a b : Int} (h : ic a = ic b) : a = b := by
 unfold ic at h
 injection h with h1 _
 injection h1 with h1
 injection h1 with _ h1
theorem map_inj {α β : Type} {f : α → β} (hf : ∀ a b, f a = f b → a = b) : ∀ {l m : List α}, l.map f = m.map f → l = m
 | [], [], _ => rfl
 | [], b :: m, h => by cases h
 | a :: l, [], h => by cases h
 | a :: l, b :: m, h => by
  rw [List.map_cons, List.map_cons] at h
  injection h with h1 h2
  rw [hf a b h1, map_inj hf h2]
theorem oS {R R' : List NM} {S S' : List Int} {E E' : Int} (h : LV.tup [.sl (kd R.length) (R.map mc), .sl (kd S.length) (S.map ic), .v (.int .i64 E)] = .tup [.sl (kd R'.length) (R'.map mc), .sl (kd S'.length) (S'.map ic), .v (.int .i64 E')]) : R = R' ∧ S = S' ∧ E = E' := by
 injection h with h
 injection h with h1 h
 injection h with h2 h
 injection h with h3 _
 injection h1 with _ h1
 injection h2 with _ h2
 injection h3 with h3
 injection h3 with _ h3
 exact ⟨map_inj (fun a b => mc_inj) h1, map_inj (fun a b => ic_inj) h2, h3⟩
open Go.RowKit
section
variable {ss : List ST} {d : Rat} (h : DM ss d) {v : List Rat} (hv : Val ss d (fn_ v)) {st : List Int} (hst : vSt ss st = true)
include h hv hst
end
end Go.Ab
namespace Go.Ab
open Go.RowKit
theorem dbO_zero {ss : List ST} {f : NM} {R : List NM} {S : List Int} {E : Int} (hB : dbO ss f = .tup [.sl (kd R.length) (R.map mc), .sl (kd S.length) (S.map ic), .v (.int .i64 E)]) (hE : E = 0) (hp : VMo ss = true → 1 ≤ ss.length) : eD ss f [] = 0 ∧ ∃ o, (vals ss (nq f)).mapM outN = some o := by
 by_cases h : eD ss f [] = 0
 ·refine ⟨h, ?_⟩
  cases hm : (vals ss (nq f)).mapM outN with
  | some o => exact ⟨o, rfl⟩
  | none => exact absurd (oS (R' := []) (S' := []) (hB.symm.trans (dbO_2 h hm))).2.2 om
 ·exact absurd (oS (R' := []) (S' := []) (hB.symm.trans (dbO_1 h))).2.2 om
end Go.Ab
namespace Go.Ab
open Go.RowKit
end Go.Ab
namespace Go.Ab
open Go.RowKit
end Go.Ab
namespace Go.Ab
open Go.RowKit
section
variable {n : Nat} {r : Int} {f : NM} (hd : 0 < nq f ∧ nq f < 1)
include hd
end
theorem wrap_u8 {b : Int} (h : 0 ≤ b ∧ b ≤ 255) : IntKind.i64.wrap b = b := by
 have h1 : -9223372036854775808 ≤ b ∧ b ≤ 9223372036854775807 := by omega
 unfold IntKind.wrap
 simp [IntKind.bits, IntKind.signed]
 omega
end Go.Ab
namespace Go.Ab
open Go.RowKit
section
variable {P : Program} {T : TT} {E : TypeId → Bool} {N : Nat} {oa : Array Oper} {i b : Nat} {e : Env} {h : Hp} {Q : Env → Hp → Nat → Prop}
def Both (n : Nat) (h h' hh : Hp) : Prop := ∀ q o, getH hh q = some o → (q < n ∧ getH h q = some o) ∨ (n ≤ q ∧ getH h' q = some o)
theorem Both.cons {n : Nat} {h h' hh : Hp} {q : Nat} {o : Ob} (k : (q < n ∧ getH h q = some o) ∨ (n ≤ q ∧ getH h' q = some o)) (hb : Both n h h' hh) : Both n h h' ((q, o) :: hh) := fun r x hr => by
 simp only [getH] at hr
 split at hr
 ·rename_i hq; have := Nat.eq_of_beq_eq_true hq; subst this; cases hr; exact k
 ·exact hb r x hr
theorem Both.old {n : Nat} {h h' : Hp} (hl : ∀ q o, getH h q = some o → q < n) : Both n h h' h := fun q o hq => .inl ⟨hl q o hq, hq⟩
theorem Both.nil {n : Nat} {h h' : Hp} : Both n h h' [] := fun q o hq => by simp [getH] at hq
theorem WN.F {cal : Operand} {fn : Func} {f : FuncId} {c : Code} {args : Array Operand} {at_ : Array TypeId} {t : TypeId} {pos : String} {af : Array Edge} {l : List Oper} {dst : Tmp} {first cap ls as_ : List LV} {n : Nat} {Φ : LV → Hp → Nat → Prop} (d : Delta) (hv : evE e cal = some (.fn (.func f) first cap)) (ha : argsE e args.toList = some ls)
  (hs : SnapA h d (first ++ ls ++ cap) as_) (hz : ∀ p, p ∈ d → ∃ o, getH h p.1 = some o ∧ o.st ≠ 2 ∧ p.2 = { o with st := 1 }) (hf : P.funcs[f]? = some fn) (hb : fn.body = some c) (hn : (fn.name == "runtime.NumGoroutine") = false) (hl : as_.length ≤ fn.ntmps) (hd : Nat.blt dst N = true)
  (k : WC P T E fn.ntmps c (argsEnv 0 as_) [] n (fun x e' h' n' => (x = .normal ∨ x = .ret) ∧ ∃ ls', resE e' T h' fn.results.toList = some ls' ∧ Φ (resultLV ls') h' n'))
  (kk : ∀ r h' n', Φ r h' n' → ∃ hh, Both n (appH d h) h' hh ∧ WN P T E N oa l (i + 1) b ((dst, r) :: e) hh n' Q) :
  WN P T E N oa (⟨some dst, .call { callee := .value cal, args := args, argTypes := at_ }, t, pos, af, none⟩ :: l) i b e h n Q := by
 intro hdr s m hs' hm
 obtain ⟨hi, hl'⟩ := eZ hdr
 obtain ⟨x, s', h1, e', h', h2, h3, hx, ls', hr, hΦ⟩ := k (frame fn as_) (fun _ => none) ⟨by simp [frame]; omega, fun t l ht => by
  obtain ⟨_, k⟩ := fF as_ 0 t l ht
  simp only [Nat.sub_zero] at k
  unfold frame
  rw [List.getElem?_append_left (List.getElem?_eq_some_iff.1 k).1]; exact k⟩ (fun k o hk => by simp [getH] at hk)
 have hg : Run P T E (.gcall f as_ (fun _ => none) n (resultLV ls') s'.m s'.n) := .gcall f fn c as_ _ n x s' ls' hf hb hn hl h1 hx (fO h2 h3 hr)
 obtain ⟨hh, hbo, hk⟩ := kk _ h' s'.n hΦ
 have hm2 := hm.app d
 obtain ⟨rs, s2, k1, k2⟩ := hk hl' _ (mix n (app d m) s'.m) (hs'.put hd (resultLV ls')) (fun q o hq => by
  rcases hbo q o hq with ⟨q1, q2⟩ | ⟨q1, q2⟩
  ·rw [iG q1]; exact hm2 q o q2
  ·rw [iF om]; exact h3 q o q2)
 refine ⟨⟨i, [], [], true⟩ :: rs, s2, ?_, k2⟩
 rw [List.length_cons, List.range'_succ]
 refine .gdid oa i _ b ⟨s, m, n⟩ s2 rs _ _ cal f first cap (resultLV ls') (mix n (app d m) s'.m) s'.n (by simpa using hi) rfl rfl rfl (dM hs' hv) ?_ k1
 rw [dZ (fun x l hx => dM hs' hx) ha]
 exact .frame f _ as_ m s'.m n s'.n _ d (hs.snap hm) (fun p hp => by obtain ⟨o, k1, k2, k3⟩ := hz p hp; exact ⟨o, hm _ _ k1, k2, k3⟩) hg
end
def famH (a : Nat → Nat) (o : Nat → Option Ob) (h : Hp) : Nat → Hp
 | 0 => h
 | n + 1 => match o n with
  | some x => (a n, x) :: famH a o h n
  | none => famH a o h n
theorem aO {a : Nat → Nat} {o : Nat → Option Ob} {h : Hp} {q : Nat} : ∀ n, (∀ i, i < n → a i ≠ q) → getH (famH a o h n) q = getH h q
 | 0, _ => rfl
 | n + 1, hq => by
  have ih := aO (a := a) (o := o) (h := h) (q := q) n fun i hi => hq i om
  unfold famH
  split
  ·have : Nat.beq (a n) q = false := by
    cases hb : Nat.beq (a n) q with
    | false => rfl
    | true => exact absurd (Nat.eq_of_beq_eq_true hb) (hq n om)
   simp only [getH, this]; exact ih
  ·exact ih
theorem dV {a : Nat → Nat} {o : Nat → Option Ob} {h : Hp} {x : Ob} : ∀ n {i}, i < n → o i = some x → (∀ j, j < n → a j = a i → j = i) → getH (famH a o h n) (a i) = some x
 | 0, i, hi, _, _ => absurd hi om
 | n + 1, i, hi, hx, ha => by
  by_cases e : i = n
  ·subst e
   unfold famH
   rw [hx]
   exact g0
  ·have ih := dV (a := a) (o := o) (h := h) (x := x) n (i := i) om hx fun j hj => ha j om
   unfold famH
   split
   ·exact g1 (fun h => e (ha n om h).symm) ih
   ·exact ih
theorem famH_congr {a a' : Nat → Nat} {o o' : Nat → Option Ob} {h : Hp} : ∀ n, (∀ i, i < n → a i = a' i ∧ o i = o' i) → famH a o h n = famH a' o' h n
 | 0, _ => rfl
 | n + 1, he => by
  have h1 := he n om
  have ih := famH_congr (h := h) n fun i hi => he i om
  unfold famH
  rw [h1.1, h1.2, ih]
theorem dS {a : Nat → Nat} {o : Nat → Option Ob} {h H : Hp} : ∀ n, (∀ i, i < n → ∀ x, o i = some x → getH H (a i) = some x) → subsM h H → subsM (famH a o h n) H
 | 0, _, hs => hs
 | n + 1, hg, hs => by
  have ih := dS (a := a) (o := o) (h := h) (H := H) n (fun i hi => hg i om) hs
  unfold famH
  split
  ·rename_i x hx; exact ⟨hg n om x hx, ih⟩
  ·exact ih
theorem Both.fam {n : Nat} {h h' hh : Hp} {a : Nat → Nat} {o : Nat → Option Ob} : ∀ m, (∀ t, t < m → n ≤ a t ∧ ∀ x, o t = some x → getH h' (a t) = some x) → Both n h h' hh → Both n h h' (famH a o hh m)
 | 0, _, hb => hb
 | m + 1, hg, hb => by
  have ih := Both.fam (a := a) (o := o) m (fun t ht => hg t om) hb
  unfold famH
  split
  ·rename_i x hx; exact .cons (.inr ⟨(hg m om).1, (hg m om).2 x hx⟩) ih
  ·exact ih
end Go.Ab
namespace Go.Ab
open Go.RowKit
theorem flat_at {α : Type} [Inhabited α] {f : α → List LV} {sz : Nat} (hf : ∀ a, (f a).length = sz) {us : List α} {i j : Nat} (hi : i < us.length) (hj : j < sz) : (us.map f).flatten[i * sz + j]? = (f (us.getD i default))[j]? := by
 rw [← List.getElem?_drop, iP hf us i hi, List.getElem?_append_left (by rw [hf]; exact hj)]
theorem snapRowsG {α : Type} [Inhabited α] {f g : α → List LV} {sz st q : Nat} {el : TypeId} {us : List α} {m : Mem} {S : Nat → Prop} (hst : st ≠ 2) (h0 : 0 < sz) (hf : ∀ a, (f a).length = sz) (hg : ∀ a, (g a).length = sz)
  (hone : ∀ a (i : Nat) c d, (f a)[i]? = some c → (g a)[i]? = some d → d.one = c.one) (hsn : ∀ a, a ∈ us → ∀ (i : Nat) c d, (f a)[i]? = some c → (g a)[i]? = some d → Snap m S c d)
  (hq : m q = some { cells := (us.map f).flatten, sz := sz, elem := el, st := st }) (hS : S q) : Snap m S (.ref q sz 0 us.length) (.sl 1 (us.map g)) := by
 have hl : (us.map f).flatten.length = us.length * sz := by
  rw [eB (sz := sz) (fun row hrow => by obtain ⟨a, _, rfl⟩ := List.mem_map.1 hrow; exact hf a)]; simp
 have get : ∀ (i : Nat) (t : List LV), (us.map g)[i]? = some t → i < us.length ∧ t = g (us.getD i default) := fun i t ht => by
  rw [List.getElem?_map] at ht
  cases hu : us[i]? with
  | none => rw [hu] at ht; cases ht
  | some a =>
   rw [hu] at ht; cases ht
   exact ⟨(List.getElem?_eq_some_iff.1 hu).1, by rw [List.getD_eq_getElem?_getD, hu]; rfl⟩
 refine .ref q sz 0 _ _ _ hq hS hst rfl h0 (by rw [Nat.zero_add, hl]; exact Nat.le_refl _) (by rw [List.length_map]) ?_ ?_ ?_
 ·intro i t ht
  obtain ⟨_, rfl⟩ := get i t ht
  exact hg _
 ·intro i j t c d ht hj hc
  obtain ⟨hi, rfl⟩ := get i t ht
  have hjs : j < sz := by have := (List.getElem?_eq_some_iff.1 hj).1; rwa [hg] at this
  rw [Nat.zero_add, flat_at hf hi hjs] at hc
  exact hone _ j c d hc hj
 ·intro i j t c d ht hj hc
  obtain ⟨hi, rfl⟩ := get i t ht
  have hjs : j < sz := by have := (List.getElem?_eq_some_iff.1 hj).1; rwa [hg] at this
  rw [Nat.zero_add, flat_at hf hi hjs] at hc
  exact hsn _ (bG hi) j c d hc hj
def srw (p : ST × Nat) : List LV := [.v (.int .i64 p.1.1.1), .v (.int .i64 p.1.1.2), .ref p.2 3 0 p.1.2.2.length]
def k1s (x : ST) : ST := (x.1, (1, x.2.2))
theorem rJ (p : ST × Nat) : (srw p).length = 3 := rfl
def obC (el : TypeId) (st : Nat) (cs : List CH) : Ob := { cells := (cs.map chc).flatten, sz := 3, elem := el, st := st }
theorem snapSt {m : Mem} {S : Nat → Prop} {q : Nat} {el el2 : TypeId} {us : List (ST × Nat)} (hq : m q = some { cells := (us.map srw).flatten, sz := 3, elem := el, st := 0 }) (hS : S q) (h : ∀ p, p ∈ us → m p.2 = some (obC el2 0 p.1.2.2) ∧ S p.2) :
  Snap m S (.ref q 3 0 us.length) (.sl 1 (us.map fun p => stc (k1s p.1))) :=
 snapRowsG (f := srw) (g := fun p => stc (k1s p.1)) (by decide) (by decide) rJ (fun _ => rfl) (fun a i c d hc hd => by
  match i with
  | 0 => simp [srw] at hc; simp [stc] at hd; subst hc; subst hd; rfl
  | 1 => simp [srw] at hc; simp [stc] at hd; subst hc; subst hd; rfl
  | 2 => simp [srw] at hc; simp [stc] at hd; subst hc; subst hd; rfl
  | i + 3 => simp [srw] at hc) (fun p hp i c d hc hd => by
  match i with
  | 0 => simp [srw] at hc; simp [stc] at hd; subst hc; subst hd; exact .data _ (.v _)
  | 1 => simp [srw] at hc; simp [stc] at hd; subst hc; subst hd; exact .data _ (.v _)
  | 2 =>
   simp [srw] at hc; simp [stc, k1s] at hd; subst hc; subst hd
   obtain ⟨h1, h2⟩ := h p hp
   exact snapRowsG (f := chc) (g := chc) (by decide) (by decide) (fun _ => rfl) (fun _ => rfl) (fun a i c d h1 h2 => by rw [h1] at h2; cases h2; rfl) (fun a _ i c d h1 h2 => by rw [h1] at h2; cases h2; exact .data _ (dchc1 a _ (List.mem_of_getElem? h1))) h1 h2
  | i + 3 => simp [srw] at hc) hq hS
def dModel (q : Nat) (el el2 : TypeId) (us : List (ST × Nat)) : Delta := (q, { cells := (us.map srw).flatten, sz := 3, elem := el, st := 1 }) :: us.map fun p => (p.2, obC el2 1 p.1.2.2)
theorem dModel_key {q : Nat} {el el2 : TypeId} {us : List (ST × Nat)} {p : ST × Nat} (hp : p ∈ us) : p.2 ∈ keys (dModel q el el2 us) := by
 unfold dModel keys
 rw [List.map_cons, List.map_map]
 exact List.mem_cons_of_mem _ (List.mem_map.2 ⟨p, hp, rfl⟩)
theorem SnapA.model {h : Hp} {q : Nat} {el el2 : TypeId} {us : List (ST × Nat)} {ls ls' : List LV} (hq : getH h q = some { cells := (us.map srw).flatten, sz := 3, elem := el, st := 0 }) (hu : ∀ p, p ∈ us → getH h p.2 = some (obC el2 0 p.1.2.2)) (k : SnapA h (dModel q el el2 us) ls ls') :
  SnapA h (dModel q el el2 us) (.agg [.ref q 3 0 us.length] :: ls) (lvMo 1 (us.map fun p => k1s p.1) :: ls') := .cons (fun m hm => by
 have hs := snapSt (m := m) (S := (· ∈ keys (dModel q el el2 us))) (hm _ _ hq) (by unfold dModel keys; simp) fun p hp => ⟨hm _ _ (hu p hp), dModel_key hp⟩
 refine .agg _ _ rfl (fun i c d hc hd => ?_) (fun i c d hc hd => ?_)
 ·match i with
  | 0 => simp at hc hd; subst hc; subst hd; rfl
  | i + 1 => simp at hc
 ·match i with
  | 0 => simp at hc hd; subst hc; subst hd; rw [Function.comp_def] ; exact hs
  | i + 1 => simp at hc) k
theorem dModel_ok {h : Hp} {q : Nat} {el el2 : TypeId} {us : List (ST × Nat)} (hq : getH h q = some { cells := (us.map srw).flatten, sz := 3, elem := el, st := 0 }) (hu : ∀ p, p ∈ us → getH h p.2 = some (obC el2 0 p.1.2.2)) : ∀ p, p ∈ dModel q el el2 us → ∃ o, getH h p.1 = some o ∧ o.st ≠ 2 ∧ p.2 = { o with st := 1 } := fun p hp => by
 rcases List.mem_cons.1 hp with rfl | hp
 ·exact ⟨_, hq, by show (0 : Nat) ≠ 2; decide, rfl⟩
 ·obtain ⟨x, hx, rfl⟩ := List.mem_map.1 hp
  exact ⟨_, hu x hx, by show (0 : Nat) ≠ 2; decide, rfl⟩
theorem rP : ∀ {d : Delta} {h : Hp} {k : Nat}, (∀ p, p ∈ d → p.1 ≠ k) → getH (appH d h) k = getH h k
 | [], _, _, _ => rfl
 | p :: d, h, k, hk => by
  show getH (appH d (p :: h)) k = _
  rw [rP fun q hq => hk q (by simp [hq])]
  have : Nat.beq p.1 k = false := by
   cases hb : Nat.beq p.1 k with
   | false => rfl
   | true => exact absurd (Nat.eq_of_beq_eq_true hb) (hk p (by simp))
  obtain ⟨a, b⟩ := p
  simp only [getH, this]
theorem kL {q k : Nat} {el el2 : TypeId} {us : List (ST × Nat)} {h : Hp} (hq : q ≠ k) (hu : ∀ p, p ∈ us → p.2 ≠ k) : getH (appH (dModel q el el2 us) h) k = getH h k := rP fun p hp => by
 rcases List.mem_cons.1 hp with rfl | hp
 ·exact hq
 ·obtain ⟨x, hx, rfl⟩ := List.mem_map.1 hp
  exact hu x hx
section
variable {P : Program} {T : TT} {E : TypeId → Bool} {N : Nat} {e : Env} {h : Hp}
variable {dst : Option Tmp} {ty : TypeId} {pos : String} {af : Array Edge} {g : Option (Nat × Bool)} {id : Nat} {x y : Operand} {bt : TypeId} {ti : TI}
theorem oLdC0 {us : List CH} {r j : Nat} {el : TypeId} (hx : evE e x = some (.ptr r ((0 + j) * 3 + 0))) (hE : T bt = some ti) (hr : getH h r = some (obC el 0 us)) (ha : ti.agg = true) (hz : ti.size = 2) (hj : j < us.length) :
  OP P T E ⟨dst, .load bt x, ty, pos, af, g⟩ id e h (lvM (us.getD j default).1) [] [r] := aM hx hE hr rfl (by
 show loadLV ti ((us.map chc).flatten.drop _) = _
 rw [Nat.zero_add, Nat.add_zero, iP (f := chc) (sz := 3) (fun _ => rfl) us j hj]
 unfold loadLV
 rw [if_pos ha, hz, if_pos (by rw [List.length_append]; show 2 ≤ 3 + _; omega)]
 rfl)
theorem put_c0 {us : List CH} {j : Nat} (v : NM) (hj : j < us.length) : putCells (us.map chc).flatten (j * 3) (mc v) = some ((us.set j (v, (us.getD j default).2)).map chc).flatten := by
 have h1 := put_flat (f := chc) (sz := 3) (fun _ => rfl) us j (v, (us.getD j default).2) hj
 have h2 := iP (f := chc) (sz := 3) (fun _ => rfl) us j hj
 rw [← h1]
 have hlen : (us.map chc).flatten.length = us.length * 3 := by
  rw [eB (sz := 3) (fun row hrow => by obtain ⟨a, _, rfl⟩ := List.mem_map.1 hrow; rfl)]; simp
 have e1 : (us.map chc).flatten.drop (j * 3 + 2) = .sl (us.getD j default).2.1 ((us.getD j default).2.2.map brc) :: (us.map chc).flatten.drop (j * 3 + 3) := by
  rw [← List.drop_drop, ← List.drop_drop, h2]
  rfl
 unfold putCells
 rw [if_pos (by rw [hlen]; show j * 3 + 2 ≤ _; omega), if_pos (by rw [hlen]; show j * 3 + 3 ≤ _; omega)]
 show some (_ ++ ([LV.v (.int .i64 v.1), .v (.int .i64 v.2)] ++ (us.map chc).flatten.drop (j * 3 + 2))) = some (_ ++ ([LV.v (.int .i64 v.1), .v (.int .i64 v.2), .sl (us.getD j default).2.1 ((us.getD j default).2.2.map brc)] ++ (us.map chc).flatten.drop (j * 3 + 3)))
 rw [e1]; rfl
theorem oStC0 {us : List CH} {r j : Nat} {v : NM} {el : TypeId} (hx : evE e x = some (.ptr r ((0 + j) * 3 + 0))) (hy : evE e y = some (lvM v)) (hE : T bt = some ti) (hr : getH h r = some (obC el 0 us)) (hz : 2 = ti.size) (hj : j < us.length) :
  OP P T E ⟨dst, .store bt x y, ty, pos, af, g⟩ id e h (.v undef) [(r, obC el 0 (us.set j (v, (us.getD j default).2)))] [r] := cB hx hy hE hr rfl rfl hz (by rw [Nat.zero_add, Nat.add_zero]; exact put_c0 v hj)
theorem oLdSt {us : List (ST × Nat)} {r j : Nat} {el : TypeId} (hx : evE e x = some (.ptr r ((0 + j) * 3))) (hE : T bt = some ti) (hr : getH h r = some { cells := (us.map srw).flatten, sz := 3, elem := el, st := 0 }) (ha : ti.agg = true) (hz : 3 = ti.size) (hj : j < us.length) :
  OP P T E ⟨dst, .load bt x, ty, pos, af, g⟩ id e h (.agg (srw (us.getD j default))) [] [r] := eL (f := srw) hx hE hr rJ hz om hj (by unfold loadLV; rw [if_pos ha, ← hz, if_pos (by rw [rJ]; exact Nat.le_refl _)]; rfl)
theorem resE_cell {r : Nat} {ob : Ob} {l : LV} {u v : Nat} (he : e.get u = some (.ptr r 0)) (hT : T v = some ti) (hr : getH h r = some ob) (h2 : Nat.beq ob.st 2 = false) (hl : loadLV ti ob.cells = some l) : resE e T h [.cell u v] = some [l] := by
 have h3 := Nat.ne_of_beq_eq_false h2
 simp [resE, he, hT, cellsH, hr, h3, hl]
end
def linR (k c : Rat) (r : NM) : NM := (outN (nq r * k + c)).getD (0, 0)
def linC (k c : Rat) (x : CH) : CH := (linR k c x.1, x.2)
def kc1 (x : CH) : CH := (x.1, (1, x.2.2))
def linS (k c : Rat) (x : ST) : ST := (x.1, (1, x.2.2.map fun y => linC k c (kc1 y)))
def linOk (k c : Rat) (x : ST) : Prop := ∀ y, y ∈ x.2.2 → (outN (nq y.1 * k + c)).isSome = true
theorem linR_q {k c : Rat} {r : NM} (h : (outN (nq r * k + c)).isSome = true) : nq (linR k c r) = nq r * k + c := by
 unfold linR
 cases h1 : outN (nq r * k + c) with
 | none => rw [h1] at h; cases h
 | some y => exact (pL h1).2
theorem mnF_lin (bs : List BR) (v : Nat → Rat) (k a : Rat) : ∀ n, mnF bs (fun i => v i * k + a) n = mnF bs v n * k + a * psum bs n
 | 0 => by show (0 : Rat) = 0 * k + a * 0; grind
 | n + 1 => by
  have ih := mnF_lin bs v k a n
  show mnF bs (fun i => v i * k + a) n + nq (bs.getD n default).2 * (v (bs.getD n default).1.toNat * k + a) = (mnF bs v n + nq (bs.getD n default).2 * v (bs.getD n default).1.toNat) * k + a * (psum bs n + nq (bs.getD n default).2)
  rw [ih]; grind
theorem lin_vals {ss : List ST} {d k c : Rat} (hD : DM ss d) (hD' : DM (ss.map (linS k c)) d) (hk : 0 < k) (hok : ∀ x, x ∈ ss → linOk k c x) {v : List Rat} (hl : v.length = ss.length) (hv : Val ss d (fn_ v)) : vals (ss.map (linS k c)) d = v.map fun x => x * k + c / (1 - d) := by
 refine oT hD' (by rw [List.length_map, List.length_map, hl]) ?_
 intro i hi
 rw [List.length_map] at hi
 have hd : 1 - d ≠ 0 := by have := hD.d1; intro h; grind
 have hfn : ∀ j, j < ss.length → fn_ (v.map fun x => x * k + c / (1 - d)) j = fn_ v j * k + c / (1 - d) := fun j hj => by
  unfold fn_
  rw [List.getD_eq_getElem?_getD, List.getElem?_map, List.getElem?_eq_getElem om, List.getD_eq_getElem?_getD, List.getElem?_eq_getElem om]; rfl
 have hx : (ss.map (linS k c)).getD i default = linS k c (ss.getD i default) := by
  rw [List.getD_eq_getElem?_getD, List.getElem?_map, List.getElem?_eq_getElem hi, List.getD_eq_getElem?_getD, List.getElem?_eq_getElem hi]; rfl
 have hlen : (linS k c (ss.getD i default)).2.2.length = (ss.getD i default).2.2.length := by show (List.map _ _).length = _; rw [List.length_map]
 have hy : ∀ j, j < (ss.getD i default).2.2.length → yl d (ch (ss.map (linS k c)) i j) (fn_ (v.map fun x => x * k + c / (1 - d))) = yl d (ch ss i j) (fn_ v) * k + c / (1 - d) := fun j hj => by
  have hch : ch (ss.map (linS k c)) i j = linC k c (kc1 (ch ss i j)) := by
   show ((ss.map (linS k c)).getD i default).2.2.getD j default = _
   rw [hx]
   show (List.map _ _).getD j default = _
   exact mapD (f := fun y => linC k c (kc1 y)) hj
  have hwb := ch_wb hD hi hj
  rw [hch]
  unfold yl mn
  show nq (linR k c (ch ss i j).1) + d * mnF (ch ss i j).2.2 _ (ch ss i j).2.2.length = _
  rw [linR_q (hok _ (bG hi) _ (bG hj)), pG hwb hfn _ (Nat.le_refl _), mnF_lin, hwb.sum]
  grind
 refine ⟨?_, ?_⟩
 ·obtain ⟨j, hj, he⟩ := (hv i hi).1
  refine ⟨j, by rw [hx, hlen]; exact hj, ?_⟩
  rw [hy j hj, hfn i hi, he]
 ·intro j hj
  rw [hx, hlen] at hj
  have h2 := (hv i hi).2 j hj
  rw [hx, hy j hj, hfn i hi]
  show if (ss.getD i default).1.1 = 1 then _ else _
  by_cases ho : (ss.getD i default).1.1 = 1
  ·rw [if_pos ho] at h2 ⊢
   have := Rat.mul_le_mul_of_nonneg_right h2 (Rat.le_of_lt hk)
   grind
  ·rw [if_neg ho] at h2 ⊢
   have := Rat.mul_le_mul_of_nonneg_right h2 (Rat.le_of_lt hk)
   grind
theorem drop_mapc {α β : Type} [Inhabited α] {f : α → β} {l : List α} {j : Nat} (hj : j < l.length) : (l.map f).drop j = f (l.getD j default) :: (l.map f).drop (j + 1) := by
 rw [List.drop_eq_getElem_cons (by rw [List.length_map]; exact hj), List.getElem_map, List.getD_eq_getElem?_getD, List.getElem?_eq_getElem hj]; rfl
theorem take_mapc {α β : Type} [Inhabited α] {f : α → β} {l : List α} {j : Nat} (hj : j < l.length) : (l.map f).take (j + 1) = (l.map f).take j ++ [f (l.getD j default)] := by
 rw [List.take_add_one, List.getElem?_map, List.getElem?_eq_getElem hj, List.getD_eq_getElem?_getD, List.getElem?_eq_getElem hj]; rfl
def MX (k c : Rat) (ss : List ST) (i j t : Nat) : List CH := if t < i then ((ss.getD t default).2.2.map kc1).map (linC k c) else if t = i then (((ss.getD t default).2.2.map kc1).take j).map (linC k c) ++ ((ss.getD t default).2.2.map kc1).drop j else (ss.getD t default).2.2.map kc1
theorem MX_ne {k c : Rat} {ss : List ST} {i j j' t : Nat} (h : t ≠ i) : MX k c ss i j t = MX k c ss i j' t := by
 unfold MX; rw [if_neg h, if_neg h]
theorem MX_end {k c : Rat} {ss : List ST} {i t : Nat} : MX k c ss i (ss.getD i default).2.2.length t = MX k c ss (i + 1) 0 t := by
 unfold MX
 by_cases h1 : t < i
 ·rw [if_pos h1, if_pos om]
 ·rw [if_neg h1]
  by_cases h2 : t = i
  ·subst h2
   rw [if_pos rfl, if_pos om, List.take_of_length_le (by rw [List.length_map]; exact Nat.le_refl _), List.drop_eq_nil_of_le (by rw [List.length_map]; exact Nat.le_refl _), List.append_nil]
  ·rw [if_neg h2, if_neg om]
   by_cases h3 : t = i + 1
   ·rw [if_pos h3]; rfl
   ·rw [if_neg h3]
theorem MX_len {k c : Rat} {ss : List ST} {i j t : Nat} : (MX k c ss i j t).length = (ss.getD t default).2.2.length := by
 unfold MX
 split
 ·rw [List.length_map, List.length_map]
 ·split
  ·rw [List.length_append, List.length_map, List.length_take, List.length_drop, List.length_map]; omega
  ·rw [List.length_map]
theorem MX_get {k c : Rat} {ss : List ST} {i j : Nat} (hj : j < (ss.getD i default).2.2.length) : (MX k c ss i j i).getD j default = kc1 ((ss.getD i default).2.2.getD j default) := by
 unfold MX
 rw [if_neg om, if_pos rfl, List.getD_eq_getElem?_getD, List.getElem?_append_right (by rw [List.length_map, List.length_take]; omega), List.length_map, List.length_take, List.length_map, Nat.min_eq_left om, Nat.sub_self, List.getElem?_drop, Nat.add_zero, ← List.getD_eq_getElem?_getD]
 exact mapD (f := kc1) hj
theorem MX_set {k c : Rat} {ss : List ST} {i j : Nat} (hj : j < (ss.getD i default).2.2.length) : (MX k c ss i j i).set j (linR k c ((ss.getD i default).2.2.getD j default).1, ((MX k c ss i j i).getD j default).2) = MX k c ss i (j + 1) i := by
 rw [MX_get hj]
 unfold MX
 rw [if_neg om, if_pos rfl, if_neg om, if_pos rfl]
 have hl : (((ss.getD i default).2.2.map kc1).take j).length = j := by rw [List.length_take, List.length_map]; omega
 rw [List.set_append_right _ _ (by rw [List.length_map, hl]; exact Nat.le_refl _), List.length_map, hl, Nat.sub_self]
 rw [drop_mapc hj, take_mapc hj, List.map_append, List.append_assoc]; rfl
theorem linR_i64 {k c : Rat} {r : NM} : I64 (linR k c r).1 ∧ I64 (linR k c r).2 := by
 unfold linR
 cases h : outN (nq r * k + c) with
 | none => exact ⟨by show I64 0; unfold I64; omega, by show I64 0; unfold I64; omega⟩
 | some y => have := (pL h).1.all3; exact ⟨this.1, this.2.1⟩
theorem linS_is {k c : Rat} {ss : List ST} (h : ∀ s, s ∈ ss → IS s) : ∀ s, s ∈ ss.map (linS k c) → IS s := fun s hs => by
 obtain ⟨x, hx, rfl⟩ := List.mem_map.1 hs
 obtain ⟨h1, h2, h3⟩ := h x hx
 refine ⟨h1, h2, fun y hy => ?_⟩
 obtain ⟨z, hz, rfl⟩ := List.mem_map.1 hy
 exact ⟨linR_i64.1, linR_i64.2, (h3 z hz).2.2⟩
def USX (k c : Rat) (ss : List ST) (a : Nat → Nat) (i j : Nat) : List (ST × Nat) := tab ss.length fun t => (((ss.getD t default).1, ((ss.getD t default).2.1, MX k c ss i j t)), a t)
theorem USX_srw {k c : Rat} {ss : List ST} {a : Nat → Nat} {i j : Nat} : (USX k c ss a i j).map srw = (tab ss.length fun t => (ss.getD t default, a t)).map srw := by
 unfold USX tab
 rw [List.map_map, List.map_map]
 refine List.map_congr_left fun t ht => ?_
 show [LV.v _, LV.v _, LV.ref (a t) 3 0 (MX k c ss i j t).length] = [LV.v _, LV.v _, LV.ref (a t) 3 0 _]
 rw [MX_len]
theorem USX_end {k c : Rat} {ss : List ST} {a : Nat → Nat} : ((USX k c ss a ss.length 0).map fun p => k1s p.1) = ss.map (linS k c) := by
 unfold USX tab
 rw [List.map_map]
 refine jW (by simp) fun t ht => ?_
 have ht : t < ss.length := by simpa using ht
 rw [mapD (f := linS k c) ht, List.getD_eq_getElem?_getD, List.getElem?_map, List.getElem?_range ht]
 show ((ss.getD t default).1, (1, MX k c ss ss.length 0 t)) = ((ss.getD t default).1, (1, _))
 unfold MX
 rw [if_pos ht, List.map_map]; rfl
theorem lin_num {R R' : List NM} {v w : List Rat} {k A : Rat} {i : Nat} (h1 : R.map nq = v) (h2 : R'.map nq = w) (hw : w = v.map fun x => x * k + A) (hi : i < R.length) : (nq (R.getD i default) * k + A - nq (R'.getD i default)).num.sign = 0 := by
 have e : nq (R'.getD i default) = nq (R.getD i default) * k + A := by
  have hl : R'.length = R.length := by have := congrArg List.length (h2.trans hw); rw [← h1] at this; simpa using this
  have := mapD (f := nq) (us := R') (i := i) om
  rw [← this, h2, hw, ← h1, List.map_map]
  exact mapD (f := fun y => nq y * k + A) hi
 rw [e, Rat.sub_self]; rfl
end Go.Ab
set_option maxRecDepth 100000
namespace Go.Proofs.YtahljdjhhapngaaGreat
open Go.Ab Go.RowKit
def ti1 : TI := ⟨1, 8, [.nilFunc], .func⟩
def ti2 : TI := ⟨1, 8, [.int .i64 0], (.int .i64)⟩
def ti3 : TI := ⟨1, 8, [.int .i64 0], (.int .i64)⟩
def ti4 : TI := ⟨1, 1, [.bool false], .bool⟩
def ti5 : TI := ⟨1, 1, [.int .u8 0], (.int .u8)⟩
def ti6 : TI := ⟨1, 1, [.int .u8 0], (.int .u8)⟩
def ti7 : TI := ⟨4, 24, [.int .i64 0, .int .i64 0, .bool false, .int .u8 0], (.st [(0, 2), (1, 3), (2, 4), (3, 6)])⟩
def ti8 : TI := ⟨4, 24, [.int .i64 0, .int .i64 0, .bool false, .int .u8 0], (.st [(0, 2), (1, 3), (2, 4), (3, 6)])⟩
def ti9 : TI := ⟨1, 16, [.string ⟨#[]⟩], .str⟩
def ti10 : TI := ⟨1, 16, [.string ⟨#[]⟩], .str⟩
def ti11 : TI := ⟨1, 16, [.string ⟨#[]⟩], .str⟩
def ti12 : TI := ⟨1, 8, [.int .u64 0], (.int .u64)⟩
def ti13 : TI := ⟨2, 24, [.string ⟨#[]⟩, .int .u64 0], (.st [(0, 9), (1, 12)])⟩
def ti14 : TI := ⟨2, 24, [.string ⟨#[]⟩, .int .u64 0], (.st [(0, 9), (1, 12)])⟩
def ti21 : TI := ⟨1, 4, [.int .i32 0], (.int .i32)⟩
def ti22 : TI := ⟨1, 24, [.slice none 0 0], (.sl 54)⟩
def ti23 : TI := ⟨1, 24, [.slice none 0 0], (.st [(0, 22)])⟩
def ti24 : TI := ⟨1, 24, [.slice none 0 0], (.st [(0, 22)])⟩
def ti25 : TI := ⟨2, 16, [.int .i64 0, .int .i64 0], (.st [(0, 3), (1, 3)])⟩
def ti26 : TI := ⟨2, 16, [.int .i64 0, .int .i64 0], (.st [(0, 3), (1, 3)])⟩
def ti27 : TI := ⟨1, 8, [.nilFunc], .func⟩
def ti28 : TI := ⟨1, 8, [.nilFunc], .func⟩
def ti29 : TI := ⟨1, 8, [.nilFunc], .func⟩
def ti30 : TI := ⟨1, 8, [.int .i64 0], (.int .i64)⟩
def ti31 : TI := ⟨1, 8, [.nilFunc], .func⟩
def ti32 : TI := ⟨1, 24, [.slice none 0 0], (.sl 26)⟩
def ti33 : TI := ⟨1, 24, [.slice none 0 0], (.sl 3)⟩
def ti34 : TI := ⟨1, 24, [.slice none 0 0], (.sl 39)⟩
def ti35 : TI := ⟨1, 8, [.nilFunc], .func⟩
def ti36 : TI := ⟨3, 40, [.int .i64 0, .bool false, .slice none 0 0], (.st [(0, 3), (1, 4), (2, 33)])⟩
def ti37 : TI := ⟨3, 40, [.int .i64 0, .bool false, .slice none 0 0], (.st [(0, 3), (1, 4), (2, 33)])⟩
def ti38 : TI := ⟨6, 80, [.int .i64 0, .bool false, .slice none 0 0, .int .i64 0, .bool false, .slice none 0 0], (.st [(0, 37), (3, 37)])⟩
def ti39 : TI := ⟨6, 80, [.int .i64 0, .bool false, .slice none 0 0, .int .i64 0, .bool false, .slice none 0 0], (.st [(0, 37), (3, 37)])⟩
def ti40 : TI := ⟨1, 8, [.nilFunc], .func⟩
def ti42 : TI := ⟨1, 8, [.nilFunc], .func⟩
def ti43 : TI := ⟨1, 8, [.nilFunc], .func⟩
def ti45 : TI := ⟨1, 8, [.nilFunc], .func⟩
def ti46 : TI := ⟨1, 8, [.nilFunc], .func⟩
def ti47 : TI := ⟨1, 8, [.nilFunc], .func⟩
def ti48 : TI := ⟨1, 8, [.nilFunc], .func⟩
def ti49 : TI := ⟨1, 8, [.nilFunc], .func⟩
def ti50 : TI := ⟨1, 8, [.nilFunc], .func⟩
def ti51 : TI := ⟨1, 8, [.nilFunc], .func⟩
def ti52 : TI := ⟨1, 24, [.slice none 0 0], (.sl 57)⟩
def ti53 : TI := ⟨3, 40, [.int .i64 0, .int .i64 0, .slice none 0 0], (.st [(0, 3), (1, 3), (2, 52)])⟩
def ti54 : TI := ⟨3, 40, [.int .i64 0, .int .i64 0, .slice none 0 0], (.st [(0, 3), (1, 3), (2, 52)])⟩
def ti55 : TI := ⟨1, 24, [.slice none 0 0], (.sl 84)⟩
def ti56 : TI := ⟨3, 40, [.int .i64 0, .int .i64 0, .slice none 0 0], (.st [(0, 26), (2, 55)])⟩
def ti57 : TI := ⟨3, 40, [.int .i64 0, .int .i64 0, .slice none 0 0], (.st [(0, 26), (2, 55)])⟩
def ti58 : TI := ⟨1, 8, [.nilFunc], .func⟩
def ti60 : TI := ⟨1, 8, [.nilFunc], .func⟩
def ti61 : TI := ⟨1, 8, [.nilFunc], .func⟩
def ti62 : TI := ⟨1, 8, [.nilFunc], .func⟩
def ti63 : TI := ⟨1, 8, [.nilFunc], .func⟩
def ti64 : TI := ⟨1, 8, [.nilFunc], .func⟩
def ti65 : TI := ⟨1, 8, [.nilFunc], .func⟩
def ti66 : TI := ⟨1, 8, [.nilFunc], .func⟩
def ti67 : TI := ⟨1, 8, [.nilFunc], .func⟩
def ti68 : TI := ⟨1, 8, [.nilFunc], .func⟩
def ti69 : TI := ⟨1, 8, [.nilFunc], .func⟩
def ti70 : TI := ⟨1, 8, [.nilFunc], .func⟩
def ti72 : TI := ⟨1, 8, [.nilFunc], .func⟩
def ti73 : TI := ⟨1, 8, [.nilFunc], .func⟩
def ti74 : TI := ⟨1, 24, [.slice none 0 0], (.sl 32)⟩
def ti76 : TI := ⟨1, 8, [.nilFunc], .func⟩
def ti78 : TI := ⟨1, 8, [.nilFunc], .func⟩
def ti79 : TI := ⟨1, 8, [.nilFunc], .func⟩
def ti80 : TI := ⟨1, 8, [.nilFunc], .func⟩
def ti81 : TI := ⟨1, 24, [.slice none 0 0], (.sl 5)⟩
def ti82 : TI := ⟨1, 8, [.nilFunc], .func⟩
def ti83 : TI := ⟨3, 24, [.int .i64 0, .int .i64 0, .int .i64 0], (.st [(0, 3), (1, 26)])⟩
def ti84 : TI := ⟨3, 24, [.int .i64 0, .int .i64 0, .int .i64 0], (.st [(0, 3), (1, 26)])⟩
def ti85 : TI := ⟨1, 8, [.nilFunc], .func⟩
def ti86 : TI := ⟨1, 8, [.nilFunc], .func⟩
def ti87 : TI := ⟨1, 8, [.nilFunc], .func⟩
def ti88 : TI := ⟨1, 8, [.nilFunc], .func⟩
def ti89 : TI := ⟨1, 8, [.nilFunc], .func⟩
def ti90 : TI := ⟨1, 8, [.nilFunc], .func⟩
def ti92 : TI := ⟨1, 8, [.nilFunc], .func⟩
def ti94 : TI := ⟨1, 8, [.nilFunc], .func⟩
def ti96 : TI := ⟨1, 8, [.nilFunc], .func⟩
def ti97 : TI := ⟨1, 8, [.nilFunc], .func⟩
def ti98 : TI := ⟨1, 24, [.slice none 0 0], (.sl 160)⟩
def ti99 : TI := ⟨2, 32, [.int .i64 0, .slice none 0 0], (.st [(0, 3), (1, 98)])⟩
def ti100 : TI := ⟨2, 32, [.int .i64 0, .slice none 0 0], (.st [(0, 3), (1, 98)])⟩
def ti101 : TI := ⟨4, 64, [.int .i64 0, .slice none 0 0, .int .i64 0, .slice none 0 0], (.st [(0, 100), (2, 100)])⟩
def ti102 : TI := ⟨4, 64, [.int .i64 0, .slice none 0 0, .int .i64 0, .slice none 0 0], (.st [(0, 100), (2, 100)])⟩
def ti103 : TI := ⟨1, 8, [.nilFunc], .func⟩
def ti104 : TI := ⟨1, 24, [.slice none 0 0], (.sl 102)⟩
def ti105 : TI := ⟨1, 8, [.nilFunc], .func⟩
def ti106 : TI := ⟨1, 8, [.nilFunc], .func⟩
def ti108 : TI := ⟨1, 8, [.nilFunc], .func⟩
def ti109 : TI := ⟨1, 8, [.nilFunc], .func⟩
def ti110 : TI := ⟨1, 8, [.nilFunc], .func⟩
def ti111 : TI := ⟨1, 8, [.nilFunc], .func⟩
def ti112 : TI := ⟨1, 8, [.nilFunc], .func⟩
def ti113 : TI := ⟨1, 24, [.slice none 0 0], (.sl 34)⟩
def ti114 : TI := ⟨1, 8, [.nilFunc], .func⟩
def ti116 : TI := ⟨1, 8, [.nilFunc], .func⟩
def ti117 : TI := ⟨1, 8, [.nilFunc], .func⟩
def ti118 : TI := ⟨1, 8, [.nilFunc], .func⟩
def ti119 : TI := ⟨1, 8, [.nilFunc], .func⟩
def ti120 : TI := ⟨1, 8, [.nilFunc], .func⟩
def ti121 : TI := ⟨1, 8, [.nilFunc], .func⟩
def ti122 : TI := ⟨1, 8, [.nilFunc], .func⟩
def ti123 : TI := ⟨1, 8, [.nilFunc], .func⟩
def ti124 : TI := ⟨1, 24, [.slice none 0 0], (.sl 104)⟩
def ti125 : TI := ⟨1, 8, [.nilFunc], .func⟩
def ti126 : TI := ⟨1, 8, [.nilFunc], .func⟩
def ti127 : TI := ⟨1, 8, [.nilFunc], .func⟩
def ti128 : TI := ⟨1, 8, [.nilFunc], .func⟩
def ti129 : TI := ⟨1, 8, [.nilFunc], .func⟩
def ti130 : TI := ⟨1, 8, [.nilFunc], .func⟩
def ti131 : TI := ⟨1, 8, [.nilFunc], .func⟩
def ti132 : TI := ⟨1, 8, [.nilFunc], .func⟩
def ti133 : TI := ⟨1, 8, [.nilFunc], .func⟩
def ti134 : TI := ⟨1, 8, [.nilFunc], .func⟩
def ti135 : TI := ⟨1, 8, [.nilFunc], .func⟩
def ti136 : TI := ⟨1, 8, [.nilFunc], .func⟩
def ti137 : TI := ⟨1, 8, [.nilFunc], .func⟩
def ti138 : TI := ⟨1, 8, [.nilFunc], .func⟩
def ti140 : TI := ⟨1, 8, [.nilFunc], .func⟩
def ti141 : TI := ⟨1, 8, [.nilFunc], .func⟩
def ti142 : TI := ⟨1, 8, [.nilFunc], .func⟩
def ti143 : TI := ⟨1, 8, [.nilFunc], .func⟩
def ti144 : TI := ⟨1, 8, [.nilFunc], .func⟩
def ti146 : TI := ⟨1, 8, [.nilFunc], .func⟩
def ti148 : TI := ⟨1, 8, [.nilFunc], .func⟩
def ti149 : TI := ⟨1, 8, [.nilFunc], .func⟩
def ti150 : TI := ⟨1, 8, [.nilFunc], .func⟩
def ti151 : TI := ⟨1, 8, [.nilFunc], .func⟩
def ti152 : TI := ⟨1, 8, [.nilFunc], .func⟩
def ti153 : TI := ⟨1, 8, [.nilFunc], .func⟩
def ti154 : TI := ⟨1, 8, [.nilFunc], .func⟩
def ti155 : TI := ⟨1, 8, [.nilFunc], .func⟩
def ti156 : TI := ⟨1, 8, [.nilFunc], .func⟩
def ti158 : TI := ⟨1, 8, [.nilFunc], .func⟩
def ti159 : TI := ⟨1, 8, [.int .u64 0], (.int .u64)⟩
def ti160 : TI := ⟨1, 4, [.int .u32 0], (.int .u32)⟩
def ti161 : TI := ⟨1, 8, [.int .u64 0], (.int .u64)⟩
def ti163 : TI := ⟨1, 8, [.nilFunc], .func⟩
def ti164 : TI := ⟨1, 8, [.nilFunc], .func⟩
def ti165 : TI := ⟨1, 8, [.nilFunc], .func⟩
def ti166 : TI := ⟨1, 8, [.nilFunc], .func⟩
def ti168 : TI := ⟨1, 8, [.nilFunc], .func⟩
def ti170 : TI := ⟨1, 8, [.nilFunc], .func⟩
def ti172 : TI := ⟨1, 8, [.nilFunc], .func⟩
def ti173 : TI := ⟨1, 8, [.nilFunc], .func⟩
def ti174 : TI := ⟨1, 8, [.nilFunc], .func⟩
def ti176 : TI := ⟨1, 8, [.nilFunc], .func⟩
def ti178 : TI := ⟨1, 8, [.nilFunc], .func⟩
def ti180 : TI := ⟨1, 8, [.nilFunc], .func⟩
def ti181 : TI := ⟨1, 8, [.nilFunc], .func⟩
def ti182 : TI := ⟨1, 8, [.nilFunc], .func⟩
def ti183 : TI := ⟨1, 8, [.nilFunc], .func⟩
def ti184 : TI := ⟨1, 8, [.nilFunc], .func⟩
def ti185 : TI := ⟨1, 8, [.nilFunc], .func⟩
def ti186 : TI := ⟨1, 8, [.nilFunc], .func⟩
def ti187 : TI := ⟨1, 8, [.nilFunc], .func⟩
def ti189 : TI := ⟨1, 8, [.nilFunc], .func⟩
def ti190 : TI := ⟨1, 8, [.nilFunc], .func⟩
def ti191 : TI := ⟨1, 8, [.nilFunc], .func⟩
def ti195 : TI := ⟨1, 8, [.nilFunc], .func⟩
def ti201 : TI := ⟨1, 1, [.int .u8 0], (.int .u8)⟩
def ti202 : TI := ⟨1, 1, [.int .u8 0], (.int .u8)⟩
def ti203 : TI := ⟨1, 8, [.nilFunc], .func⟩
def ti205 : TI := ⟨1, 4, [.int .i32 0], (.int .i32)⟩
def ti206 : TI := ⟨1, 4, [.int .i32 0], (.int .i32)⟩
def ti209 : TI := ⟨1, 16, [.string ⟨#[]⟩], (.st [(0, 9)])⟩
def ti210 : TI := ⟨1, 16, [.string ⟨#[]⟩], (.st [(0, 9)])⟩
theorem tok1 : TypeOk Tryz.prog 1 ti1 := aD (z := (.nilFunc)) (by kernel_rfl) rfl Tryz.underlying1 ⟨_, _, _, rfl⟩ rfl (by decide)
theorem tok2 : TypeOk Tryz.prog 2 ti2 := aD (z := (.int .i64 0)) (by kernel_rfl) rfl Tryz.underlying2 rfl rfl (by decide)
theorem tok3 : TypeOk Tryz.prog 3 ti3 := aD (z := (.int .i64 0)) (by kernel_rfl) rfl Tryz.underlying3 rfl rfl (by decide)
theorem tok4 : TypeOk Tryz.prog 4 ti4 := aD (z := (.bool false)) (by kernel_rfl) rfl Tryz.underlying4 rfl rfl (by decide)
theorem tok5 : TypeOk Tryz.prog 5 ti5 := aD (z := (.int .u8 0)) (by kernel_rfl) rfl Tryz.underlying5 rfl rfl (by decide)
theorem tok6 : TypeOk Tryz.prog 6 ti6 := aD (z := (.int .u8 0)) (by kernel_rfl) rfl Tryz.underlying6 rfl rfl (by decide)
theorem tok7 : TypeOk Tryz.prog 7 ti7 := aD (z := (.agg #[.int .i64 0, .int .i64 0, .bool false, .int .u8 0])) (by kernel_rfl) rfl Tryz.underlying7 ⟨_, rfl, rfl⟩ rfl (by decide)
theorem tok8 : TypeOk Tryz.prog 8 ti8 := aD (z := (.agg #[.int .i64 0, .int .i64 0, .bool false, .int .u8 0])) (by kernel_rfl) rfl Tryz.underlying8 ⟨_, rfl, rfl⟩ rfl (by decide)
theorem tok9 : TypeOk Tryz.prog 9 ti9 := aD (z := (.string ⟨#[]⟩)) (by kernel_rfl) rfl Tryz.underlying9 rfl rfl (by decide)
theorem tok10 : TypeOk Tryz.prog 10 ti10 := aD (z := (.string ⟨#[]⟩)) (by kernel_rfl) rfl Tryz.underlying10 rfl rfl (by decide)
theorem tok11 : TypeOk Tryz.prog 11 ti11 := aD (z := (.string ⟨#[]⟩)) (by kernel_rfl) rfl Tryz.underlying11 rfl rfl (by decide)
theorem tok12 : TypeOk Tryz.prog 12 ti12 := aD (z := (.int .u64 0)) (by kernel_rfl) rfl Tryz.underlying12 rfl rfl (by decide)
theorem tok13 : TypeOk Tryz.prog 13 ti13 := aD (z := (.agg #[.string ⟨#[]⟩, .int .u64 0])) (by kernel_rfl) rfl Tryz.underlying13 ⟨_, rfl, rfl⟩ rfl (by decide)
theorem tok14 : TypeOk Tryz.prog 14 ti14 := aD (z := (.agg #[.string ⟨#[]⟩, .int .u64 0])) (by kernel_rfl) rfl Tryz.underlying14 ⟨_, rfl, rfl⟩ rfl (by decide)
theorem tok21 : TypeOk Tryz.prog 21 ti21 := aD (z := (.int .i32 0)) (by kernel_rfl) rfl Tryz.underlying21 rfl rfl (by decide)
theorem tok22 : TypeOk Tryz.prog 22 ti22 := aD (z := (.slice none 0 0)) (by kernel_rfl) rfl Tryz.underlying22 rfl rfl (by decide)
theorem tok23 : TypeOk Tryz.prog 23 ti23 := aD (z := (.agg #[.slice none 0 0])) (by kernel_rfl) rfl Tryz.underlying23 ⟨_, rfl, rfl⟩ rfl (by decide)
theorem tok24 : TypeOk Tryz.prog 24 ti24 := aD (z := (.agg #[.slice none 0 0])) (by kernel_rfl) rfl Tryz.underlying24 ⟨_, rfl, rfl⟩ rfl (by decide)
theorem tok25 : TypeOk Tryz.prog 25 ti25 := aD (z := (.agg #[.int .i64 0, .int .i64 0])) (by kernel_rfl) rfl Tryz.underlying25 ⟨_, rfl, rfl⟩ rfl (by decide)
theorem tok26 : TypeOk Tryz.prog 26 ti26 := aD (z := (.agg #[.int .i64 0, .int .i64 0])) (by kernel_rfl) rfl Tryz.underlying26 ⟨_, rfl, rfl⟩ rfl (by decide)
theorem tok27 : TypeOk Tryz.prog 27 ti27 := aD (z := (.nilFunc)) (by kernel_rfl) rfl Tryz.underlying27 ⟨_, _, _, rfl⟩ rfl (by decide)
theorem tok28 : TypeOk Tryz.prog 28 ti28 := aD (z := (.nilFunc)) (by kernel_rfl) rfl Tryz.underlying28 ⟨_, _, _, rfl⟩ rfl (by decide)
theorem tok29 : TypeOk Tryz.prog 29 ti29 := aD (z := (.nilFunc)) (by kernel_rfl) rfl Tryz.underlying29 ⟨_, _, _, rfl⟩ rfl (by decide)
theorem tok30 : TypeOk Tryz.prog 30 ti30 := aD (z := (.int .i64 0)) (by kernel_rfl) rfl Tryz.underlying30 rfl rfl (by decide)
theorem tok31 : TypeOk Tryz.prog 31 ti31 := aD (z := (.nilFunc)) (by kernel_rfl) rfl Tryz.underlying31 ⟨_, _, _, rfl⟩ rfl (by decide)
theorem tok32 : TypeOk Tryz.prog 32 ti32 := aD (z := (.slice none 0 0)) (by kernel_rfl) rfl Tryz.underlying32 rfl rfl (by decide)
theorem tok33 : TypeOk Tryz.prog 33 ti33 := aD (z := (.slice none 0 0)) (by kernel_rfl) rfl Tryz.underlying33 rfl rfl (by decide)
theorem tok34 : TypeOk Tryz.prog 34 ti34 := aD (z := (.slice none 0 0)) (by kernel_rfl) rfl Tryz.underlying34 rfl rfl (by decide)
theorem tok35 : TypeOk Tryz.prog 35 ti35 := aD (z := (.nilFunc)) (by kernel_rfl) rfl Tryz.underlying35 ⟨_, _, _, rfl⟩ rfl (by decide)
theorem tok36 : TypeOk Tryz.prog 36 ti36 := aD (z := (.agg #[.int .i64 0, .bool false, .slice none 0 0])) (by kernel_rfl) rfl Tryz.underlying36 ⟨_, rfl, rfl⟩ rfl (by decide)
theorem tok37 : TypeOk Tryz.prog 37 ti37 := aD (z := (.agg #[.int .i64 0, .bool false, .slice none 0 0])) (by kernel_rfl) rfl Tryz.underlying37 ⟨_, rfl, rfl⟩ rfl (by decide)
theorem tok38 : TypeOk Tryz.prog 38 ti38 := aD (z := (.agg #[.int .i64 0, .bool false, .slice none 0 0, .int .i64 0, .bool false, .slice none 0 0])) (by kernel_rfl) rfl Tryz.underlying38 ⟨_, rfl, rfl⟩ rfl (by decide)
theorem tok39 : TypeOk Tryz.prog 39 ti39 := aD (z := (.agg #[.int .i64 0, .bool false, .slice none 0 0, .int .i64 0, .bool false, .slice none 0 0])) (by kernel_rfl) rfl Tryz.underlying39 ⟨_, rfl, rfl⟩ rfl (by decide)
theorem tok40 : TypeOk Tryz.prog 40 ti40 := aD (z := (.nilFunc)) (by kernel_rfl) rfl Tryz.underlying40 ⟨_, _, _, rfl⟩ rfl (by decide)
theorem tok42 : TypeOk Tryz.prog 42 ti42 := aD (z := (.nilFunc)) (by kernel_rfl) rfl Tryz.underlying42 ⟨_, _, _, rfl⟩ rfl (by decide)
theorem tok43 : TypeOk Tryz.prog 43 ti43 := aD (z := (.nilFunc)) (by kernel_rfl) rfl Tryz.underlying43 ⟨_, _, _, rfl⟩ rfl (by decide)
theorem tok45 : TypeOk Tryz.prog 45 ti45 := aD (z := (.nilFunc)) (by kernel_rfl) rfl Tryz.underlying45 ⟨_, _, _, rfl⟩ rfl (by decide)
theorem tok46 : TypeOk Tryz.prog 46 ti46 := aD (z := (.nilFunc)) (by kernel_rfl) rfl Tryz.underlying46 ⟨_, _, _, rfl⟩ rfl (by decide)
theorem tok47 : TypeOk Tryz.prog 47 ti47 := aD (z := (.nilFunc)) (by kernel_rfl) rfl Tryz.underlying47 ⟨_, _, _, rfl⟩ rfl (by decide)
theorem tok48 : TypeOk Tryz.prog 48 ti48 := aD (z := (.nilFunc)) (by kernel_rfl) rfl Tryz.underlying48 ⟨_, _, _, rfl⟩ rfl (by decide)
theorem tok49 : TypeOk Tryz.prog 49 ti49 := aD (z := (.nilFunc)) (by kernel_rfl) rfl Tryz.underlying49 ⟨_, _, _, rfl⟩ rfl (by decide)
theorem tok50 : TypeOk Tryz.prog 50 ti50 := aD (z := (.nilFunc)) (by kernel_rfl) rfl Tryz.underlying50 ⟨_, _, _, rfl⟩ rfl (by decide)
theorem tok51 : TypeOk Tryz.prog 51 ti51 := aD (z := (.nilFunc)) (by kernel_rfl) rfl Tryz.underlying51 ⟨_, _, _, rfl⟩ rfl (by decide)
theorem tok52 : TypeOk Tryz.prog 52 ti52 := aD (z := (.slice none 0 0)) (by kernel_rfl) rfl Tryz.underlying52 rfl rfl (by decide)
theorem tok53 : TypeOk Tryz.prog 53 ti53 := aD (z := (.agg #[.int .i64 0, .int .i64 0, .slice none 0 0])) (by kernel_rfl) rfl Tryz.underlying53 ⟨_, rfl, rfl⟩ rfl (by decide)
theorem tok54 : TypeOk Tryz.prog 54 ti54 := aD (z := (.agg #[.int .i64 0, .int .i64 0, .slice none 0 0])) (by kernel_rfl) rfl Tryz.underlying54 ⟨_, rfl, rfl⟩ rfl (by decide)
theorem tok55 : TypeOk Tryz.prog 55 ti55 := aD (z := (.slice none 0 0)) (by kernel_rfl) rfl Tryz.underlying55 rfl rfl (by decide)
theorem tok56 : TypeOk Tryz.prog 56 ti56 := aD (z := (.agg #[.int .i64 0, .int .i64 0, .slice none 0 0])) (by kernel_rfl) rfl Tryz.underlying56 ⟨_, rfl, rfl⟩ rfl (by decide)
theorem tok57 : TypeOk Tryz.prog 57 ti57 := aD (z := (.agg #[.int .i64 0, .int .i64 0, .slice none 0 0])) (by kernel_rfl) rfl Tryz.underlying57 ⟨_, rfl, rfl⟩ rfl (by decide)
theorem tok58 : TypeOk Tryz.prog 58 ti58 := aD (z := (.nilFunc)) (by kernel_rfl) rfl Tryz.underlying58 ⟨_, _, _, rfl⟩ rfl (by decide)
theorem tok60 : TypeOk Tryz.prog 60 ti60 := aD (z := (.nilFunc)) (by kernel_rfl) rfl Tryz.underlying60 ⟨_, _, _, rfl⟩ rfl (by decide)
theorem tok61 : TypeOk Tryz.prog 61 ti61 := aD (z := (.nilFunc)) (by kernel_rfl) rfl Tryz.underlying61 ⟨_, _, _, rfl⟩ rfl (by decide)
theorem tok62 : TypeOk Tryz.prog 62 ti62 := aD (z := (.nilFunc)) (by kernel_rfl) rfl Tryz.underlying62 ⟨_, _, _, rfl⟩ rfl (by decide)
theorem tok63 : TypeOk Tryz.prog 63 ti63 := aD (z := (.nilFunc)) (by kernel_rfl) rfl Tryz.underlying63 ⟨_, _, _, rfl⟩ rfl (by decide)
theorem tok64 : TypeOk Tryz.prog 64 ti64 := aD (z := (.nilFunc)) (by kernel_rfl) rfl Tryz.underlying64 ⟨_, _, _, rfl⟩ rfl (by decide)
theorem tok65 : TypeOk Tryz.prog 65 ti65 := aD (z := (.nilFunc)) (by kernel_rfl) rfl Tryz.underlying65 ⟨_, _, _, rfl⟩ rfl (by decide)
theorem tok66 : TypeOk Tryz.prog 66 ti66 := aD (z := (.nilFunc)) (by kernel_rfl) rfl Tryz.underlying66 ⟨_, _, _, rfl⟩ rfl (by decide)
theorem tok67 : TypeOk Tryz.prog 67 ti67 := aD (z := (.nilFunc)) (by kernel_rfl) rfl Tryz.underlying67 ⟨_, _, _, rfl⟩ rfl (by decide)
theorem tok68 : TypeOk Tryz.prog 68 ti68 := aD (z := (.nilFunc)) (by kernel_rfl) rfl Tryz.underlying68 ⟨_, _, _, rfl⟩ rfl (by decide)
theorem tok69 : TypeOk Tryz.prog 69 ti69 := aD (z := (.nilFunc)) (by kernel_rfl) rfl Tryz.underlying69 ⟨_, _, _, rfl⟩ rfl (by decide)
theorem tok70 : TypeOk Tryz.prog 70 ti70 := aD (z := (.nilFunc)) (by kernel_rfl) rfl Tryz.underlying70 ⟨_, _, _, rfl⟩ rfl (by decide)
theorem tok72 : TypeOk Tryz.prog 72 ti72 := aD (z := (.nilFunc)) (by kernel_rfl) rfl Tryz.underlying72 ⟨_, _, _, rfl⟩ rfl (by decide)
theorem tok73 : TypeOk Tryz.prog 73 ti73 := aD (z := (.nilFunc)) (by kernel_rfl) rfl Tryz.underlying73 ⟨_, _, _, rfl⟩ rfl (by decide)
theorem tok74 : TypeOk Tryz.prog 74 ti74 := aD (z := (.slice none 0 0)) (by kernel_rfl) rfl Tryz.underlying74 rfl rfl (by decide)
theorem tok76 : TypeOk Tryz.prog 76 ti76 := aD (z := (.nilFunc)) (by kernel_rfl) rfl Tryz.underlying76 ⟨_, _, _, rfl⟩ rfl (by decide)
theorem tok78 : TypeOk Tryz.prog 78 ti78 := aD (z := (.nilFunc)) (by kernel_rfl) rfl Tryz.underlying78 ⟨_, _, _, rfl⟩ rfl (by decide)
theorem tok79 : TypeOk Tryz.prog 79 ti79 := aD (z := (.nilFunc)) (by kernel_rfl) rfl Tryz.underlying79 ⟨_, _, _, rfl⟩ rfl (by decide)
theorem tok80 : TypeOk Tryz.prog 80 ti80 := aD (z := (.nilFunc)) (by kernel_rfl) rfl Tryz.underlying80 ⟨_, _, _, rfl⟩ rfl (by decide)
theorem tok81 : TypeOk Tryz.prog 81 ti81 := aD (z := (.slice none 0 0)) (by kernel_rfl) rfl Tryz.underlying81 rfl rfl (by decide)
theorem tok82 : TypeOk Tryz.prog 82 ti82 := aD (z := (.nilFunc)) (by kernel_rfl) rfl Tryz.underlying82 ⟨_, _, _, rfl⟩ rfl (by decide)
theorem tok83 : TypeOk Tryz.prog 83 ti83 := aD (z := (.agg #[.int .i64 0, .int .i64 0, .int .i64 0])) (by kernel_rfl) rfl Tryz.underlying83 ⟨_, rfl, rfl⟩ rfl (by decide)
theorem tok84 : TypeOk Tryz.prog 84 ti84 := aD (z := (.agg #[.int .i64 0, .int .i64 0, .int .i64 0])) (by kernel_rfl) rfl Tryz.underlying84 ⟨_, rfl, rfl⟩ rfl (by decide)
theorem tok85 : TypeOk Tryz.prog 85 ti85 := aD (z := (.nilFunc)) (by kernel_rfl) rfl Tryz.underlying85 ⟨_, _, _, rfl⟩ rfl (by decide)
theorem tok86 : TypeOk Tryz.prog 86 ti86 := aD (z := (.nilFunc)) (by kernel_rfl) rfl Tryz.underlying86 ⟨_, _, _, rfl⟩ rfl (by decide)
theorem tok87 : TypeOk Tryz.prog 87 ti87 := aD (z := (.nilFunc)) (by kernel_rfl) rfl Tryz.underlying87 ⟨_, _, _, rfl⟩ rfl (by decide)
theorem tok88 : TypeOk Tryz.prog 88 ti88 := aD (z := (.nilFunc)) (by kernel_rfl) rfl Tryz.underlying88 ⟨_, _, _, rfl⟩ rfl (by decide)
theorem tok89 : TypeOk Tryz.prog 89 ti89 := aD (z := (.nilFunc)) (by kernel_rfl) rfl Tryz.underlying89 ⟨_, _, _, rfl⟩ rfl (by decide)
theorem tok90 : TypeOk Tryz.prog 90 ti90 := aD (z := (.nilFunc)) (by kernel_rfl) rfl Tryz.underlying90 ⟨_, _, _, rfl⟩ rfl (by decide)
theorem tok92 : TypeOk Tryz.prog 92 ti92 := aD (z := (.nilFunc)) (by kernel_rfl) rfl Tryz.underlying92 ⟨_, _, _, rfl⟩ rfl (by decide)
theorem tok94 : TypeOk Tryz.prog 94 ti94 := aD (z := (.nilFunc)) (by kernel_rfl) rfl Tryz.underlying94 ⟨_, _, _, rfl⟩ rfl (by decide)
theorem tok96 : TypeOk Tryz.prog 96 ti96 := aD (z := (.nilFunc)) (by kernel_rfl) rfl Tryz.underlying96 ⟨_, _, _, rfl⟩ rfl (by decide)
theorem tok97 : TypeOk Tryz.prog 97 ti97 := aD (z := (.nilFunc)) (by kernel_rfl) rfl Tryz.underlying97 ⟨_, _, _, rfl⟩ rfl (by decide)
theorem tok98 : TypeOk Tryz.prog 98 ti98 := aD (z := (.slice none 0 0)) (by kernel_rfl) rfl Tryz.underlying98 rfl rfl (by decide)
theorem tok99 : TypeOk Tryz.prog 99 ti99 := aD (z := (.agg #[.int .i64 0, .slice none 0 0])) (by kernel_rfl) rfl Tryz.underlying99 ⟨_, rfl, rfl⟩ rfl (by decide)
theorem tok100 : TypeOk Tryz.prog 100 ti100 := aD (z := (.agg #[.int .i64 0, .slice none 0 0])) (by kernel_rfl) rfl Tryz.underlying100 ⟨_, rfl, rfl⟩ rfl (by decide)
theorem tok101 : TypeOk Tryz.prog 101 ti101 := aD (z := (.agg #[.int .i64 0, .slice none 0 0, .int .i64 0, .slice none 0 0])) (by kernel_rfl) rfl Tryz.underlying101 ⟨_, rfl, rfl⟩ rfl (by decide)
theorem tok102 : TypeOk Tryz.prog 102 ti102 := aD (z := (.agg #[.int .i64 0, .slice none 0 0, .int .i64 0, .slice none 0 0])) (by kernel_rfl) rfl Tryz.underlying102 ⟨_, rfl, rfl⟩ rfl (by decide)
theorem tok103 : TypeOk Tryz.prog 103 ti103 := aD (z := (.nilFunc)) (by kernel_rfl) rfl Tryz.underlying103 ⟨_, _, _, rfl⟩ rfl (by decide)
theorem tok104 : TypeOk Tryz.prog 104 ti104 := aD (z := (.slice none 0 0)) (by kernel_rfl) rfl Tryz.underlying104 rfl rfl (by decide)
theorem tok105 : TypeOk Tryz.prog 105 ti105 := aD (z := (.nilFunc)) (by kernel_rfl) rfl Tryz.underlying105 ⟨_, _, _, rfl⟩ rfl (by decide)
theorem tok106 : TypeOk Tryz.prog 106 ti106 := aD (z := (.nilFunc)) (by kernel_rfl) rfl Tryz.underlying106 ⟨_, _, _, rfl⟩ rfl (by decide)
theorem tok108 : TypeOk Tryz.prog 108 ti108 := aD (z := (.nilFunc)) (by kernel_rfl) rfl Tryz.underlying108 ⟨_, _, _, rfl⟩ rfl (by decide)
theorem tok109 : TypeOk Tryz.prog 109 ti109 := aD (z := (.nilFunc)) (by kernel_rfl) rfl Tryz.underlying109 ⟨_, _, _, rfl⟩ rfl (by decide)
theorem tok110 : TypeOk Tryz.prog 110 ti110 := aD (z := (.nilFunc)) (by kernel_rfl) rfl Tryz.underlying110 ⟨_, _, _, rfl⟩ rfl (by decide)
theorem tok111 : TypeOk Tryz.prog 111 ti111 := aD (z := (.nilFunc)) (by kernel_rfl) rfl Tryz.underlying111 ⟨_, _, _, rfl⟩ rfl (by decide)
theorem tok112 : TypeOk Tryz.prog 112 ti112 := aD (z := (.nilFunc)) (by kernel_rfl) rfl Tryz.underlying112 ⟨_, _, _, rfl⟩ rfl (by decide)
theorem tok113 : TypeOk Tryz.prog 113 ti113 := aD (z := (.slice none 0 0)) (by kernel_rfl) rfl Tryz.underlying113 rfl rfl (by decide)
theorem tok114 : TypeOk Tryz.prog 114 ti114 := aD (z := (.nilFunc)) (by kernel_rfl) rfl Tryz.underlying114 ⟨_, _, _, rfl⟩ rfl (by decide)
theorem tok116 : TypeOk Tryz.prog 116 ti116 := aD (z := (.nilFunc)) (by kernel_rfl) rfl Tryz.underlying116 ⟨_, _, _, rfl⟩ rfl (by decide)
theorem tok117 : TypeOk Tryz.prog 117 ti117 := aD (z := (.nilFunc)) (by kernel_rfl) rfl Tryz.underlying117 ⟨_, _, _, rfl⟩ rfl (by decide)
theorem tok118 : TypeOk Tryz.prog 118 ti118 := aD (z := (.nilFunc)) (by kernel_rfl) rfl Tryz.underlying118 ⟨_, _, _, rfl⟩ rfl (by decide)
theorem tok119 : TypeOk Tryz.prog 119 ti119 := aD (z := (.nilFunc)) (by kernel_rfl) rfl Tryz.underlying119 ⟨_, _, _, rfl⟩ rfl (by decide)
theorem tok120 : TypeOk Tryz.prog 120 ti120 := aD (z := (.nilFunc)) (by kernel_rfl) rfl Tryz.underlying120 ⟨_, _, _, rfl⟩ rfl (by decide)
theorem tok121 : TypeOk Tryz.prog 121 ti121 := aD (z := (.nilFunc)) (by kernel_rfl) rfl Tryz.underlying121 ⟨_, _, _, rfl⟩ rfl (by decide)
theorem tok122 : TypeOk Tryz.prog 122 ti122 := aD (z := (.nilFunc)) (by kernel_rfl) rfl Tryz.underlying122 ⟨_, _, _, rfl⟩ rfl (by decide)
theorem tok123 : TypeOk Tryz.prog 123 ti123 := aD (z := (.nilFunc)) (by kernel_rfl) rfl Tryz.underlying123 ⟨_, _, _, rfl⟩ rfl (by decide)
theorem tok124 : TypeOk Tryz.prog 124 ti124 := aD (z := (.slice none 0 0)) (by kernel_rfl) rfl Tryz.underlying124 rfl rfl (by decide)
theorem tok125 : TypeOk Tryz.prog 125 ti125 := aD (z := (.nilFunc)) (by kernel_rfl) rfl Tryz.underlying125 ⟨_, _, _, rfl⟩ rfl (by decide)
theorem tok126 : TypeOk Tryz.prog 126 ti126 := aD (z := (.nilFunc)) (by kernel_rfl) rfl Tryz.underlying126 ⟨_, _, _, rfl⟩ rfl (by decide)
theorem tok127 : TypeOk Tryz.prog 127 ti127 := aD (z := (.nilFunc)) (by kernel_rfl) rfl Tryz.underlying127 ⟨_, _, _, rfl⟩ rfl (by decide)
theorem tok128 : TypeOk Tryz.prog 128 ti128 := aD (z := (.nilFunc)) (by kernel_rfl) rfl Tryz.underlying128 ⟨_, _, _, rfl⟩ rfl (by decide)
theorem tok129 : TypeOk Tryz.prog 129 ti129 := aD (z := (.nilFunc)) (by kernel_rfl) rfl Tryz.underlying129 ⟨_, _, _, rfl⟩ rfl (by decide)
theorem tok130 : TypeOk Tryz.prog 130 ti130 := aD (z := (.nilFunc)) (by kernel_rfl) rfl Tryz.underlying130 ⟨_, _, _, rfl⟩ rfl (by decide)
theorem tok131 : TypeOk Tryz.prog 131 ti131 := aD (z := (.nilFunc)) (by kernel_rfl) rfl Tryz.underlying131 ⟨_, _, _, rfl⟩ rfl (by decide)
theorem tok132 : TypeOk Tryz.prog 132 ti132 := aD (z := (.nilFunc)) (by kernel_rfl) rfl Tryz.underlying132 ⟨_, _, _, rfl⟩ rfl (by decide)
theorem tok133 : TypeOk Tryz.prog 133 ti133 := aD (z := (.nilFunc)) (by kernel_rfl) rfl Tryz.underlying133 ⟨_, _, _, rfl⟩ rfl (by decide)
theorem tok134 : TypeOk Tryz.prog 134 ti134 := aD (z := (.nilFunc)) (by kernel_rfl) rfl Tryz.underlying134 ⟨_, _, _, rfl⟩ rfl (by decide)
theorem tok135 : TypeOk Tryz.prog 135 ti135 := aD (z := (.nilFunc)) (by kernel_rfl) rfl Tryz.underlying135 ⟨_, _, _, rfl⟩ rfl (by decide)
theorem tok136 : TypeOk Tryz.prog 136 ti136 := aD (z := (.nilFunc)) (by kernel_rfl) rfl Tryz.underlying136 ⟨_, _, _, rfl⟩ rfl (by decide)
theorem tok137 : TypeOk Tryz.prog 137 ti137 := aD (z := (.nilFunc)) (by kernel_rfl) rfl Tryz.underlying137 ⟨_, _, _, rfl⟩ rfl (by decide)
theorem tok138 : TypeOk Tryz.prog 138 ti138 := aD (z := (.nilFunc)) (by kernel_rfl) rfl Tryz.underlying138 ⟨_, _, _, rfl⟩ rfl (by decide)
theorem tok140 : TypeOk Tryz.prog 140 ti140 := aD (z := (.nilFunc)) (by kernel_rfl) rfl Tryz.underlying140 ⟨_, _, _, rfl⟩ rfl (by decide)
theorem tok141 : TypeOk Tryz.prog 141 ti141 := aD (z := (.nilFunc)) (by kernel_rfl) rfl Tryz.underlying141 ⟨_, _, _, rfl⟩ rfl (by decide)
theorem tok142 : TypeOk Tryz.prog 142 ti142 := aD (z := (.nilFunc)) (by kernel_rfl) rfl Tryz.underlying142 ⟨_, _, _, rfl⟩ rfl (by decide)
theorem tok143 : TypeOk Tryz.prog 143 ti143 := aD (z := (.nilFunc)) (by kernel_rfl) rfl Tryz.underlying143 ⟨_, _, _, rfl⟩ rfl (by decide)
theorem tok144 : TypeOk Tryz.prog 144 ti144 := aD (z := (.nilFunc)) (by kernel_rfl) rfl Tryz.underlying144 ⟨_, _, _, rfl⟩ rfl (by decide)
theorem tok146 : TypeOk Tryz.prog 146 ti146 := aD (z := (.nilFunc)) (by kernel_rfl) rfl Tryz.underlying146 ⟨_, _, _, rfl⟩ rfl (by decide)
theorem tok148 : TypeOk Tryz.prog 148 ti148 := aD (z := (.nilFunc)) (by kernel_rfl) rfl Tryz.underlying148 ⟨_, _, _, rfl⟩ rfl (by decide)
theorem tok149 : TypeOk Tryz.prog 149 ti149 := aD (z := (.nilFunc)) (by kernel_rfl) rfl Tryz.underlying149 ⟨_, _, _, rfl⟩ rfl (by decide)
theorem tok150 : TypeOk Tryz.prog 150 ti150 := aD (z := (.nilFunc)) (by kernel_rfl) rfl Tryz.underlying150 ⟨_, _, _, rfl⟩ rfl (by decide)
theorem tok151 : TypeOk Tryz.prog 151 ti151 := aD (z := (.nilFunc)) (by kernel_rfl) rfl Tryz.underlying151 ⟨_, _, _, rfl⟩ rfl (by decide)
theorem tok152 : TypeOk Tryz.prog 152 ti152 := aD (z := (.nilFunc)) (by kernel_rfl) rfl Tryz.underlying152 ⟨_, _, _, rfl⟩ rfl (by decide)
theorem tok153 : TypeOk Tryz.prog 153 ti153 := aD (z := (.nilFunc)) (by kernel_rfl) rfl Tryz.underlying153 ⟨_, _, _, rfl⟩ rfl (by decide)
theorem tok154 : TypeOk Tryz.prog 154 ti154 := aD (z := (.nilFunc)) (by kernel_rfl) rfl Tryz.underlying154 ⟨_, _, _, rfl⟩ rfl (by decide)
theorem tok155 : TypeOk Tryz.prog 155 ti155 := aD (z := (.nilFunc)) (by kernel_rfl) rfl Tryz.underlying155 ⟨_, _, _, rfl⟩ rfl (by decide)
theorem tok156 : TypeOk Tryz.prog 156 ti156 := aD (z := (.nilFunc)) (by kernel_rfl) rfl Tryz.underlying156 ⟨_, _, _, rfl⟩ rfl (by decide)
theorem tok158 : TypeOk Tryz.prog 158 ti158 := aD (z := (.nilFunc)) (by kernel_rfl) rfl Tryz.underlying158 ⟨_, _, _, rfl⟩ rfl (by decide)
theorem tok159 : TypeOk Tryz.prog 159 ti159 := aD (z := (.int .u64 0)) (by kernel_rfl) rfl Tryz.underlying159 rfl rfl (by decide)
theorem tok160 : TypeOk Tryz.prog 160 ti160 := aD (z := (.int .u32 0)) (by kernel_rfl) rfl Tryz.underlying160 rfl rfl (by decide)
theorem tok161 : TypeOk Tryz.prog 161 ti161 := aD (z := (.int .u64 0)) (by kernel_rfl) rfl Tryz.underlying161 rfl rfl (by decide)
theorem tok163 : TypeOk Tryz.prog 163 ti163 := aD (z := (.nilFunc)) (by kernel_rfl) rfl Tryz.underlying163 ⟨_, _, _, rfl⟩ rfl (by decide)
theorem tok164 : TypeOk Tryz.prog 164 ti164 := aD (z := (.nilFunc)) (by kernel_rfl) rfl Tryz.underlying164 ⟨_, _, _, rfl⟩ rfl (by decide)
theorem tok165 : TypeOk Tryz.prog 165 ti165 := aD (z := (.nilFunc)) (by kernel_rfl) rfl Tryz.underlying165 ⟨_, _, _, rfl⟩ rfl (by decide)
theorem tok166 : TypeOk Tryz.prog 166 ti166 := aD (z := (.nilFunc)) (by kernel_rfl) rfl Tryz.underlying166 ⟨_, _, _, rfl⟩ rfl (by decide)
theorem tok168 : TypeOk Tryz.prog 168 ti168 := aD (z := (.nilFunc)) (by kernel_rfl) rfl Tryz.underlying168 ⟨_, _, _, rfl⟩ rfl (by decide)
theorem tok170 : TypeOk Tryz.prog 170 ti170 := aD (z := (.nilFunc)) (by kernel_rfl) rfl Tryz.underlying170 ⟨_, _, _, rfl⟩ rfl (by decide)
theorem tok172 : TypeOk Tryz.prog 172 ti172 := aD (z := (.nilFunc)) (by kernel_rfl) rfl Tryz.underlying172 ⟨_, _, _, rfl⟩ rfl (by decide)
theorem tok173 : TypeOk Tryz.prog 173 ti173 := aD (z := (.nilFunc)) (by kernel_rfl) rfl Tryz.underlying173 ⟨_, _, _, rfl⟩ rfl (by decide)
theorem tok174 : TypeOk Tryz.prog 174 ti174 := aD (z := (.nilFunc)) (by kernel_rfl) rfl Tryz.underlying174 ⟨_, _, _, rfl⟩ rfl (by decide)
theorem tok176 : TypeOk Tryz.prog 176 ti176 := aD (z := (.nilFunc)) (by kernel_rfl) rfl Tryz.underlying176 ⟨_, _, _, rfl⟩ rfl (by decide)
theorem tok178 : TypeOk Tryz.prog 178 ti178 := aD (z := (.nilFunc)) (by kernel_rfl) rfl Tryz.underlying178 ⟨_, _, _, rfl⟩ rfl (by decide)
theorem tok180 : TypeOk Tryz.prog 180 ti180 := aD (z := (.nilFunc)) (by kernel_rfl) rfl Tryz.underlying180 ⟨_, _, _, rfl⟩ rfl (by decide)
theorem tok181 : TypeOk Tryz.prog 181 ti181 := aD (z := (.nilFunc)) (by kernel_rfl) rfl Tryz.underlying181 ⟨_, _, _, rfl⟩ rfl (by decide)
theorem tok182 : TypeOk Tryz.prog 182 ti182 := aD (z := (.nilFunc)) (by kernel_rfl) rfl Tryz.underlying182 ⟨_, _, _, rfl⟩ rfl (by decide)
theorem tok183 : TypeOk Tryz.prog 183 ti183 := aD (z := (.nilFunc)) (by kernel_rfl) rfl Tryz.underlying183 ⟨_, _, _, rfl⟩ rfl (by decide)
theorem tok184 : TypeOk Tryz.prog 184 ti184 := aD (z := (.nilFunc)) (by kernel_rfl) rfl Tryz.underlying184 ⟨_, _, _, rfl⟩ rfl (by decide)
theorem tok185 : TypeOk Tryz.prog 185 ti185 := aD (z := (.nilFunc)) (by kernel_rfl) rfl Tryz.underlying185 ⟨_, _, _, rfl⟩ rfl (by decide)
theorem tok186 : TypeOk Tryz.prog 186 ti186 := aD (z := (.nilFunc)) (by kernel_rfl) rfl Tryz.underlying186 ⟨_, _, _, rfl⟩ rfl (by decide)
theorem tok187 : TypeOk Tryz.prog 187 ti187 := aD (z := (.nilFunc)) (by kernel_rfl) rfl Tryz.underlying187 ⟨_, _, _, rfl⟩ rfl (by decide)
theorem tok189 : TypeOk Tryz.prog 189 ti189 := aD (z := (.nilFunc)) (by kernel_rfl) rfl Tryz.underlying189 ⟨_, _, _, rfl⟩ rfl (by decide)
theorem tok190 : TypeOk Tryz.prog 190 ti190 := aD (z := (.nilFunc)) (by kernel_rfl) rfl Tryz.underlying190 ⟨_, _, _, rfl⟩ rfl (by decide)
theorem tok191 : TypeOk Tryz.prog 191 ti191 := aD (z := (.nilFunc)) (by kernel_rfl) rfl Tryz.underlying191 ⟨_, _, _, rfl⟩ rfl (by decide)
theorem tok195 : TypeOk Tryz.prog 195 ti195 := aD (z := (.nilFunc)) (by kernel_rfl) rfl Tryz.underlying195 ⟨_, _, _, rfl⟩ rfl (by decide)
theorem tok201 : TypeOk Tryz.prog 201 ti201 := aD (z := (.int .u8 0)) (by kernel_rfl) rfl Tryz.underlying201 rfl rfl (by decide)
theorem tok202 : TypeOk Tryz.prog 202 ti202 := aD (z := (.int .u8 0)) (by kernel_rfl) rfl Tryz.underlying202 rfl rfl (by decide)
theorem tok203 : TypeOk Tryz.prog 203 ti203 := aD (z := (.nilFunc)) (by kernel_rfl) rfl Tryz.underlying203 ⟨_, _, _, rfl⟩ rfl (by decide)
theorem tok205 : TypeOk Tryz.prog 205 ti205 := aD (z := (.int .i32 0)) (by kernel_rfl) rfl Tryz.underlying205 rfl rfl (by decide)
theorem tok206 : TypeOk Tryz.prog 206 ti206 := aD (z := (.int .i32 0)) (by kernel_rfl) rfl Tryz.underlying206 rfl rfl (by decide)
theorem tok209 : TypeOk Tryz.prog 209 ti209 := aD (z := (.agg #[.string ⟨#[]⟩])) (by kernel_rfl) rfl Tryz.underlying209 ⟨_, rfl, rfl⟩ rfl (by decide)
theorem tok210 : TypeOk Tryz.prog 210 ti210 := aD (z := (.agg #[.string ⟨#[]⟩])) (by kernel_rfl) rfl Tryz.underlying210 ⟨_, rfl, rfl⟩ rfl (by decide)
def tbl : List (Nat × TI) := [(1, ti1), (2, ti2), (3, ti3), (4, ti4), (5, ti5), (6, ti6), (7, ti7), (8, ti8), (9, ti9), (10, ti10), (11, ti11), (12, ti12), (13, ti13), (14, ti14), (21, ti21), (22, ti22), (23, ti23), (24, ti24), (25, ti25), (26, ti26), (27, ti27), (28, ti28), (29, ti29), (30, ti30), (31, ti31), (32, ti32), (33, ti33), (34, ti34), (35, ti35), (36, ti36), (37, ti37), (38, ti38), (39, ti39), (40, ti40), (42, ti42), (43, ti43), (45, ti45), (46, ti46), (47, ti47), (48, ti48), (49, ti49), (50, ti50), (51, ti51), (52, ti52), (53, ti53), (54, ti54), (55, ti55), (56, ti56), (57, ti57), (58, ti58), (60, ti60), (61, ti61), (62, ti62), (63, ti63), (64, ti64), (65, ti65), (66, ti66), (67, ti67), (68, ti68), (69, ti69), (70, ti70), (72, ti72), (73, ti73), (74, ti74), (76, ti76), (78, ti78), (79, ti79), (80, ti80), (81, ti81), (82, ti82), (83, ti83), (84, ti84), (85, ti85), (86, ti86), (87, ti87), (88, ti88), (89, ti89), (90, ti90), (92, ti92), (94, ti94), (96, ti96), (97, ti97), (98, ti98), (99, ti99), (100, ti100), (101, ti101), (102, ti102), (103, ti103), (104, ti104), (105, ti105), (106, ti106), (108, ti108), (109, ti109), (110, ti110), (111, ti111), (112, ti112), (113, ti113), (114, ti114), (116, ti116), (117, ti117), (118, ti118), (119, ti119), (120, ti120), (121, ti121), (122, ti122), (123, ti123), (124, ti124), (125, ti125), (126, ti126), (127, ti127), (128, ti128), (129, ti129), (130, ti130), (131, ti131), (132, ti132), (133, ti133), (134, ti134), (135, ti135), (136, ti136), (137, ti137), (138, ti138), (140, ti140), (141, ti141), (142, ti142), (143, ti143), (144, ti144), (146, ti146), (148, ti148), (149, ti149), (150, ti150), (151, ti151), (152, ti152), (153, ti153), (154, ti154), (155, ti155), (156, ti156), (158, ti158), (159, ti159), (160, ti160), (161, ti161), (163, ti163), (164, ti164), (165, ti165), (166, ti166), (168, ti168), (170, ti170), (172, ti172), (173, ti173), (174, ti174), (176, ti176), (178, ti178), (180, ti180), (181, ti181), (182, ti182), (183, ti183), (184, ti184), (185, ti185), (186, ti186), (187, ti187), (189, ti189), (190, ti190), (191, ti191), (195, ti195), (201, ti201), (202, ti202), (203, ti203), (205, ti205), (206, ti206), (209, ti209), (210, ti210)]
def T : TT := getT tbl
theorem typesOk : TypesOk Tryz.prog T := typesOk_of (by simp only [tbl, List.forall_mem_cons]; exact ⟨tok1, tok2, tok3, tok4, tok5, tok6, tok7, tok8, tok9, tok10, tok11, tok12, tok13, tok14, tok21, tok22, tok23, tok24, tok25, tok26, tok27, tok28, tok29, tok30, tok31, tok32, tok33, tok34, tok35, tok36, tok37, tok38, tok39, tok40, tok42, tok43, tok45, tok46, tok47, tok48, tok49, tok50, tok51, tok52, tok53, tok54, tok55, tok56, tok57, tok58, tok60, tok61, tok62, tok63, tok64, tok65, tok66, tok67, tok68, tok69, tok70, tok72, tok73, tok74, tok76, tok78, tok79, tok80, tok81, tok82, tok83, tok84, tok85, tok86, tok87, tok88, tok89, tok90, tok92, tok94, tok96, tok97, tok98, tok99, tok100, tok101, tok102, tok103, tok104, tok105, tok106, tok108, tok109, tok110, tok111, tok112, tok113, tok114, tok116, tok117, tok118, tok119, tok120, tok121, tok122, tok123, tok124, tok125, tok126, tok127, tok128, tok129, tok130, tok131, tok132, tok133, tok134, tok135, tok136, tok137, tok138, tok140, tok141, tok142, tok143, tok144, tok146, tok148, tok149, tok150, tok151, tok152, tok153, tok154, tok155, tok156, tok158, tok159, tok160, tok161, tok163, tok164, tok165, tok166, tok168, tok170, tok172, tok173, tok174, tok176, tok178, tok180, tok181, tok182, tok183, tok184, tok185, tok186, tok187, tok189, tok190, tok191, tok195, tok201, tok202, tok203, tok205, tok206, tok209, tok210, by simp⟩)
end Go.Proofs.YtahljdjhhapngaaGreat
namespace Go.Proofs.YtahljdjhhapngaaGreat
open Go.Ab Go.RowKit
abbrev E0 : TypeId → Bool := fun t => Nat.beq t 26
theorem lT (k : Nat) (ds : List Nat) (hk : k ≤ 2) (hl : ds.length < 4611686018427387904) : Run Tryz.prog T E0 (.call 146 [.sl k (ds.map d32)] (.sl (if k = 0 then 0 else 1) ((trim ds).map d32))) := by
 refine bH Tryz.func146 J J (dL J) <| Rg 1 J <| Ua J J <| Wn <| aL <| bC (α := Nat × (List Nat)) (fun ⟨k1, es⟩ => [(0, .sl k1 (es.map d32))]) (fun ⟨k1, es⟩ => []) (fun ⟨k1, es⟩ n => (k1 = k ∨ k = 2 ∧ k1 = 1) ∧ trim es = trim ds ∧ es.length < 4611686018427387904) (fun ⟨k1, es⟩ => es.length) (k, ds) ⟨J, trivial⟩ trivial ⟨.inl J, rfl, hl⟩ ?_
 rintro ⟨k1, es⟩ n hF
 change WC _ _ _ _ _ (_ :: _) ([]) n _
 obtain ⟨hk1, hds, hel⟩ := hF
 refine aB <| Rg 12 J <| Um J J <| aA (bB J J) J <| aA (dY J J) J <| aY (fun h5 => ?_) (fun h5 => ?_)
 rotate_left
 ·refine Um J J <| K1 J J <| K1 J J <| K1 J J <| K1 J J <| K1 J J <| K1 J J <| K1 J J <| aA (bM J J) J <| Wn <| aV J <| aW <| aT <| aR J <| Rg 2 J <| Um J J <| Ua J J <| Nk [2] J <| aP <| postW (n := 0) (.inr J) J ?_ (by simp)
  have ht : trim es = es := iW om
  rw [← hds, ht]
  rcases hk1 with rfl | ⟨rfl, rfl⟩
  ·have : k1 = 0 ∨ k1 = 1 ∨ k1 = 2 := by omega
   rcases this with rfl | rfl | rfl
   ·exact .same _
   ·exact .same _
   ·exact .two _
  ·exact .same _
 refine Um J J <| aJ J (eW J) J <| aJ J (eW J) J <| aJ J (bB J J) J <| aJ J (bU J J om) J <| aJ J (bQ (j := es.length - 1) J J J J om om J) J <| aJ J (dJ J J J) J <| aJ J (fJ J J) J <| aY (fun h13 => ?_) (fun h13 => ?_)
 ·refine aA (bK J J) J <| Wn <| aS J <| aE <| cA <| aI (z := 6) J <| Um J J <| Um J J <| aA (bB J J) J <| aA (bU J J om) J <| aA (oSlH (j := es.length - 1) J J J iE J om (by simp)) J <| Ua J J <| Wn <| cE <| aF <| ⟨⟨if k1 = 2 then 1 else k1, es.take (es.length - 1)⟩, ⟨congrArg some ?_, trivial⟩, trivial, ⟨?_, ?_, ?_⟩, ?_⟩
  ·have h9 : es.length - 1 < es.length := by omega
   simp [h9]
  ·split <;> omega
  ·rw [pR om om]; exact hds
  ·simp; omega
  ·simp; omega
 refine aA (bK J J) J <| Wn <| aV J <| aW <| aT <| aR J <| Rg 2 J <| Um J J <| Ua J J <| Nk [2] J <| aP <| postW (n := 0) (.inr J) J ?_ (by simp)
 have ht : trim es = es := iW om
 rw [← hds, ht]
 rcases hk1 with rfl | ⟨rfl, rfl⟩
 ·have : k1 = 0 ∨ k1 = 1 ∨ k1 = 2 := by omega
  rcases this with rfl | rfl | rfl
  ·exact .same _
  ·exact .same _
  ·exact .two _
 ·exact .same _
theorem kD (v : Int) : Run Tryz.prog T E0 (.call 114 [lvI v] (.v (.int .i64 v.sign))) := by
 refine bH Tryz.func114 J J (dL J) <| Rg 2 J <| bD (dW J J) J <| Ua J J <| Wn <| aL <| Rg 4 J <| aA (bA J J J J J) J <| aA (aM J J J J J) J <| aA (dY J J) J <| aY (fun h6 => ?_) (fun h6 => ?_)
 ·refine Ua J J <| Wn <| bW J <| Rg 1 J <| Ua J J <| Wn <| aP <| aN <| post (n := 0) (.inr J) J (congrArg (fun z => LV.v (.int .i64 z)) ?_) (by simp)
  exact (Int.sign_eq_one_of_pos ((ia_pos v).1 h6)).symm
 refine Ua J J <| Wn <| bX J <| Rg 4 J <| aA (bA J J J J J) J <| aA (aM J J J J J) J <| aA (bP J J) J <| aY (fun h10 => ?_) (fun h10 => ?_)
 ·refine Ua J J <| Wn <| bW J <| Rg 1 J <| Ua J J <| Wn <| aP <| aN <| post (n := 0) (.inr J) J (congrArg (fun z => LV.v (.int .i64 z)) ?_) (by simp)
  exact (Int.sign_eq_neg_one_of_neg ((ia_neg v).1 h10)).symm
 refine Ua J J <| Wn <| bX J <| cP <| aG <| Rg 1 J <| Ua J J <| Wn <| aP <| post (n := 0) (.inr J) J (congrArg (fun z => LV.v (.int .i64 z)) ?_) (by simp)
 have h1 := ia_pos v
 have h2 := ia_neg v
 have : v = 0 := by omega
 subst this; rfl
theorem rE (v : Int) : Run Tryz.prog T E0 (.call 115 [lvI v] (lvI (-v))) := by
 have hb := pY v
 refine bH Tryz.func115 J J (dL J) <| Rg 2 J <| bD (dW J J) J <| bD (eC J) J <| Wn <| Rg 7 J <| aA (bA J J J J J) J <| aA (aM J J J J J) J <| aA (fL J om) J <| aA (bA J J J J J) J <| aA (aM J J J J J) J <| aA (gA (cs := [_, _]) J J J J J) J <| aZ (cB (cs' := [_, _]) J J J J J J J J) <| Wn <| aP <| post (n := 0) (.inr J) J ?_ (by simp)
 simp only [lvI, ia_negate, ik_negate, idg_negate]; rfl
theorem abs_run (v : Int) : Run Tryz.prog T E0 (.call 130 [lvI v] (lvI v.natAbs)) := by
 refine bH Tryz.func130 J J (dL J) <| Rg 2 J <| bD (dW J J) J <| bD (eC J) J <| Wn <| aB <| Rg 3 J <| aA (bA J J J J J) J <| aA (aM J J J J J) J <| aA (bP J J) J <| aY (fun h5 => ?_) (fun h5 => ?_)
 rotate_left
 ·refine Wn <| aV J <| aE <| Rg 2 J <| aA (aM (l := .agg [_, _]) J J J J J) J <| aZ (cB (cs' := [_, _]) J J J J J J J J) <| Wn <| aP <| post (n := 0) (.inr J) J ?_ (by simp)
  have h1 := ia_neg v
  have : (v.natAbs : Int) = v := by omega
  rw [this]; rfl
 refine Wn <| aS J <| aB <| Rg 3 J <| aA (aM (l := .agg [_, _]) J J J J J) J <| aA (aK J (rE _) (by simp)) J <| aZ (cB (cs' := [_, _]) J J J J J J J J) <| Wn <| aX <| post (n := 0) (.inr J) J ?_ (by simp)
 have h1 := (ia_neg v).1 h5
 have : (v.natAbs : Int) = -v := by omega
 rw [this]; rfl
theorem one_run  : Run Tryz.prog T E0 (.call 131 [] (lvI 1)) := by
 refine bH Tryz.func131 J J (dL J) <| Rg 1 J <| bD (eC J) J <| Wn <| Rg 2 J <| aA (gA (cs := [_, _]) J J J J J) J <| aZ (cB (cs' := [_, _]) J J J J J J J J) <| Wn <| aP ?_
 exact post (n := 0) (.inr J) J J (by simp)
theorem pK (v : Int) (hv : -9223372036854775808 ≤ v ∧ v ≤ 9223372036854775807) : Run Tryz.prog T E0 (.call 95 [.v (.int .i64 v)] (lvI v)) := by
 refine bH Tryz.func95 J J (dL J) <| Rg 1 J <| bD (eC J) J <| Wn <| aB <| Rg 6 J <| Um J J <| aA (dY J J) J <| aY (fun h6 => ?_) (fun h6 => ?_)
 rotate_left
 ·refine Um J J <| K1 J J <| K1 J J <| aA (bM J J) J <| Wn <| aV J <| aE <| Rg 1 J <| Ua J J <| Wn <| Rg 3 J <| Um J J <| aA (cI (v % 18446744073709551616) (cN J J J) (IntKind.wrap_u64 _)) J <| Ua J J <| Wn <| aB <| Rg 2 J <| Um J J <| aA (bP J J) J <| aY (fun h16 => ?_) (fun h16 => ?_)
  rotate_left
  ·refine Wn <| aV J <| aE <| Rg 9 J <| Um J J <| Um J J <| aA (cI (((v.natAbs % 4294967296 : Nat) : Int)) (cN J J J) (by rw [IntKind.wrap_u32]; omega)) J <| Um J J <| aA (cI (((v.natAbs / 4294967296 : Nat) : Int)) (eX (s := 32) J J om) om) J <| aA (cI (((v.natAbs / 4294967296 : Nat) : Int)) (cN J J J) (by rw [IntKind.wrap_u32]; omega)) J <| aA (dA (cs := [_, _]) (rows := [[_], [_]]) J J (by decide) J J J) J <| aA (gA (cs := [_, _]) J J J J J) J <| aZ (cB (cs' := [_, _]) J J J J J J J J) <| Nk [2] J <| aP ?_
   omega
  refine Wn <| aS J <| Rg 4 J <| Um J J <| aA (cI (((v.natAbs : Nat) : Int)) (oNeg J) (by rw [IntKind.wrap_u64]; omega)) J <| Ua J J <| Ua J J <| Nk [2,3,4] J <| Rg 9 J <| Um J J <| Um J J <| aA (cI (((v.natAbs % 4294967296 : Nat) : Int)) (cN J J J) (by rw [IntKind.wrap_u32]; omega)) J <| Um J J <| aA (cI (((v.natAbs / 4294967296 : Nat) : Int)) (eX (s := 32) J J om) om) J <| aA (cI (((v.natAbs / 4294967296 : Nat) : Int)) (cN J J J) (by rw [IntKind.wrap_u32]; omega)) J <| aA (dA (cs := [_, _]) (rows := [[_], [_]]) J J (by decide) J J J) J <| aA (gA (cs := [_, _]) J J J J J) J <| aZ (cB (cs' := [_, _]) J J J J J J J J) <| Wn <| aP <| postW (n := 0) (l := .agg [_, _]) (.inr J) J ?_ (by simp)
  have hns : ¬ small v := by unfold small; omega
  rw [rB hns, Int.sign_eq_neg_one_of_neg h16, ← two_big (m := v.natAbs) om om]
  exact .int _ _
 refine Um J J <| aJ J (eW J) J <| aJ J (bP J J) J <| aY (fun h9 => ?_) (fun h9 => ?_)
 ·refine aA (bK J J) J <| Wn <| aS J <| aB <| Rg 3 J <| Um J J <| aA (gA (cs := [_, _]) J J J J J) J <| aZ (cB (cs' := [_, _]) J J J J J J J J) <| Wn <| aX <| post (n := 0) (.inr J) J ?_ (by simp)
  rw [jX ⟨h6, h9⟩]; rfl
 refine aA (bK J J) J <| Wn <| aV J <| aE <| Rg 1 J <| Ua J J <| Wn <| Rg 3 J <| Um J J <| aA (cI (v % 18446744073709551616) (cN J J J) (IntKind.wrap_u64 _)) J <| Ua J J <| Wn <| aB <| Rg 2 J <| Um J J <| aA (bP J J) J <| aY (fun h16 => ?_) (fun h16 => ?_)
 rotate_left
 ·refine Wn <| aV J <| aE <| Rg 9 J <| Um J J <| Um J J <| aA (cI (((v.natAbs % 4294967296 : Nat) : Int)) (cN J J J) (by rw [IntKind.wrap_u32]; omega)) J <| Um J J <| aA (cI (((v.natAbs / 4294967296 : Nat) : Int)) (eX (s := 32) J J om) om) J <| aA (cI (((v.natAbs / 4294967296 : Nat) : Int)) (cN J J J) (by rw [IntKind.wrap_u32]; omega)) J <| aA (dA (cs := [_, _]) (rows := [[_], [_]]) J J (by decide) J J J) J <| aA (gA (cs := [_, _]) J J J J J) J <| aZ (cB (cs' := [_, _]) J J J J J J J J) <| Nk [2] J <| aP <| postW (n := 0) (l := .agg [_, _]) (.inr J) J ?_ (by simp)
  have hns : ¬ small v := by unfold small; omega
  rw [rB hns, Int.sign_eq_one_of_pos om, ← two_big (m := v.natAbs) om om]
  exact .int _ _
 refine Wn <| aS J <| Rg 4 J <| Um J J <| aA (cI (((v.natAbs : Nat) : Int)) (oNeg J) (by rw [IntKind.wrap_u64]; omega)) J <| Ua J J <| Ua J J <| Nk [2,3,4] J <| Rg 9 J <| Um J J <| Um J J <| aA (cI (((v.natAbs % 4294967296 : Nat) : Int)) (cN J J J) (by rw [IntKind.wrap_u32]; omega)) J <| Um J J <| aA (cI (((v.natAbs / 4294967296 : Nat) : Int)) (eX (s := 32) J J om) om) J <| aA (cI (((v.natAbs / 4294967296 : Nat) : Int)) (cN J J J) (by rw [IntKind.wrap_u32]; omega)) J <| aA (dA (cs := [_, _]) (rows := [[_], [_]]) J J (by decide) J J J) J <| aA (gA (cs := [_, _]) J J J J J) J <| aZ (cB (cs' := [_, _]) J J J J J J J J) <| Wn <| aP <| postW (n := 0) (l := .agg [_, _]) (.inr J) J ?_ (by simp)
 have hns : ¬ small v := by unfold small; omega
 rw [rB hns, Int.sign_eq_neg_one_of_neg h16, ← two_big (m := v.natAbs) om om]
 exact .int _ _
theorem qY (v b : Int) (hb : 0 ≤ b ∧ b < 4611686018427387904) : Run Tryz.prog T E0 (.call 111 [lvI v, .v (.int .i64 b)] (.tup [.v (.int .i64 (if -b ≤ v ∧ v ≤ b then v else 0)), .v (.bool (decide (-b ≤ v ∧ v ≤ b)))])) := by
 refine bH Tryz.func111 J J (dL J) <| Rg 3 J <| bD (dW J J) J <| Ua J J <| Ua J J <| Wn <| aB <| Rg 16 J <| aA (bA J J J J J) J <| aA (aM J J J J J) J <| aA (oNilN J J) J <| eK (fun h8 => ?_) (fun h8 => ?_)
 ·refine Um J J <| K1 J J <| K1 J J <| K1 J J <| K1 J J <| aA (bK J J) J <| Um J J <| K1 J J <| K1 J J <| K1 J J <| K1 J J <| K1 J J <| aA (bK J J) J <| Nk [2,21] J <| aS J <| aB <| Rg 2 J <| Ua J J <| Ua J J <| Wn <| aX <| post (n := 0) (.inr J) J ?_ (by simp)
  have hs := ik_eq'.1 h8
  have hn : ¬ (-b ≤ v ∧ v ≤ b) := by unfold small at hs; omega
  rw [if_neg hn, decide_eq_false hn]; rfl
 refine Um J J <| aJ J (bA J J J J J) J <| aJ J (aM J J J J J) J <| aJ J (eW J) J <| aJ J (dY J J) J <| aY (fun h13 => ?_) (fun h13 => ?_)
 ·refine aA (bM J J) J <| Um J J <| K1 J J <| K1 J J <| K1 J J <| K1 J J <| K1 J J <| aA (bK J J) J <| Nk [2,21] J <| aS J <| aB <| Rg 2 J <| Ua J J <| Ua J J <| Wn <| aX <| post (n := 0) (.inr J) J ?_ (by simp)
  have hs := dO (ik_ne'.1 h8)
  have hn : ¬ (-b ≤ v ∧ v ≤ b) := by omega
  rw [if_neg hn, decide_eq_false hn]; rfl
 refine aA (bM J J) J <| Um J J <| aJ J (bA J J J J J) J <| aJ J (aM J J J J J) J <| aJ J (eW J) J <| aJ J (fL J om) J <| aJ J (bP J J) J <| aY (fun h20 => ?_) (fun h20 => ?_)
 ·refine aA (bM J J) J <| Nk [2,21] J <| aS J <| aB <| Rg 2 J <| Ua J J <| Ua J J <| Wn <| aX <| post (n := 0) (.inr J) J ?_ (by simp)
  have hs := dO (ik_ne'.1 h8)
  have hn : ¬ (-b ≤ v ∧ v ≤ b) := by omega
  rw [if_neg hn, decide_eq_false hn]; rfl
 refine aA (bM J J) J <| Nk [2,21] J <| aV J <| aE <| Rg 4 J <| aA (bA J J J J J) J <| aA (aM J J J J J) J <| Ua J J <| Ua J J <| Wn <| aP <| post (n := 0) (.inr J) J ?_ (by simp)
 have hs := dO (ik_ne'.1 h8)
 have hn : -b ≤ v ∧ v ≤ b := by omega
 rw [if_pos hn, decide_eq_true hn]
 exact congrArg (fun z => LV.tup [.v (.int .i64 z), .v (.bool true)]) hs
theorem fG (v : Int) : Run Tryz.prog T E0 (.call 133 [lvI v] (.tup [.v (.int .i64 v.sign), .sl 1 ((dgs B32 v.natAbs).map d32)])) := by
 have hb := pY v
 refine bH Tryz.func133 J J (dL J) <| Rg 3 J <| bD (dW J J) J <| Ua J J <| Ua J J <| Wn <| aB <| Rg 3 J <| aA (bA J J J J J) J <| aA (aM J J J J J) J <| aA (oNilN J J) J <| eK (fun h8 => ?_) (fun h8 => ?_)
 ·refine Wn <| aS J <| aB <| bL (z := 6) J kR <| aC (bA J J J J J) J <| aC (aM J J J J J) J <| aC (bA J J J J J) J <| aC (aM J J J J J) J <| aC (jJ J) J <| aC (jJ J) J <| bE (aQ kR) J <| aX <| post (n := 0) (.inr J) J ?_ (by simp)
  have hs := ik_eq'.1 h8
  rw [pB hs, ik_big hs, idg_big hs]; rfl
 have hs := ik_ne'.1 h8
 have hia := dO hs
 refine Wn <| aV J <| aE <| Rg 2 J <| Ua J J <| Ua J J <| Wn <| aL <| Rg 4 J <| aA (bA J J J J J) J <| aA (aM J J J J J) J <| aA (dY J J) J <| aY (fun h16 => ?_) (fun h16 => ?_)
 ·refine Ua J J <| Wn <| bW J <| dF (z := 5) J kR <| aC (bA J J J J J) J <| aC (aM J J J J J) J <| aC (cI (((v.natAbs : Nat) : Int)) (cN J J J) (by rw [IntKind.wrap_u64]; omega)) J <| aC (jJ J) J <| aC (jJ J) J <| bE (aQ kR) J <| aG <| Ck [4,5] J <| Rg 10 J <| Um J J <| Um J J <| aA (cI (((v.natAbs % 4294967296 : Nat) : Int)) (cN J J J) (by rw [IntKind.wrap_u32]; omega)) J <| Um J J <| aA (cI (((v.natAbs / 4294967296 : Nat) : Int)) (eX (s := 32) J J om) om) J <| aA (cI (((v.natAbs / 4294967296 : Nat) : Int)) (cN J J J) (by rw [IntKind.wrap_u32]; omega)) J <| aA (dA (cs := [_, _]) (rows := [[_], [_]]) J J (by decide) J J J) J <| aA (aK J (lT 2 [v.natAbs % 4294967296, v.natAbs / 4294967296] om (by simp)) (by simp)) J <| Ua J J <| Ua J J <| cQ ?_
  refine aP <| post (n := 0) (.inr J) J ?_ (by simp)
  rw [← two_dg (m := v.natAbs) om, Int.sign_eq_one_of_pos om]; rfl
 refine Ua J J <| Wn <| bX J <| Rg 4 J <| aA (bA J J J J J) J <| aA (aM J J J J J) J <| aA (bP J J) J <| aY (fun h23 => ?_) (fun h23 => ?_)
 rotate_left
 ·refine Ua J J <| Nk [1,4,5,20] J <| bX J <| cP <| aG <| Rg 10 J <| Um J J <| Um J J <| aA (cI (((v.natAbs % 4294967296 : Nat) : Int)) (cN J J J) (by rw [IntKind.wrap_u32]; omega)) J <| Um J J <| aA (cI (((v.natAbs / 4294967296 : Nat) : Int)) (eX (s := 32) J J om) om) J <| aA (cI (((v.natAbs / 4294967296 : Nat) : Int)) (cN J J J) (by rw [IntKind.wrap_u32]; omega)) J <| aA (dA (cs := [_, _]) (rows := [[_], [_]]) J J (by decide) J J J) J <| aA (aK J (lT 2 [v.natAbs % 4294967296, v.natAbs / 4294967296] om (by simp)) (by simp)) J <| Ua J J <| Ua J J <| Wn <| aP <| post (n := 0) (.inr J) J ?_ (by simp)
  have h0 : v = 0 := by omega
  rw [← two_dg (m := v.natAbs) om]
  subst h0; rfl
 refine Ua J J <| Nk [1,4,5,20] J <| bW J <| dF (z := 6) J kR <| aC (bA J J J J J) J <| aC (aM J J J J J) J <| aC (fL J om) J <| aC (cI (((v.natAbs : Nat) : Int)) (cN J J J) (by rw [IntKind.wrap_u64]; omega)) J <| aC (jJ J) J <| aC (jJ J) J <| bE (aQ kR) J <| aG <| Rg 10 J <| Um J J <| Um J J <| aA (cI (((v.natAbs % 4294967296 : Nat) : Int)) (cN J J J) (by rw [IntKind.wrap_u32]; omega)) J <| Um J J <| aA (cI (((v.natAbs / 4294967296 : Nat) : Int)) (eX (s := 32) J J om) om) J <| aA (cI (((v.natAbs / 4294967296 : Nat) : Int)) (cN J J J) (by rw [IntKind.wrap_u32]; omega)) J <| aA (dA (cs := [_, _]) (rows := [[_], [_]]) J J (by decide) J J J) J <| aA (aK J (lT 2 [v.natAbs % 4294967296, v.natAbs / 4294967296] om (by simp)) (by simp)) J <| Ua J J <| Ua J J ?_
 refine Nk [2,3] J <| aP <| post (n := 0) (.inr J) J ?_ (by simp)
 rw [← two_dg (m := v.natAbs) om, Int.sign_eq_neg_one_of_neg om]; rfl
theorem jV (x y c : Nat) (hx : x < 4294967296) (hy : y < 4294967296) (hc : c ≤ 1) : Run Tryz.prog T E0 (.call 150 [.v (.int .u32 (x : Int)), .v (.int .u32 (y : Int)), .v (.int .u32 (c : Int))] (.tup [.v (.int .u32 (((x + y + c) % 4294967296 : Nat) : Int)), .v (.int .u32 (((x + y + c) / 4294967296 : Nat) : Int))])) := by
 refine bH Tryz.func150 J J (dL J) <| Rg 2 J <| Ua J J <| Ua J J <| Wn <| Rg 9 J <| Um J J <| aA (cI ((x : Int)) (cN J J J) (by rw [IntKind.wrap_u64]; omega)) J <| Um J J <| aA (cI ((y : Int)) (cN J J J) (by rw [IntKind.wrap_u64]; omega)) J <| aA (cI (((x + y : Nat) : Int)) (jZ J J) om) J <| Um J J <| aA (cI ((c : Int)) (cN J J J) (by rw [IntKind.wrap_u64]; omega)) J <| aA (cI (((x + y + c : Nat) : Int)) (jZ J J) om) J <| Ua J J <| Wn <| Rg 3 J <| Um J J <| aA (cI ((((x + y + c) % 4294967296 : Nat) : Int)) (cN J J J) (by rw [IntKind.wrap_u32]; omega)) J <| Ua J J <| Nk [6,8] J <| Rg 4 J <| Um J J ?_
 refine aA (cI ((((x + y + c) / 4294967296 : Nat) : Int)) (eX (s := 32) J J om) om) J <| aA (cI ((((x + y + c) / 4294967296 : Nat) : Int)) (cN J J J) (by rw [IntKind.wrap_u32]; omega)) J <| Ua J J <| Wn <| aP ?_
 exact post (n := 0) (.inr J) J J (by simp)
theorem lH (k1 k2 : Nat) (xs ys : List Nat) (hx : Dg B32 xs) (hy : Dg B32 ys) (tx : Trm xs) (ty : Trm ys) (lx : xs.length < 4611686018427387904) (ly : ys.length < 4611686018427387904) : Run Tryz.prog T E0 (.call 135 [.sl k1 (xs.map d32), .sl k2 (ys.map d32)] (.v (.int .i64 ((val B32 xs : Int) - val B32 ys).sign))) := by
 refine bH Tryz.func135 J J (dL J) <| Rg 1 J <| Ua J J <| Wn <| aB <| Rg 5 J <| Um J J <| aA (bB J J) J <| Um J J <| aA (bB J J) J <| aA (fV J J) J <| aY (fun h10 => ?_) (fun h10 => ?_)
 ·refine Wn <| aS J <| aB <| aB <| Rg 5 J <| Um J J <| aA (bB J J) J <| Um J J <| aA (bB J J) J <| aA (bP J J) J <| aY (fun h15 => ?_) (fun h15 => ?_)
  ·refine Wn <| aS J <| aB <| Rg 1 J <| Ua J J <| Wn <| aX <| post (n := 0) (.inr J) J (congrArg (fun z => LV.v (.int .i64 z)) ?_) (by simp)
   have := dU (B := B32) (by decide) hx ty om
   exact (Int.sign_eq_neg_one_of_neg om).symm
  refine Wn <| aV J <| aE <| aB <| Rg 1 J <| Ua J J <| Wn <| aX <| post (n := 0) (.inr J) J (congrArg (fun z => LV.v (.int .i64 z)) ?_) (by simp)
  have := dU (B := B32) (by decide) hy tx om
  exact (Int.sign_eq_one_of_pos om).symm
 have hlen : xs.length = ys.length := by omega
 refine Wn <| aV J <| aE <| aB <| Rg 4 J <| Um J J <| aA (bB J J) J <| aA (bU J J om) J <| Ua J J <| Wn <| aL <| bC (α := Nat) (fun k => [(0, .sl k1 (xs.map d32)), (1, .sl k2 (ys.map d32)), (5, .v (.int .i64 ((k : Int) - 1)))]) (fun k => []) (fun k n => k ≤ xs.length ∧ xs.drop k = ys.drop k) (fun k => k) (xs.length) ⟨J, J, J, trivial⟩ trivial ⟨Nat.le_refl _, by rw [List.drop_length, hlen, List.drop_length]⟩ ?_
 rintro k n hF
 change WC _ _ _ _ _ (_ :: _) ([]) n _
 obtain ⟨hk, hd⟩ := hF
 refine aB <| Rg 2 J <| Um J J <| aA (iH J J) J <| aY (fun h20 => ?_) (fun h20 => ?_)
 rotate_left
 ·refine Wn <| aV J <| aW <| aT <| aR J <| Rg 1 J <| Ua J J <| Wn <| aP <| post (n := 0) (.inr J) J (congrArg (fun z => LV.v (.int .i64 z)) ?_) (by simp)
  have h0 : k = 0 := by omega
  subst h0
  simp only [List.drop_zero] at hd
  subst hd
  simp
 refine Wn <| aS J <| aE <| aL <| bL (z := 9) J kR <| Dm J J <| Dm J J <| aC (bQ (j := k - 1) J J J J om om J) J <| aC (dJ J J J) J <| Dm J J <| Dm J J <| aC (bQ (j := k - 1) J J J J om om J) J <| aC (dJ J J J) J <| aC (fV J J) J <| mQ (fun h31 => ?_) (fun h31 => ?_)
 rotate_left
 ·refine bE (aQ kR) J <| bX J <| cP <| aG <| aI (z := 3) J <| Um J J <| aA (cI (((k - 1 : Nat) : Int) - 1) (bU J J om) om) J <| Ua J J <| Wn <| aF ?_
  have hj : k - 1 + 1 = k := by omega
  refine ⟨k - 1, ⟨J, J, J, trivial⟩, trivial, ⟨om, ?_⟩, by show k - 1 < k; omega⟩
  rw [bO (by omega : k - 1 < xs.length), bO (by omega : k - 1 < ys.length), hj, hd]
  congr 1; omega
 refine bE (aQ kR) J <| bW J <| aB <| bL (z := 9) J kR <| Dm J J <| Dm J J <| aC (bQ (j := k - 1) J J J J om om J) J <| aC (dJ J J J) J <| Dm J J <| Dm J J <| aC (bQ (j := k - 1) J J J J om om J) J <| aC (dJ J J J) J <| aC (bP J J) J <| mQ (fun h40 => ?_) (fun h40 => ?_)
 ·refine bE (aQ kR) J <| Ck [40] J <| aS J <| aB <| Rg 1 J <| Ua J J <| Wn <| aX <| aN <| bJ <| aN <| post (n := 0) (.inr J) J (congrArg (fun z => LV.v (.int .i64 z)) ?_) (by simp)
  have hj : k - 1 + 1 = k := by omega
  have := mO (B := B32) (ys := ys) (by decide) hx (k := k - 1) om om (by rw [hj]; exact hd) om
  exact (Int.sign_eq_neg_one_of_neg om).symm
 refine bE (aQ kR) J <| Ck [40] J <| aV J <| aE <| Rg 1 J <| Ua J J <| Wn <| aP <| aN <| bJ <| aN <| post (n := 0) (.inr J) J (congrArg (fun z => LV.v (.int .i64 z)) ?_) (by simp)
 have hj : k - 1 + 1 = k := by omega
 have := mO (B := B32) (ys := xs) (by decide) hy (k := k - 1) om om (by rw [hj]; exact hd.symm) om
 exact (Int.sign_eq_one_of_pos om).symm
end Go.Proofs.YtahljdjhhapngaaGreat
namespace Go.Proofs.YtahljdjhhapngaaGreat
open Go.Ab Go.RowKit
theorem sub32_run (x y c : Nat) (hx : x < 4294967296) (hy : y < 4294967296) (hc : c ≤ 1) : Run Tryz.prog T E0 (.call 151 [.v (.int .u32 (x : Int)), .v (.int .u32 (y : Int)), .v (.int .u32 (c : Int))] (.tup [.v (.int .u32 ((((x + 8589934592 - y - c) % 4294967296) : Nat) : Int)), .v (.int .u32 ((if x < y + c then 1 else 0 : Nat) : Int))])) := by
 have hxy : x ^^^ y < 4294967296 := Nat.xor_lt_two_pow (n := 32) hx hy
 refine bH Tryz.func151 J J (dL J) <| Rg 2 J <| Ua J J <| Ua J J <| Wn <| Rg 6 J <| Um J J <| Um J J <| aA (oSub32 J J) J <| Um J J <| aA (cI (((((x + 8589934592 - y - c) % 4294967296) : Nat) : Int)) (oSub32 J J) om) J <| Ua J J <| Wn <| Rg 13 J <| Um J J <| aA (oCom32 (a := x) J hx) J <| Um J J <| aA (fW (v := .int .u32 (((4294967295 - x) &&& y : Nat) : Int)) J J (and32 om hy)) J <| Um J J <| Um J J <| aA (fW (v := .int .u32 ((x ^^^ y : Nat) : Int)) J J (xor32 hx hy)) J <| aA (oCom32 (a := x ^^^ y) J hxy) J <| Um J J <| aA (fW (v := .int .u32 (((4294967295 - (x ^^^ y)) &&& ((x + 8589934592 - y - c) % 4294967296) : Nat) : Int)) J J (and32 om om)) J ?_
 refine aA (fW (v := .int .u32 ((((4294967295 - x) &&& y) ||| ((4294967295 - (x ^^^ y)) &&& ((x + 8589934592 - y - c) % 4294967296)) : Nat) : Int)) J J (or32 (Nat.lt_of_le_of_lt Nat.and_le_right hy) (Nat.lt_of_le_of_lt Nat.and_le_left om))) J <| aA (cI (((if x < y + c then 1 else 0 : Nat) : Int)) (oShr32 (s := 31) J J om) (by rw [← borrow hx hy hc (d := ((x + 8589934592 - y - c) % 4294967296)) om]; rfl)) J <| Ua J J <| Nk [6,7] J <| aP ?_
 exact post (n := 0) (.inr J) J J (by simp)
theorem plus_run (k1 k2 : Nat) (xs ys : List Nat) (hx : Dg B32 xs) (hy : Dg B32 ys) (lx : xs.length < 1099511627776) (ly : ys.length < 1099511627776) : ∃ r, Run Tryz.prog T E0 (.call 141 [.sl k1 (xs.map d32), .sl k2 (ys.map d32)] r) ∧ ∃ ds, r = .sl 1 (ds.map d32) ∧ Dg B32 ds ∧ val B32 ds = val B32 xs + val B32 ys ∧ ds.length ≤ max xs.length ys.length + 1 := by
 refine eU Tryz.func141 J J (dL J) ?_
 have J3 : ∀ (k1 k2 : Nat) (us ws : List Nat) (hu : Dg B32 us) (hw : Dg B32 ws) (hle : ws.length ≤ us.length) (hm : us.length ≤ max xs.length ys.length) (hs : val B32 us + val B32 ws = val B32 xs + val B32 ys) (n : Nat) , WC Tryz.prog T E0 Tryz.f141.ntmps (codeR (codeR (codeOf Tryz.f141))) [(0, .sl k1 (us.map d32)), (1, .sl k2 (ws.map d32))] [] n (fun x e h n => ∃ r, (∃ ds, r = .sl 1 (ds.map d32) ∧ Dg B32 ds ∧ val B32 ds = val B32 xs + val B32 ys ∧ ds.length ≤ max xs.length ys.length + 1) ∧ Post T Tryz.f141.results.toList r x e h n) := by
  intro k1 k2 us ws hu hw hle hm hs n
  refine Rg 5 J <| Um J J <| aA (bB J J) J <| aA (aU J J om) J <| bD (oMk (a := 0) (b := us.length + 1) J J J J J J (by decide) om (by show 4 * (us.length + 1) ≤ _; omega) om) J <| Ua J J <| Wn <| Rg 1 J <| Ua J J <| Wn <| aB <| Rg 3 J <| Um J J <| aA (bB J J) J <| Um J J <| Wn <| aL <| bC (α := Nat × Nat × (List Nat)) (fun ⟨c, q, ds⟩ => [(0, .sl k1 (us.map d32)), (1, .sl k2 (ws.map d32)), (5, .ref q 1 0 ds.length), (6, .v (.int .u32 (c : Int))), (22, .v (.int .i64 (us.length : Int))), (23, .v (.int .i64 (ds.length : Int)))]) (fun ⟨c, q, ds⟩ => [(q, { cells := (ds.map d32).flatten, sz := 1, elem := 160, st := 0 })]) (fun ⟨c, q, ds⟩ n => ds.length ≤ us.length ∧ Dg B32 ds ∧ c ≤ 1 ∧ val B32 ds + B32 ^ ds.length * c = val B32 (us.take ds.length) + val B32 (ws.take ds.length)) (fun ⟨c, q, ds⟩ => us.length - ds.length) (0, n + 3, []) ⟨J, J, J, J, J, J, trivial⟩ ⟨g0, trivial⟩ ⟨Nat.zero_le _, by intro d hd; simp at hd, om, by simp [val]⟩ ?_
  rintro ⟨c, q, ds⟩ n hF
  change WC _ _ _ _ _ (_ :: _) (_ :: _) n _
  obtain ⟨hdl, hdd, hc, hi⟩ := hF
  refine Rg 1 J <| aA (bP J J) J <| aY (fun h24 => ?_) (fun h24 => ?_)
  rotate_left
  ·refine Wn <| aV J <| aW <| aT <| aR J <| Rg 5 J <| Um J J <| Um J J <| aA (dA (cs := [_]) (rows := [[_]]) J J (by decide) J J J) J <| bD (oApM (f := d32) J J J J J (fun _ => rfl) (by decide) g0 (by show (2 * (ds.length + 1) + 256) * 4 ≤ _; omega) om) J <| Ua J J <| Wn <| aP <| ⟨.sl 1 ((ds ++ [c]).map d32), ⟨_, rfl, hdd.snoc (by show c < 4294967296; omega), ?_, by simp; omega⟩, rH (n := 0) _ (.inr J) J (by simp) g0 (by show (0 : Nat) ≠ 2; decide) J (by decide) J iE eA⟩
   have hl : ds.length = us.length := by omega
   rw [eY, hi, List.take_of_length_le om, List.take_of_length_le om, hs]
  refine Wn <| aS J <| aE <| aL <| Rg 2 J <| Um J J <| Ua J J <| Wn <| Rg 1 J <| Ua J J <| Wn <| aB <| Rg 4 J <| Um J J <| Um J J <| aA (bB J J) J <| aA (bP J J) J <| aY (fun h29 => ?_) (fun h29 => ?_)
  rotate_left
  ·refine Wn <| aV J <| aE <| Rg 1 J <| Ua J J <| Nk [0,1,5,6,7,8,22,23] J ?_
   have hxl : us.getD ds.length default < 4294967296 := bF hu om
   refine Rg 12 J <| Um J J <| Um J J <| aA (bQ J J J J J om J) J <| aA (dJ J J J) J <| Um J J <| Um J J <| aA (aK J (jV (us.getD ds.length default) 0 c hxl (by decide) hc) (by simp)) J <| Um J J <| aA (dX J J) J <| aA (dX J J) J <| Ua J J <| Ua J J <| Nk [0,1,5,6,9,22,23] J <| aI (z := 5) J <| Um J J <| Um J J <| aA (dA (cs := [_]) (rows := [[_]]) J J (by decide) J J J) J <| bD (oApM (f := d32) J J J J J (fun _ => rfl) (by decide) g0 (by show (2 * (ds.length + 1) + 256) * 4 ≤ _; omega) om) J <| Ua J J <| Wn <| aG <| aI (z := 2) J ?_
   refine aA (cI (((ds.length + 1 : Nat) : Int)) (aU J J om) om) J <| Um J J <| Wn <| aF <| ⟨⟨_, _, ds ++ [_]⟩, ⟨rfl, rfl, rfl, rfl, rfl, congrArg some (by simp), trivial⟩, ⟨g0, trivial⟩, ⟨by simp; omega, hdd.snoc (Nat.mod_lt _ (by decide)), om, pM hi J (dK om).symm⟩, by simp; omega⟩
  refine Wn <| aS J <| Rg 5 J <| Um J J <| Um J J <| aA (bQ J J J J J om J) J <| aA (dJ J J J) J <| Ua J J <| Nk [0,1,5,6,7,8,22,23] J <| Rg 1 J <| Ua J J <| cQ ?_
  have hxl : us.getD ds.length default < 4294967296 := bF hu om
  have hyl : ws.getD ds.length default < 4294967296 := bF hw om
  refine Rg 12 J <| Um J J <| Um J J <| aA (bQ J J J J J om J) J <| aA (dJ J J J) J <| Um J J <| Um J J <| aA (aK J (jV (us.getD ds.length default) (ws.getD ds.length default) c hxl hyl hc) (by simp)) J <| Um J J <| aA (dX J J) J <| aA (dX J J) J <| Ua J J <| Ua J J <| Nk [0,1,5,6,9,22,23] J <| aI (z := 5) J <| Um J J <| Um J J <| aA (dA (cs := [_]) (rows := [[_]]) J J (by decide) J J J) J <| bD (oApM (f := d32) J J J J J (fun _ => rfl) (by decide) g0 (by show (2 * (ds.length + 1) + 256) * 4 ≤ _; omega) om) J <| Ua J J <| Wn <| aG <| aI (z := 2) J ?_
  refine aA (cI (((ds.length + 1 : Nat) : Int)) (aU J J om) om) J <| Um J J <| Wn <| aF <| ⟨⟨_, _, ds ++ [_]⟩, ⟨rfl, rfl, rfl, rfl, rfl, congrArg some (by simp), trivial⟩, ⟨g0, trivial⟩, ⟨by simp; omega, hdd.snoc (Nat.mod_lt _ (by decide)), om, pM hi J J⟩, by simp; omega⟩
 refine Rg 1 J <| Ua J J <| Wn <| aB <| Rg 5 J <| Um J J <| aA (bB J J) J <| Um J J <| aA (bB J J) J <| aA (bP J J) J <| aY (fun h14 => ?_) (fun h14 => ?_)
 rotate_left
 ·refine Wn <| aV J <| aE <| Ck [0,1] J ?_
  exact J3 _ _ xs ys hx hy om om J _
 refine Wn <| aS J <| Rg 4 J <| Um J J <| Um J J <| Ua J J <| Ua J J <| Nk [0,1] J ?_
 exact J3 _ _ ys xs hy hx om om om _
theorem mB (k1 k2 : Nat) (xs ys : List Nat) (hx : Dg B32 xs) (hy : Dg B32 ys) (lx : xs.length < 1099511627776) (hle : ys.length ≤ xs.length) (hv : val B32 ys ≤ val B32 xs) : ∃ r, Run Tryz.prog T E0 (.call 142 [.sl k1 (xs.map d32), .sl k2 (ys.map d32)] r) ∧ ∃ ds, r = .sl 1 (ds.map d32) ∧ Dg B32 ds ∧ val B32 ds = val B32 xs - val B32 ys ∧ ds.length = xs.length := by
 refine eU Tryz.func142 J J (dL J) <| Rg 1 J <| Ua J J <| Wn <| Rg 4 J <| Um J J <| aA (bB J J) J <| bD (oMk (a := 0) (b := xs.length) J J J J J J (by decide) om (by show 4 * xs.length ≤ _; omega) om) J <| Ua J J <| Wn <| Rg 1 J <| Ua J J <| Wn <| aB <| Rg 3 J <| Um J J <| aA (bB J J) J <| Um J J <| Wn <| aL <| bC (α := Nat × Nat × (List Nat)) (fun ⟨c, q, ds⟩ => [(0, .sl k1 (xs.map d32)), (1, .sl k2 (ys.map d32)), (5, .ref q 1 0 ds.length), (6, .v (.int .u32 (c : Int))), (14, .v (.int .i64 (xs.length : Int))), (15, .v (.int .i64 (ds.length : Int)))]) (fun ⟨c, q, ds⟩ => [(q, { cells := (ds.map d32).flatten, sz := 1, elem := 160, st := 0 })]) (fun ⟨c, q, ds⟩ n => ds.length ≤ xs.length ∧ Dg B32 ds ∧ c ≤ 1 ∧ val B32 (xs.take ds.length) + B32 ^ ds.length * c = val B32 ds + val B32 (ys.take ds.length)) (fun ⟨c, q, ds⟩ => xs.length - ds.length) (0, 0 + 1 + 2, []) ⟨J, J, J, J, J, J, trivial⟩ ⟨g0, trivial⟩ ⟨Nat.zero_le _, by intro d hd; simp at hd, om, by simp [val]⟩ ?_
 rintro ⟨c, q, ds⟩ n hF
 change WC _ _ _ _ _ (_ :: _) (_ :: _) n _
 obtain ⟨hdl, hdd, hc, hi⟩ := hF
 refine Rg 1 J <| aA (bP J J) J <| aY (fun h16 => ?_) (fun h16 => ?_)
 rotate_left
 ·refine Wn <| aV J <| aW <| aT <| aR J <| Rg 2 J <| Um J J <| Ua J J <| Wn <| aP <| ⟨.sl 1 (ds.map d32), ⟨_, rfl, hdd, ?_, om⟩, rH (n := 0) _ (.inr J) J (by simp) g0 (by show (0 : Nat) ≠ 2; decide) J (by decide) J iE eA⟩
  have hl : ds.length = xs.length := by omega
  rw [List.take_of_length_le om, List.take_of_length_le om] at hi
  have hlt := dT (B := B32) (by decide) hdd
  rcases (show c = 0 ∨ c = 1 by omega) with rfl | rfl
  ·omega
  ·omega
 refine Wn <| aS J <| aE <| aL <| Rg 2 J <| Um J J <| Ua J J <| Wn <| Rg 1 J <| Ua J J <| Wn <| aB <| Rg 4 J <| Um J J <| Um J J <| aA (bB J J) J <| aA (bP J J) J <| aY (fun h21 => ?_) (fun h21 => ?_)
 rotate_left
 ·refine Wn <| aV J <| aE <| Rg 1 J <| Ua J J <| Nk [0,1,5,6,7,8,14,15] J ?_
  have hxl : xs.getD ds.length default < 4294967296 := bF hx om
  refine Rg 12 J <| Um J J <| Um J J <| aA (bQ J J J J J om J) J <| aA (dJ J J J) J <| Um J J <| Um J J <| aA (aK J (sub32_run (xs.getD ds.length default) 0 c hxl (by decide) hc) (by simp)) J <| Um J J <| aA (dX J J) J <| aA (dX J J) J <| Ua J J <| Ua J J <| Nk [0,1,5,6,9,14,15] J <| aI (z := 5) J <| Um J J <| Um J J <| aA (dA (cs := [_]) (rows := [[_]]) J J (by decide) J J J) J <| bD (oApM (f := d32) J J J J J (fun _ => rfl) (by decide) g0 (by show (2 * (ds.length + 1) + 256) * 4 ≤ _; omega) om) J <| Ua J J <| Wn <| aG <| aI (z := 2) J ?_
  refine aA (cI (((ds.length + 1 : Nat) : Int)) (aU J J om) om) J <| Um J J <| Wn <| aF <| ⟨⟨_, _, ds ++ [_]⟩, ⟨rfl, rfl, rfl, rfl, rfl, congrArg some (by simp), trivial⟩, ⟨g0, trivial⟩, ⟨by simp; omega, hdd.snoc (Nat.mod_lt _ (by decide)), by split <;> omega, kU hi J (dK om).symm (by show _ = _ + 4294967296 * _; split <;> omega)⟩, by simp; omega⟩
 refine Wn <| aS J <| Rg 5 J <| Um J J <| Um J J <| aA (bQ J J J J J om J) J <| aA (dJ J J J) J <| Ua J J <| Nk [0,1,5,6,7,8,14,15] J <| Rg 1 J <| Ua J J <| cQ ?_
 have hxl : xs.getD ds.length default < 4294967296 := bF hx om
 have hyl : ys.getD ds.length default < 4294967296 := bF hy om
 refine Rg 12 J <| Um J J <| Um J J <| aA (bQ J J J J J om J) J <| aA (dJ J J J) J <| Um J J <| Um J J <| aA (aK J (sub32_run (xs.getD ds.length default) (ys.getD ds.length default) c hxl hyl hc) (by simp)) J <| Um J J <| aA (dX J J) J <| aA (dX J J) J <| Ua J J <| Ua J J <| Nk [0,1,5,6,9,14,15] J <| aI (z := 5) J <| Um J J <| Um J J <| aA (dA (cs := [_]) (rows := [[_]]) J J (by decide) J J J) J <| bD (oApM (f := d32) J J J J J (fun _ => rfl) (by decide) g0 (by show (2 * (ds.length + 1) + 256) * 4 ≤ _; omega) om) J <| Ua J J <| Wn <| aG <| aI (z := 2) J ?_
 refine aA (cI (((ds.length + 1 : Nat) : Int)) (aU J J om) om) J <| Um J J <| Wn <| aF <| ⟨⟨_, _, ds ++ [_]⟩, ⟨rfl, rfl, rfl, rfl, rfl, congrArg some (by simp), trivial⟩, ⟨g0, trivial⟩, ⟨by simp; omega, hdd.snoc (Nat.mod_lt _ (by decide)), by split <;> omega, kU hi J J (by show _ = _ + 4294967296 * _; split <;> omega)⟩, by simp; omega⟩
theorem fI (s : Int) (k : Nat) (ds : List Nat) (hs : s = 1 ∨ s = -1 ∨ s = 0 ∧ val B32 ds = 0) (hk : k = 1 ∨ k = 2) (hd : Dg B32 ds) (hl : ds.length < 4611686018427387904) : Run Tryz.prog T E0 (.call 134 [.v (.int .i64 s), .sl k (ds.map d32)] (lvI (s * val B32 ds))) := by
 have hkk : (if k = 0 then 0 else 1) = 1 := by rw [if_neg om]
 have htd := mM hd
 have hrun := lT k ds om hl
 rw [hkk] at hrun
 have htl : (trim ds).length ≤ ds.length := by
  unfold trim; simpa using (List.dropWhile_sublist (· == 0) (l := ds.reverse)).length_le
 generalize hes : trim ds = es at *
 refine bH Tryz.func134 J J (dL J) <| Rg 1 J <| bD (eC J) J <| Wn <| Rg 3 J <| Um J J <| aA (aK J (hrun) (by simp)) J <| Ua J J <| Wn <| aB <| Rg 3 J <| Um J J <| aA (bB J J) J <| aA (nD J J) J <| aY (fun h12 => ?_) (fun h12 => ?_)
 rotate_left
 ·refine Wn <| aV J <| aE <| Rg 4 J <| Um J J <| Um J J <| aA (gA (cs := [_, _]) J J J J J) J <| aZ (cB (cs' := [_, _]) J J J J J J J J) <| Wn <| aP <| post (n := 0) (.inr J) J ?_ (by simp)
  have hb := val_big hd (by rw [hes]; omega)
  rw [lvI_made hd (by have : val B32 ds = val 4294967296 ds := rfl; omega) hb, hes]; rfl
 refine Wn <| aS J <| aB <| Rg 1 J <| Ua J J <| Wn <| aB <| aB <| Rg 3 J <| Um J J <| aA (bB J J) J <| Um J J <| Wn <| aL <| bC (α := Nat × Nat) (fun ⟨i, m⟩ => [(0, .v (.int .i64 s)), (1, .sl 1 (es.map d32)), (4, .ptr 0 0), (5, .v (.int .u64 (m : Int))), (13, .sl 1 (es.map d32)), (14, .v (.int .i64 (es.length : Int))), (15, .v (.int .i64 (i : Int)))]) (fun ⟨i, m⟩ => [(0, { cells := [.v (.int .i64 0), .sl 0 []], sz := 2, elem := 100, st := 0 })]) (fun ⟨i, m⟩ n => i ≤ es.length ∧ m = val B32 (es.take i)) (fun ⟨i, m⟩ => es.length - i) (0, 0) ⟨J, J, J, J, J, J, J, trivial⟩ ⟨J, trivial⟩ ⟨Nat.zero_le _, by simp [val]⟩ ?_
 rintro ⟨i, m⟩ n hF
 change WC _ _ _ _ _ (_ :: _) (_ :: _) n _
 obtain ⟨hi, hm⟩ := hF
 refine Rg 1 J <| aA (bP J J) J <| aY (fun h16 => ?_) (fun h16 => ?_)
 ·refine Wn <| aS J <| aE <| aL <| Rg 5 J <| Um J J <| aA (bQ J J J J J om J) J <| aA (dJ J J J) J <| Ua J J <| Ua J J <| cQ ?_
  have hxl : es.getD i default < 4294967296 := bF htd om
  have hml : m < 4294967296 ^ i := by
   have := dT (B := 4294967296) (by decide) (htd.take i)
   rw [List.length_take, Nat.min_eq_left hi] at this
   rw [hm]; exact this
  refine aI (z := 8) J <| Um J J <| Um J J <| aA (cI (((es.getD i default : Nat) : Int)) (cN J J J) (by rw [IntKind.wrap_u64]; omega)) J <| Um J J <| aA (cI (((32 * i : Nat) : Int)) (fK J J om) om) J <| aA (cI (((es.getD i default * 4294967296 ^ i : Nat) : Int)) (oShlU (s := 32 * i) J J om) (shl_dig om hxl)) J <| aA (fW (v := .int .u64 ((m + 4294967296 ^ i * es.getD i default : Nat) : Int)) J J (or_dig om hxl hml)) J <| Ua J J <| Wn <| aG <| Ck [0,1,4,5,13,14,15] J <| aI (z := 2) J <| aA (cI (((i + 1 : Nat) : Int)) (aU J J om) om) J <| Um J J <| Wn <| aF <| ⟨⟨i + 1, _⟩, ⟨J, J, J, J, J, J, J, trivial⟩, ⟨J, trivial⟩, ⟨om, ?_⟩, by show es.length - (i + 1) < es.length - i; omega⟩
  rw [cO, hm]
 refine Wn <| aV J <| aW <| aT <| aR J <| aB <| Rg 2 J <| Um J J <| aA (bP J J) J <| aY (fun h29 => ?_) (fun h29 => ?_)
 rotate_left
 ·refine Wn <| aV J <| aE <| Rg 4 J <| Um J J <| Um J J <| aA (gA (cs := [_, _]) J J J J J) J <| aZ (cB (cs' := [_, _]) J J J J J J J J) <| Wn <| aP ?_
  have hE : m = val B32 ds := by
   rw [hm, List.take_of_length_le om, ← hes, gL]
  refine post (n := 0) (.inr J) J ?_ (by simp)
  rw [lvI_made hd om (by show 4611686018427387904 ≤ val B32 ds; omega), hes]; rfl
 refine Wn <| aS J <| aB <| Rg 6 J <| Um J J <| Um J J <| aA (cI ((m : Int)) (cN J J J) (by rw [IntWalk.i64_in _ om])) J <| aA (fK J J (by rcases hs with rfl | rfl | ⟨rfl, _⟩ <;> omega)) J <| aA (gA (cs := [_, _]) J J J J J) J <| aZ (cB (cs' := [_, _]) J J J J J J J J) <| Nk [4] J <| aX ?_
 have hE : m = val B32 ds := by
  rw [hm, List.take_of_length_le om, ← hes, gL]
 refine post (n := 0) (.inr J) J ?_ (by simp)
 rw [jX (by unfold small; rw [← hE]; rcases hs with rfl | rfl | ⟨rfl, _⟩ <;> omega), ← hE]; rfl
end Go.Proofs.YtahljdjhhapngaaGreat
namespace Go.Proofs.YtahljdjhhapngaaGreat
open Go.Ab Go.RowKit
theorem ia0 {v : Int} (h : v.sign = 0) : v = 0 := Int.sign_eq_zero_iff_zero.1 h
theorem add_run (v w : Int) (hv : len32 v < 1099511627775) (hw : len32 w < 1099511627775) : Run Tryz.prog T E0 (.call 127 [lvI v, lvI w] (lvI (v + w))) := by
 have bv := pY v
 have bw := pY w
 have ev := eV v
 have ew := eV w
 have dv := gT (B := B32) (by decide) v.natAbs
 have dw := gT (B := B32) (by decide) w.natAbs
 have qv := kN (B := B32) (by decide) v.natAbs
 have qw := kN (B := B32) (by decide) w.natAbs
 have tv := dgs_tr (B := B32) (by decide) v.natAbs
 have tw := dgs_tr (B := B32) (by decide) w.natAbs
 have lv : (dgs B32 v.natAbs).length < 1099511627775 := hv
 have lw : (dgs B32 w.natAbs).length < 1099511627775 := hw
 refine bH Tryz.func127 J J (dL J) <| Rg 3 J <| bD (dW J J) J <| bD (dW J J) J <| bD (eC J) J <| Wn <| aB <| Rg 8 J <| aA (bA J J J J J) J <| aA (aM J J J J J) J <| aA (mV J J) J <| eK (fun h11 => ?_) (fun h11 => ?_)
 rotate_left
 ·refine Um J J <| K1 J J <| K1 J J <| K1 J J <| aA (bM J J) J <| Wn <| aV J <| aE <| Rg 7 J <| aA (aM (l := .agg [_, _]) J J J J J) J <| aA (aK J (fG _) (by simp)) J <| Um J J <| aA (dX J J) J <| aA (dX J J) J <| Ua J J <| Ua J J <| Nk [2,3,4,5,6] J <| Rg 7 J <| aA (aM (l := .agg [_, _]) J J J J J) J <| aA (aK J (fG _) (by simp)) J <| Um J J <| aA (dX J J) J <| aA (dX J J) J ?_
  refine Ua J J <| Ua J J <| Wn <| aL <| Rg 3 J <| Um J J <| aA (fJ J J) J <| aY (fun h35 => ?_) (fun h35 => ?_)
  ·refine Ua J J <| Nk [2,3,4,5,6,7,8,33] J <| bW J <| Rg 2 J <| aA (aM (l := .agg [_, _]) J J J J J) J <| aZ (cB (cs' := [_, _]) J J J J J J J J) <| Wn <| aP <| aN <| post (n := 0) (.inr J) J ?_ (by simp)
   rw [ia0 h35, Int.zero_add]; rfl
  refine Ua J J <| Nk [2,3,4,5,6,7,8,33] J <| bX J <| Rg 3 J <| Um J J <| aA (fJ J J) J <| aY (fun h39 => ?_) (fun h39 => ?_)
  ·refine Ua J J <| Wn <| bW J <| Rg 2 J <| aA (aM (l := .agg [_, _]) J J J J J) J <| aZ (cB (cs' := [_, _]) J J J J J J J J) <| Wn <| aP <| aN <| post (n := 0) (.inr J) J ?_ (by simp)
   rw [ia0 h39, Int.add_zero]; rfl
  refine Ua J J <| Wn <| bX J <| Rg 4 J <| Um J J <| Um J J <| aA (fJ J J) J <| aY (fun h44 => ?_) (fun h44 => ?_)
  ·refine Ua J J <| Nk [4,5,6,7,8,41] J <| bW J ?_
   have hsv : v.sign = 1 ∨ v.sign = -1 := by rcases Int.sign_trichotomy v with h | h | h <;> omega
   obtain ⟨r, hr, ds, rfl, hdd, hvl, hln⟩ := plus_run 1 1 _ _ qv qw om om
   refine Rg 6 J <| Um J J <| Um J J <| Um J J <| aA (aK J (hr) (by simp)) J <| aA (aK J (fI v.sign 1 ds om (.inl J) hdd om) (by simp)) J <| aZ (cB (cs' := [_, _]) J J J J J J J J) <| Wn <| aP <| aN <| post (n := 0) (.inr J) J ?_ (by simp)
   have : v.sign * (val B32 ds : Int) = v + w := by
    rw [hvl, dv, dw]; rcases hsv with h | h <;> rw [h] at ev h44 ⊢ <;> rw [← h44] at ew <;> omega
   rw [this]; rfl
  refine Ua J J <| Nk [4,5,6,7,8,41] J <| bX J <| Rg 5 J <| Um J J <| Um J J <| aA (aK J (lH 1 1 _ _ qv qw tv tw om om) (by simp)) J <| aA (iH J J) J <| aY (fun h54 => ?_) (fun h54 => ?_)
  ·refine Ua J J <| Wn <| bW J ?_
   have hsv : v.sign = 1 ∨ v.sign = -1 := by rcases Int.sign_trichotomy v with h | h | h <;> omega
   have hge : val B32 (dgs B32 w.natAbs) ≤ val B32 (dgs B32 v.natAbs) := by
    rcases Nat.lt_or_ge (val B32 (dgs B32 v.natAbs)) (val B32 (dgs B32 w.natAbs)) with h | h
    ·rw [Int.sign_eq_neg_one_of_neg om] at h54; omega
    ·exact h
   have hll : (dgs B32 w.natAbs).length ≤ (dgs B32 v.natAbs).length := by
    rcases Nat.lt_or_ge (dgs B32 v.natAbs).length (dgs B32 w.natAbs).length with h | h
    ·have := dU (by decide) qv tw h; omega
    ·exact h
   obtain ⟨r, hr, ds, rfl, hdd, hvl, hln⟩ := mB 1 1 _ _ qv qw om hll hge
   refine Rg 6 J <| Um J J <| Um J J <| Um J J <| aA (aK J (hr) (by simp)) J <| aA (aK J (fI v.sign 1 ds om (.inl J) hdd om) (by simp)) J <| aZ (cB (cs' := [_, _]) J J J J J J J J) <| Nk [4] J <| aP <| aN <| post (n := 0) (.inr J) J ?_ (by simp)
   have : v.sign * (val B32 ds : Int) = v + w := by
    rw [hvl, dv, dw] at *; rcases hsv with h | h <;> rw [h] at ev h44 ⊢ <;> rcases (show w.sign = 1 ∨ w.sign = -1 by rcases Int.sign_trichotomy w with h | h | h <;> omega) with k | k <;> rw [k] at ew h44 <;> omega
   rw [this]; rfl
  refine Ua J J <| Wn <| bX J <| cP <| aG ?_
  have hsv : w.sign = 1 ∨ w.sign = -1 := by rcases Int.sign_trichotomy w with h | h | h <;> omega
  have hge : val B32 (dgs B32 v.natAbs) ≤ val B32 (dgs B32 w.natAbs) := by
   rcases Nat.lt_or_ge (val B32 (dgs B32 w.natAbs)) (val B32 (dgs B32 v.natAbs)) with h | h
   ·rw [Int.sign_eq_one_of_pos om] at h54; omega
   ·exact h
  have hll : (dgs B32 v.natAbs).length ≤ (dgs B32 w.natAbs).length := by
   rcases Nat.lt_or_ge (dgs B32 w.natAbs).length (dgs B32 v.natAbs).length with h | h
   ·have := dU (by decide) qw tv h; omega
   ·exact h
  obtain ⟨r, hr, ds, rfl, hdd, hvl, hln⟩ := mB 1 1 _ _ qw qv om hll hge
  refine Rg 6 J <| Um J J <| Um J J <| Um J J <| aA (aK J (hr) (by simp)) J <| aA (aK J (fI w.sign 1 ds om (.inl J) hdd om) (by simp)) J <| aZ (cB (cs' := [_, _]) J J J J J J J J) <| Nk [4] J <| aP <| post (n := 0) (.inr J) J ?_ (by simp)
  have : w.sign * (val B32 ds : Int) = v + w := by
   rw [hvl, dv, dw] at *; rcases hsv with h | h <;> rw [h] at ew h44 ⊢ <;> rcases (show v.sign = 1 ∨ v.sign = -1 by rcases Int.sign_trichotomy v with h | h | h <;> omega) with k | k <;> rw [k] at ev h44 <;> omega
  rw [this]; rfl
 refine Um J J <| aJ J (bA J J J J J) J <| aJ J (aM J J J J J) J <| aJ J (mV J J) J <| eK (fun h15 => ?_) (fun h15 => ?_)
 ·refine aA (bK J J) J <| Wn <| aS J <| aB <| Rg 7 J <| aA (bA J J J J J) J <| aA (aM J J J J J) J <| aA (bA J J J J J) J <| aA (aM J J J J J) J <| aA (aU J J om) J <| aA (aK J (pK _ om) (by simp)) J <| aZ (cB (cs' := [_, _]) J J J J J J J J) <| Nk [4] J <| aX <| post (n := 0) (.inr J) J ?_ (by simp)
  rw [dO (pZ.1 h11), dO (pZ.1 h15)]; rfl
 refine aA (bK J J) J <| Wn <| aV J <| aE <| Rg 7 J <| aA (aM (l := .agg [_, _]) J J J J J) J <| aA (aK J (fG _) (by simp)) J <| Um J J <| aA (dX J J) J <| aA (dX J J) J <| Ua J J <| Ua J J <| Nk [2,3,4,5,6] J <| Rg 7 J <| aA (aM (l := .agg [_, _]) J J J J J) J <| aA (aK J (fG _) (by simp)) J <| Um J J <| aA (dX J J) J <| aA (dX J J) J <| Ua J J <| Ua J J <| Wn <| aL ?_
 refine Rg 3 J <| Um J J <| aA (fJ J J) J <| aY (fun h35 => ?_) (fun h35 => ?_)
 ·refine Ua J J <| Nk [2,3,4,5,6,7,8,33] J <| bW J <| Rg 2 J <| aA (aM (l := .agg [_, _]) J J J J J) J <| aZ (cB (cs' := [_, _]) J J J J J J J J) <| Wn <| aP <| aN <| post (n := 0) (.inr J) J ?_ (by simp)
  rw [ia0 h35, Int.zero_add]; rfl
 refine Ua J J <| Nk [2,3,4,5,6,7,8,33] J <| bX J <| Rg 3 J <| Um J J <| aA (fJ J J) J <| aY (fun h39 => ?_) (fun h39 => ?_)
 ·refine Ua J J <| Wn <| bW J <| Rg 2 J <| aA (aM (l := .agg [_, _]) J J J J J) J <| aZ (cB (cs' := [_, _]) J J J J J J J J) <| Wn <| aP <| aN <| post (n := 0) (.inr J) J ?_ (by simp)
  rw [ia0 h39, Int.add_zero]; rfl
 refine Ua J J <| Wn <| bX J <| Rg 4 J <| Um J J <| Um J J <| aA (fJ J J) J <| aY (fun h44 => ?_) (fun h44 => ?_)
 ·refine Ua J J <| Nk [4,5,6,7,8,41] J <| bW J ?_
  have hsv : v.sign = 1 ∨ v.sign = -1 := by rcases Int.sign_trichotomy v with h | h | h <;> omega
  obtain ⟨r, hr, ds, rfl, hdd, hvl, hln⟩ := plus_run 1 1 _ _ qv qw om om
  refine Rg 6 J <| Um J J <| Um J J <| Um J J <| aA (aK J (hr) (by simp)) J <| aA (aK J (fI v.sign 1 ds om (.inl J) hdd om) (by simp)) J <| aZ (cB (cs' := [_, _]) J J J J J J J J) <| Wn <| aP <| aN <| post (n := 0) (.inr J) J ?_ (by simp)
  have : v.sign * (val B32 ds : Int) = v + w := by
   rw [hvl, dv, dw]; rcases hsv with h | h <;> rw [h] at ev h44 ⊢ <;> rw [← h44] at ew <;> omega
  rw [this]; rfl
 refine Ua J J <| Nk [4,5,6,7,8,41] J <| bX J <| Rg 5 J <| Um J J <| Um J J <| aA (aK J (lH 1 1 _ _ qv qw tv tw om om) (by simp)) J <| aA (iH J J) J <| aY (fun h54 => ?_) (fun h54 => ?_)
 ·refine Ua J J <| Wn <| bW J ?_
  have hsv : v.sign = 1 ∨ v.sign = -1 := by rcases Int.sign_trichotomy v with h | h | h <;> omega
  have hge : val B32 (dgs B32 w.natAbs) ≤ val B32 (dgs B32 v.natAbs) := by
   rcases Nat.lt_or_ge (val B32 (dgs B32 v.natAbs)) (val B32 (dgs B32 w.natAbs)) with h | h
   ·rw [Int.sign_eq_neg_one_of_neg om] at h54; omega
   ·exact h
  have hll : (dgs B32 w.natAbs).length ≤ (dgs B32 v.natAbs).length := by
   rcases Nat.lt_or_ge (dgs B32 v.natAbs).length (dgs B32 w.natAbs).length with h | h
   ·have := dU (by decide) qv tw h; omega
   ·exact h
  obtain ⟨r, hr, ds, rfl, hdd, hvl, hln⟩ := mB 1 1 _ _ qv qw om hll hge
  refine Rg 6 J <| Um J J <| Um J J <| Um J J <| aA (aK J (hr) (by simp)) J <| aA (aK J (fI v.sign 1 ds om (.inl J) hdd om) (by simp)) J <| aZ (cB (cs' := [_, _]) J J J J J J J J) <| Nk [4] J <| aP <| aN <| post (n := 0) (.inr J) J ?_ (by simp)
  have : v.sign * (val B32 ds : Int) = v + w := by
   rw [hvl, dv, dw] at *; rcases hsv with h | h <;> rw [h] at ev h44 ⊢ <;> rcases (show w.sign = 1 ∨ w.sign = -1 by rcases Int.sign_trichotomy w with h | h | h <;> omega) with k | k <;> rw [k] at ew h44 <;> omega
  rw [this]; rfl
 refine Ua J J <| Wn <| bX J <| cP <| aG ?_
 have hsv : w.sign = 1 ∨ w.sign = -1 := by rcases Int.sign_trichotomy w with h | h | h <;> omega
 have hge : val B32 (dgs B32 v.natAbs) ≤ val B32 (dgs B32 w.natAbs) := by
  rcases Nat.lt_or_ge (val B32 (dgs B32 w.natAbs)) (val B32 (dgs B32 v.natAbs)) with h | h
  ·rw [Int.sign_eq_one_of_pos om] at h54; omega
  ·exact h
 have hll : (dgs B32 v.natAbs).length ≤ (dgs B32 w.natAbs).length := by
  rcases Nat.lt_or_ge (dgs B32 w.natAbs).length (dgs B32 v.natAbs).length with h | h
  ·have := dU (by decide) qw tv h; omega
  ·exact h
 obtain ⟨r, hr, ds, rfl, hdd, hvl, hln⟩ := mB 1 1 _ _ qw qv om hll hge
 refine Rg 6 J <| Um J J <| Um J J <| Um J J <| aA (aK J (hr) (by simp)) J <| aA (aK J (fI w.sign 1 ds om (.inl J) hdd om) (by simp)) J <| aZ (cB (cs' := [_, _]) J J J J J J J J) <| Nk [4] J <| aP <| post (n := 0) (.inr J) J ?_ (by simp)
 have : w.sign * (val B32 ds : Int) = v + w := by
  rw [hvl, dv, dw] at *; rcases hsv with h | h <;> rw [h] at ew h44 ⊢ <;> rcases (show v.sign = 1 ∨ v.sign = -1 by rcases Int.sign_trichotomy v with h | h | h <;> omega) with k | k <;> rw [k] at ev h44 <;> omega
 rw [this]; rfl
end Go.Proofs.YtahljdjhhapngaaGreat
