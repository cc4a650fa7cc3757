/- Part C of the proof of sureLaws_holds: what it rests on. No condition. -/
import Derived.Test.YthpnlndhebcngaaGreatLawB
import Derived.ChangeKeysEq
import Derived.Test.YthpnlndhebcngaaGreatProg
set_option linter.unusedVariables false
set_option linter.unusedSimpArgs false
namespace Go.Ab
open Go.RowKit
theorem ent_swF {R : List (List Rat)} {i r a j : Nat} (hi : i < R.length) (hr : r < R.length) (ha : a < R.length) : ent (sw R i r) a j = ent R (swp i r a) j := by
 unfold ent sw swp
 rw [gset_getD (by rw [List.length_set]; exact ha), gset_getD ha]
 by_cases h1 : a = i
 ·rw [if_pos h1.symm, if_pos h1]
 ·rw [if_neg (Ne.symm h1), if_neg h1]
  by_cases h2 : a = r
  ·rw [if_pos h2.symm, if_pos h2]
  ·rw [if_neg (Ne.symm h2), if_neg h2]
theorem ent_midF {R : List (List Rat)} {i r c a j : Nat} (ha : a < R.length) : ent (mid R i r c) a j = if a = r then 1 / ent (sw R i r) r c * ent (sw R i r) r j else ent (sw R i r) a j := by
 by_cases h : a = r
 ·rw [if_pos h, h]
  show (((((sw R i r).set r (rsc (1 / ent (sw R i r) r c) ((sw R i r).getD r default))) : List (List Rat))).getD r default).getD j default = _
  rw [gset_getD (by rw [sw_len]; omega), if_pos rfl, rsc_getD]; rfl
 ·rw [if_neg h]
  show (((((sw R i r).set r (rsc (1 / ent (sw R i r) r c) ((sw R i r).getD r default))) : List (List Rat))).getD a default).getD j default = _
  rw [gset_getD (by rw [sw_len]; exact ha), if_neg (Ne.symm h)]; rfl
theorem ent_elimF {M : List (List Rat)} {w r c a j : Nat} (hw : Wid w M) (ha : a < M.length) (hj : j < w) : ent (elim M r c) a j = if a = r then ent M r j else ent M a j - ent M a c * ent M r j := by
 show ((elim M r c).getD a default).getD j default = _
 rw [elim_getD ha]
 by_cases h : a = r
 ·subst h; rw [if_pos rfl, elr_self]; rfl
 ·rw [if_neg h]
  by_cases h0 : ent M a c = 0
  ·rw [elr_neg (.inr h0), h0]
   show ent M a j = _
   grind
  ·rw [elr_pos h h0, rad_getD (by rw [hw.row ha]; exact hj), rsc_getD]
   show ent M a j + -ent M a c * ent M r j = _
   grind
structure Stp (A B : List (List Rat)) (w a r c : Nat) : Prop where
 len : B.length = A.length
 wid : Wid w B
 ha : a < A.length
 hr : r < A.length
 ne : ent A a c ≠ 0
 row : ∀ j, j < w → ent B r j = 1 / ent A a c * ent A a j
 oth : ∀ i j, i < A.length → i ≠ r → j < w → ent B i j = ent A (swp a r i) j - ent A (swp a r i) c * (1 / ent A a c * ent A a j)
theorem stp_of {A : List (List Rat)} {w a r c : Nat} (hw : Wid w A) (ha : a < A.length) (hr : r < A.length) (hc : c < w) (hne : ent A a c ≠ 0) : Stp A (elim (mid A a r c) r c) w a r c := by
 have hm : Wid w (mid A a r c) := hw.mid ha hr c
 have hml : (mid A a r c).length = A.length := mid_len _ _ _ _
 have hsr : ∀ j, ent (sw A a r) r j = ent A a j := fun j => ent_sw ha hr
 refine ⟨by rw [elim_len, hml], ?_, ha, hr, hne, fun j hj => ?_, fun i j hi hir hj => ?_⟩
 ·intro row hrow
  obtain ⟨k, hk, rfl⟩ := List.mem_map.1 hrow
  exact elr_len hm r c (List.mem_range.1 hk)
 ·rw [ent_elimF hm om hj, if_pos rfl, ent_midF hr, if_pos rfl, hsr, hsr]
 ·rw [ent_elimF hm om hj, if_neg hir, ent_midF hi, if_neg hir, ent_midF hi, if_neg hir, ent_midF hr, if_pos rfl, hsr, hsr, ent_swF ha hr hi, ent_swF ha hr hi]
structure St0 (R : List (List Rat)) (w c : Nat) : Prop where
 wid : Wid w (gjn R c).1
 led : (gjn R c).2.length ≤ R.length
theorem St0.all {R : List (List Rat)} {w : Nat} (hw : Wid w R) : ∀ c, c ≤ w → St0 R w c
 | 0, _ => ⟨hw, Nat.zero_le _⟩
 | c + 1, hc => by
  have h := St0.all hw c om
  obtain ⟨p1, p2, p3⟩ := pivot_facts (R := (gjn R c).1) (r := (gjn R c).2.length) (c := c) (by rw [gjn_len]; exact h.led)
  by_cases e : pivot (gjn R c).1 (gjn R c).2.length c = (gjn R c).1.length
  ·rw [show St0 R w (c + 1) ↔ St0 R w c from ⟨fun _ => h, fun _ => ⟨by rw [gjn_no e]; exact h.wid, by rw [gjn_no e]; exact h.led⟩⟩]; exact h
  ·have hl := gjn_len R c
   have hy := gjn_yes (a := pivot (gjn R c).1 (gjn R c).2.length c) rfl om
   have hs := stp_of (r := (gjn R c).2.length) (c := c) h.wid (show pivot (gjn R c).1 (gjn R c).2.length c < _ by omega) om om (p3 om)
   exact ⟨by rw [hy]; exact hs.wid, by rw [hy]; simp; omega⟩
theorem gjn_ind {R : List (List Rat)} {w : Nat} (hw : Wid w R) {P : Nat → List (List Rat) → List Nat → Prop} (h0 : P 0 R [])
  (hno : ∀ c S L, c < w → gjn R c = (S, L) → S.length = R.length → Wid w S → L.length ≤ R.length → P c S L → (∀ k, L.length ≤ k → k < R.length → ent S k c = 0) → P (c + 1) S L)
  (hyes : ∀ c S L B a, c < w → gjn R c = (S, L) → S.length = R.length → Wid w S → L.length ≤ a → P c S L → Stp S B w a L.length c → gjn R (c + 1) = (B, L ++ [c]) → pivot S L.length c = a → P (c + 1) B (L ++ [c])) : ∀ c, c ≤ w → P c (gjn R c).1 (gjn R c).2
 | 0, _ => h0
 | c + 1, hc => by
  have ih := gjn_ind hw h0 hno hyes c om
  have h := St0.all hw c om
  have hl := gjn_len R c
  obtain ⟨p1, p2, p3⟩ := pivot_facts (R := (gjn R c).1) (r := (gjn R c).2.length) (c := c) (by rw [gjn_len]; exact h.led)
  by_cases e : pivot (gjn R c).1 (gjn R c).2.length c = (gjn R c).1.length
  ·rw [gjn_no e]
   exact hno c _ _ om rfl hl h.wid h.led ih fun k h1 h2 => pivot_zero e h1 om
  ·have hy := gjn_yes (a := pivot (gjn R c).1 (gjn R c).2.length c) rfl om
   have hs := stp_of (r := (gjn R c).2.length) (c := c) h.wid (show pivot (gjn R c).1 (gjn R c).2.length c < _ by omega) om om (p3 om)
   rw [hy]
   exact hyes c _ _ _ _ om rfl hl h.wid p1 ih hs hy rfl
end Go.Ab
set_option linter.unusedVariables false
set_option linter.unusedSimpArgs false
namespace Go.Ab
open Go.RowKit
structure RI (S : List (List Rat)) (L : List Nat) (c : Nat) : Prop where
 rk : L.length ≤ S.length
 piv : ∀ t, t < L.length → ∀ i, i < S.length → ent S i (L.getD t default) = if i = t then 1 else 0
 low : ∀ t, t < L.length → ∀ j, j < L.getD t default → ent S t j = 0
 zer : ∀ i, L.length ≤ i → i < S.length → ∀ j, j < c → ent S i j = 0
 mono : ∀ t u, t < u → u < L.length → L.getD t default < L.getD u default
 lt : ∀ t, t < L.length → L.getD t default < c
theorem snoc_lt {L : List Nat} {c t : Nat} (h : t < L.length) : (L ++ [c]).getD t default = L.getD t default := by
 simp only [List.getD_eq_getElem?_getD, List.getElem?_append_left h]
theorem snoc_eq {L : List Nat} {c : Nat} : (L ++ [c]).getD L.length default = c := by
 simp [List.getD_eq_getElem?_getD]
theorem swp_lt {a r i : Nat} (h : i < r) (ha : r ≤ a) : swp a r i = i := by
 unfold swp; rw [if_neg om, if_neg om]
theorem swp_ge {a r i : Nat} (h : r ≤ i) (ha : r ≤ a) : r ≤ swp a r i := by
 unfold swp; split
 ·omega
 ·split <;> omega
theorem swp_len {a r i m : Nat} (h : i < m) (ha : a < m) (hr : r < m) : swp a r i < m := by
 unfold swp; split
 ·omega
 ·split <;> omega
theorem gjn_RI {R : List (List Rat)} {w : Nat} (hw : Wid w R) : ∀ c, c ≤ w → RI (gjn R c).1 (gjn R c).2 c :=
 gjn_ind hw (P := fun c S L => RI S L c)
  ⟨Nat.zero_le _, fun t ht => by simp at ht, fun t ht => by simp at ht, fun i _ _ j hj => by omega, fun t u _ hu => by simp at hu, fun t ht => by simp at ht⟩
  (fun c S L hc _ hl _ _ h hz => ⟨h.rk, h.piv, h.low, fun i h1 h2 j hj => by
   by_cases e : j = c
   ·rw [e]; exact hz i h1 om
   ·exact h.zer i h1 h2 j om, h.mono, fun t ht => by have := h.lt t ht; omega⟩)
  (fun c S L B a hc _ hl _ hla h hs _ _ => by
   have hBl := hs.len
   have hha := hs.ha
   have hp := hs.ne
   have hrow : ∀ j, j < c → ent B L.length j = 0 := fun j hj => by
    rw [hs.row j om, h.zer a hla hs.ha j hj, Rat.mul_zero]
   have hoth : ∀ i j, i < S.length → i ≠ L.length → j < c → ent B i j = ent S (swp a L.length i) j := fun i j hi hir hj => by
    rw [hs.oth i j hi hir om, h.zer a hla hs.ha j hj]; grind
   have hlo : ∀ i j, i < L.length → j < c → ent B i j = ent S i j := fun i j hi hj => by
    rw [hoth i j (by have := h.rk; omega) om hj, swp_lt hi hla]
   have hhi : ∀ i j, L.length ≤ i → i < S.length → j < c → ent B i j = 0 := fun i j h1 h2 hj => by
    by_cases e : i = L.length
    ·rw [e]; exact hrow j hj
    ·rw [hoth i j h2 e hj]; exact h.zer _ (swp_ge h1 hla) (swp_len h2 hs.ha hs.hr) j hj
   have hc1 : ent B L.length c = 1 := by rw [hs.row c hc]; grind
   have hc0 : ∀ i, i < S.length → i ≠ L.length → ent B i c = 0 := fun i h1 h2 => by rw [hs.oth i c h1 h2 hc]; grind
   refine ⟨by simp; have := hs.hr; omega, fun t ht i hi => ?_, fun t ht j hj => ?_, fun i h1 h2 j hj => ?_, fun t u htu hu => ?_, fun t ht => ?_⟩
   ·rw [List.length_append, List.length_singleton] at ht
    by_cases e : t = L.length
    ·subst e
     rw [snoc_eq]
     by_cases e2 : i = L.length
     ·rw [e2, hc1, if_pos rfl]
     ·rw [hc0 i om e2, if_neg e2]
    ·rw [snoc_lt om]
     have hlt := h.lt t om
     by_cases e2 : i < L.length
     ·rw [hlo i _ e2 hlt]; exact h.piv t om i om
     ·rw [hhi i _ om om hlt, if_neg om]
   ·rw [List.length_append, List.length_singleton] at ht
    by_cases e : t = L.length
    ·subst e
     rw [snoc_eq] at hj; exact hrow j hj
    ·rw [snoc_lt om] at hj
     have hlt := h.lt t om
     rw [hlo t j om om]; exact h.low t om j hj
   ·rw [List.length_append, List.length_singleton] at h1
    by_cases e : j = c
    ·rw [e]; exact hc0 i om om
    ·exact hhi i j om om om
   ·rw [List.length_append, List.length_singleton] at hu
    rw [snoc_lt om]
    by_cases e : u = L.length
    ·subst e; rw [snoc_eq]; exact h.lt t htu
    ·rw [snoc_lt om]; exact h.mono t u htu om
   ·rw [List.length_append, List.length_singleton] at ht
    by_cases e : t = L.length
    ·subst e; rw [snoc_eq]; omega
    ·rw [snoc_lt om]; have := h.lt t om; omega)
theorem RI.le {S : List (List Rat)} {L : List Nat} {c : Nat} (h : RI S L c) : ∀ d t, t < L.length → L.length - 1 - t = d → L.getD t default + d < c
 | 0, t, ht, _ => by have := h.lt t ht; omega
 | d + 1, t, ht, hd => by have := h.le d (t + 1) om om; have := h.mono t (t + 1) om om; omega
theorem RowF.zero {n : Nat} {F : (Nat → Nat → Rat) → Rat} (hF : RowF n F) (M : Nat → Nat → Rat) {r : Nat} (hr : r < n) (h : ∀ b, b < n → M r b = 0) : F M = 0 := by
 have h1 := hF.scale M (r := r) 0 hr
 rw [Rat.zero_mul] at h1
 rw [← h1]
 refine hF.congr fun a b ha hb => ?_
 unfold upd
 by_cases e : a = r
 ·rw [if_pos e, e, h b hb]; exact (Rat.zero_mul _).symm
 ·rw [if_neg e]
end Go.Ab
set_option linter.unusedVariables false
set_option linter.unusedSimpArgs false
namespace Go.Ab
open Go.RowKit
def ev (w : Nat) (y : List Rat) : Nat → Rat := fun j => if j < w then y.getD j default else -1
def two (n : Nat) (x y : Nat → Rat) : Nat → Rat := fun j => if j < n then x j else y (j - n)
end Go.Ab
set_option linter.unusedVariables false
set_option linter.unusedSimpArgs false
namespace Go.Ab
open Go.RowKit
theorem VN.i64 {y : NM} (h : VN y) : I64 y.1 ∧ I64 y.2 := by
 obtain ⟨k1, k2, k3, k4, _⟩ := h
 unfold I64; omega
end Go.Ab
set_option linter.unusedVariables false
namespace Go.Ab
section
variable {P : Program} {T : TT} {E : TypeId → Bool} {N : Nat} {oa : Array Oper} {i b n z id : Nat} {e : Env} {h : Hp} {Q : Env → Hp → Prop} {K : Ex → Env → Hp → Nat → Prop} {t dst : Nat} {pos : String} {af : Array Edge} {l : List Oper} {x : Operand} {r : LV} {acc : List Rec} {c : Code} {o : Oper} {k : IntKind} {u : Int} {d : Delta} {R : List Nat}
theorem Um (hx : evE e x = some r) (hd : Nat.blt dst N = true) (q : WO P T E N oa l (i + 1) b ((dst, r) :: e) h Q) : WO P T E N oa (⟨some dst, .move x, t, pos, af, none⟩ :: l) i b e h Q := WO.U (oMv hx) hd q
theorem Ua (hx : evE e x = some r) (hd : Nat.blt dst N = true) (q : WO P T E N oa l (i + 1) b ((dst, r) :: e) h Q) : WO P T E N oa (⟨some dst, .assign x, t, pos, af, none⟩ :: l) i b e h Q := WO.U (oAs hx) hd q
theorem Dm (hx : evE e x = some r) (hd : Nat.blt dst N = true) (q : WD P T E N oa l (i + 1) b ((dst, r) :: e) h (⟨i, [], [], false⟩ :: acc) Q) : WD P T E N oa (⟨some dst, .move x, t, pos, af, none⟩ :: l) i b e h acc Q := WD.U (oMv hx) hd q
theorem Wn (q : Q e h) : WO P T E N oa [] i b e h Q := WO.nil q
theorem Nw (a : Env) (hs : subs a e) (q : WC P T E N c a h n K) : WO P T E N oa [] i b e h (fun e' m' => WC P T E N c e' m' n K) := WO.nil (WC.weak a hs q)
theorem Rg (z : Nat) (hz : oa.size = z) (q : WO P T E N oa oa.toList 0 n e h fun e' m' => WC P T E N c e' m' (n + z) K) : WC P T E N (.seq (.region id oa false) c) e h n K := WC.reg hz q
def pickE : List Nat → Env → Option Env
 | [], _ => some []
 | t :: ts, e => match e.get t, pickE ts e with
  | some v, some a => some ((t, v) :: a)
  | _, _ => none
theorem pickE_subs : ∀ {ts : List Nat} {e a : Env}, pickE ts e = some a → subs a e
 | [], e, a, h => by simp only [pickE, Option.some.injEq] at h; subst h; trivial
 | t :: ts, e, a, h => by
  simp only [pickE] at h
  cases h1 : e.get t with
  | none => rw [h1] at h; cases h
  | some v =>
   cases h2 : pickE ts e with
   | none => rw [h1, h2] at h; cases h
   | some a' =>
    rw [h1, h2] at h; cases h
    exact ⟨h1, pickE_subs h2⟩
theorem Nk {a : Env} (ts : List Nat) (hs : pickE ts e = some a) (q : WC P T E N c a h n K) : WO P T E N oa [] i b e h (fun e' m' => WC P T E N c e' m' n K) := WO.nil (WC.weak a (pickE_subs hs) q)
theorem Ck {a : Env} (ts : List Nat) (hs : pickE ts e = some a) (q : WC P T E N c a h n K) : WC P T E N c e h n K := WC.weak a (pickE_subs hs) q
theorem K1 {op : Op} {g : Option (Nat × Bool)} (hg : guardE oa ⟨some dst, op, t, pos, af, g⟩ e = some false) (hd : Nat.blt dst N = true) (k : WO P T E N oa l (i + 1) b ((dst, .v undef) :: e) h Q) : WO P T E N oa (⟨some dst, op, t, pos, af, g⟩ :: l) i b e h Q := WO.K hg hd k
theorem gG {s : Nat} {y : Option Ob} (q : getH h s = y := by repeat (first | exact g0 | refine g1 om ?_)) : getH h s = y := q
theorem dD {p : Prop} (q : p := by first | exact dc | exact dc1 | (simp [-data_sl]; done) | simp) : p := q
theorem cI (v : Int) (q : OP P T E o id e h (.v (.int k u)) d R) (hv : u = v) : OP P T E o id e h (.v (.int k v)) d R := OP.castI q hv
end
end Go.Ab
set_option linter.unusedVariables false
set_option linter.unusedSimpArgs false
namespace Go.Ab
open Go.RowKit
structure GB (R : List (List Rat)) (cols β : Nat) : Prop where
 pos : 2 ≤ β
 bds : ∀ c, c < cols → BdL β (gjn R c).1
 dts : ∀ c, c < cols → Bd β (gjd R c)
structure GI3 (R : List (List Rat)) (w β cols c : Nat) : Prop where
 bds : c < cols → BdL β (gjn R c).1
 wid : Wid w (gjn R c).1
 led : (gjn R c).2.length ≤ R.length
 ldc : ∀ x, x ∈ (gjn R c).2 → x < c
theorem GB.all {R : List (List Rat)} {cols β w : Nat} (h : GB R cols β) (hw : Wid w R) (hcw : cols ≤ w) (c : Nat) (hc : c ≤ cols) : GI3 R w β cols c where
 bds hcc := h.bds c hcc
 wid := (St0.all hw c om).wid
 led := (St0.all hw c om).led
 ldc x hx := by
  obtain ⟨t, ht, rfl⟩ := List.mem_iff_getElem.1 hx
  have := (gjn_RI hw c om).lt t ht
  rw [List.getD_eq_getElem?_getD, List.getElem?_eq_getElem ht] at this
  exact this
end Go.Ab
set_option linter.unusedVariables false
set_option linter.unusedSimpArgs false
namespace Go.Ab
open Go.RowKit
theorem subsM_outH {q sz : Nat} {el : TypeId} {us : List (List LV)} {h H : Hp} (hq : us ≠ [] → getH H q = some { cells := us.flatten, sz := sz, elem := el, st := 0 }) (hs : subsM h H) : subsM (outH q sz el us h) H := by
 cases us with
 | nil => exact hs
 | cons u us => exact ⟨hq (by simp), hs⟩
section
variable {P : Program} {T : TT} {E : TypeId → Bool} {N : Nat} {e : Env} {h : Hp} {K : Env → Hp → Prop}
variable {dst : Option Tmp} {ty : TypeId} {pos : String} {af : Array Edge} {g : Option (Nat × Bool)} {id : Nat} {x y : Operand} {bt : TypeId} {ti : TI}
end
end Go.Ab
set_option linter.unusedVariables false
set_option linter.unusedSimpArgs false
namespace Go.Ab
open Go.RowKit
abbrev BR := Int × NM
abbrev CH := NM × (Nat × List BR)
abbrev ST := (Int × Int) × (Nat × List CH)
def brc (b : BR) : List LV := [.v (.int .i64 b.1), .v (.int .i64 b.2.1), .v (.int .i64 b.2.2)]
def chc (c : CH) : List LV := [.v (.int .i64 c.1.1), .v (.int .i64 c.1.2), .sl c.2.1 (c.2.2.map brc)]
def stc (s : ST) : List LV := [.v (.int .i64 s.1.1), .v (.int .i64 s.1.2), .sl s.2.1 (s.2.2.map chc)]
def lvC (c : CH) : LV := .agg (chc c)
def lvMo (k : Nat) (ss : List ST) : LV := .agg [.sl k (ss.map stc)]
def IB (b : BR) : Prop := I64 b.1 ∧ I64 b.2.1 ∧ I64 b.2.2
def IC (c : CH) : Prop := I64 c.1.1 ∧ I64 c.1.2 ∧ ∀ b, b ∈ c.2.2 → IB b
def IS (s : ST) : Prop := I64 s.1.1 ∧ I64 s.1.2 ∧ ∀ c, c ∈ s.2.2 → IC c
theorem dbrc {bs : List BR} : ∀ row, row ∈ bs.map brc → ∀ c, c ∈ row → Data c := by
 intro row hr c hc
 obtain ⟨b, _, rfl⟩ := List.mem_map.1 hr
 simp only [brc, List.mem_cons, List.not_mem_nil, or_false] at hc
 rcases hc with rfl | rfl | rfl <;> exact .v _
theorem dchc1 (c : CH) : ∀ x, x ∈ chc c → Data x := by
 intro x hx
 simp only [chc, List.mem_cons, List.not_mem_nil, or_false] at hx
 rcases hx with rfl | rfl | rfl
 ·exact .v _
 ·exact .v _
 ·exact .sl _ _ fun row hr c hc => dbrc row hr c hc
theorem dchc {cs : List CH} : ∀ row, row ∈ cs.map chc → ∀ c, c ∈ row → Data c := by
 intro row hr c hc
 obtain ⟨b, _, rfl⟩ := List.mem_map.1 hr
 exact dchc1 b c hc
theorem dstc1 (s : ST) : ∀ x, x ∈ stc s → Data x := by
 intro x hx
 simp only [stc, List.mem_cons, List.not_mem_nil, or_false] at hx
 rcases hx with rfl | rfl | rfl
 ·exact .v _
 ·exact .v _
 ·exact .sl _ _ fun row hr c hc => dchc row hr c hc
theorem dstc {ss : List ST} : ∀ row, row ∈ ss.map stc → ∀ c, c ∈ row → Data c := by
 intro row hr c hc
 obtain ⟨b, _, rfl⟩ := List.mem_map.1 hr
 exact dstc1 b c hc
def psum (bs : List BR) : Nat → Rat
 | 0 => 0
 | i + 1 => psum bs i + nq (bs.getD i default).2
def lastB (bs : List BR) : Nat → Int
 | 0 => -1
 | i + 1 => (bs.getD i default).1
def okB (n : Nat) (bs : List BR) (i : Nat) : Bool := decide (lastB bs i < (bs.getD i default).1) && decide ((bs.getD i default).1 < n) && vn (bs.getD i default).2 && decide (0 < (bs.getD i default).2.1)
def VC (n : Nat) (c : CH) : Bool := vn c.1 && decide (1 ≤ c.2.2.length) && decide (c.2.2.length ≤ 8) && (List.range c.2.2.length).all (okB n c.2.2) && decide (psum c.2.2 c.2.2.length = 1)
def VS (n : Nat) (s : ST) : Bool := decide (0 ≤ s.1.1) && decide (s.1.1 ≤ 1) && decide (0 ≤ s.1.2) && decide (s.1.2 ≤ 63) && decide (1 ≤ s.2.2.length) && decide (s.2.2.length ≤ 8) && s.2.2.all (VC n)
def VMo (ss : List ST) : Bool := decide (1 ≤ ss.length) && decide (ss.length ≤ 40) && ss.all (VS ss.length)
theorem range_all_no {n i : Nat} {p : Nat → Bool} (hi : i < n) (h : p i = false) : (List.range n).all p = false := by
 rw [Bool.eq_false_iff]
 intro h2
 have := List.all_eq_true.1 h2 i (List.mem_range.2 hi)
 rw [h] at this; cases this
theorem range_all_yes {n : Nat} {p : Nat → Bool} (h : ∀ i, i < n → p i = true) : (List.range n).all p = true := List.all_eq_true.2 fun i hi => h i (List.mem_range.1 hi)
theorem psum_bd {bs : List BR} : ∀ i, i ≤ bs.length → (∀ j, j < i → vn (bs.getD j default).2 = true) → Bd (1 + 3 * i) (psum bs i)
 | 0, _, _ => Bd0 (by decide)
 | i + 1, hi, h => by
  have h1 := psum_bd i om (fun j hj => h j om)
  have h2 : VN (bs.getD i default).2 := of_decide_eq_true (h i om)
  exact (h1.add h2.bd).mono om
theorem okB_vn {n : Nat} {bs : List BR} {i : Nat} (h : okB n bs i = true) : vn (bs.getD i default).2 = true ∧ 0 < (bs.getD i default).2.1 := by
 unfold okB at h
 rw [Bool.and_eq_true, Bool.and_eq_true] at h
 exact ⟨h.1.2, of_decide_eq_true h.2⟩
theorem VC_no1 {n : Nat} {c : CH} (h : vn c.1 = false) : VC n c = false := by unfold VC; rw [h]; rfl
theorem VC_no2 {n : Nat} {c : CH} (h : c.2.2.length < 1 ∨ 8 < c.2.2.length) : VC n c = false := by
 unfold VC
 rcases h with h | h
 ·rw [decide_eq_false (show ¬ 1 ≤ c.2.2.length by omega), Bool.and_false]; rfl
 ·rw [decide_eq_false (show ¬ c.2.2.length ≤ 8 by omega), Bool.and_false]; rfl
theorem VC_no3 {n i : Nat} {c : CH} (hi : i < c.2.2.length) (h : okB n c.2.2 i = false) : VC n c = false := by
 unfold VC
 rw [range_all_no hi h, Bool.and_false]; rfl
theorem VC_yes {n : Nat} {c : CH} (h1 : vn c.1 = true) (h2 : 1 ≤ c.2.2.length) (h3 : c.2.2.length ≤ 8) (h4 : ∀ i, i < c.2.2.length → okB n c.2.2 i = true) : VC n c = decide (psum c.2.2 c.2.2.length = 1) := by
 unfold VC
 rw [h1, decide_eq_true h2, decide_eq_true h3, range_all_yes h4]; rfl
theorem okB_no {n i : Nat} {bs : List BR} (h : (bs.getD i default).1 ≤ lastB bs i ∨ (n : Int) ≤ (bs.getD i default).1 ∨ vn (bs.getD i default).2 = false ∨ (bs.getD i default).2.1 ≤ 0) : okB n bs i = false := by
 unfold okB
 rcases h with h | h | h | h
 ·rw [decide_eq_false (show ¬ lastB bs i < (bs.getD i default).1 by omega)]; rfl
 ·rw [decide_eq_false (show ¬ (bs.getD i default).1 < (n : Int) by omega), Bool.and_false]; rfl
 ·rw [h, Bool.and_false]; rfl
 ·rw [decide_eq_false (show ¬ 0 < (bs.getD i default).2.1 by omega), Bool.and_false]
theorem okB_yes {n i : Nat} {bs : List BR} (h1 : lastB bs i < (bs.getD i default).1) (h2 : (bs.getD i default).1 < (n : Int)) (h3 : vn (bs.getD i default).2 = true) (h4 : 0 < (bs.getD i default).2.1) : okB n bs i = true := by
 unfold okB
 rw [decide_eq_true h1, decide_eq_true h2, h3, decide_eq_true h4]; rfl
theorem sign_one {x : Rat} : ((x - 1).num.sign = 0) ↔ x = 1 := by
 rw [num_sign]
 constructor <;> intro h <;> grind
theorem VS_no {n : Nat} {s : ST} (h : s.1.1 < 0 ∨ 1 < s.1.1 ∨ s.1.2 < 0 ∨ 63 < s.1.2 ∨ s.2.2.length < 1 ∨ 8 < s.2.2.length) : VS n s = false := by
 unfold VS
 rcases h with h | h | h | h | h | h
 ·rw [decide_eq_false (show ¬ 0 ≤ s.1.1 by omega)]; rfl
 ·rw [decide_eq_false (show ¬ s.1.1 ≤ 1 by omega), Bool.and_false]; rfl
 ·rw [decide_eq_false (show ¬ 0 ≤ s.1.2 by omega), Bool.and_false]; rfl
 ·rw [decide_eq_false (show ¬ s.1.2 ≤ 63 by omega), Bool.and_false]; rfl
 ·rw [decide_eq_false (show ¬ 1 ≤ s.2.2.length by omega), Bool.and_false]; rfl
 ·rw [decide_eq_false (show ¬ s.2.2.length ≤ 8 by omega), Bool.and_false]; rfl
theorem VS_no2 {n j : Nat} {s : ST} (hj : j < s.2.2.length) (h : VC n (s.2.2.getD j default) = false) : VS n s = false := by
 unfold VS
 rw [all_no (i := j) hj h, Bool.and_false]
theorem VS_yes {n : Nat} {s : ST} (h1 : 0 ≤ s.1.1) (h2 : s.1.1 ≤ 1) (h3 : 0 ≤ s.1.2) (h4 : s.1.2 ≤ 63) (h5 : 1 ≤ s.2.2.length) (h6 : s.2.2.length ≤ 8) (h7 : s.2.2.all (VC n) = true) : VS n s = true := by
 unfold VS
 rw [decide_eq_true h1, decide_eq_true h2, decide_eq_true h3, decide_eq_true h4, decide_eq_true h5, decide_eq_true h6, h7]; rfl
theorem VMo_no {ss : List ST} (h : ss.length < 1 ∨ 40 < ss.length) : VMo ss = false := by
 unfold VMo
 rcases h with h | h
 ·rw [decide_eq_false (show ¬ 1 ≤ ss.length by omega)]; rfl
 ·rw [decide_eq_false (show ¬ ss.length ≤ 40 by omega), Bool.and_false]; rfl
theorem VMo_no2 {i : Nat} {ss : List ST} (hi : i < ss.length) (h : VS ss.length (ss.getD i default) = false) : VMo ss = false := by
 unfold VMo
 rw [all_no (i := i) hi h, Bool.and_false]
theorem VMo_yes {ss : List ST} (h1 : 1 ≤ ss.length) (h2 : ss.length ≤ 40) (h3 : ss.all (VS ss.length) = true) : VMo ss = true := by
 unfold VMo
 rw [decide_eq_true h1, decide_eq_true h2, h3]; rfl
instance {c : CH} : DC (lvC c) := ⟨.agg _ (dchc1 c)⟩
instance {k : Nat} {ss : List ST} : DC (lvMo k ss) := ⟨.agg _ (by intro c hc; rw [List.mem_singleton] at hc; subst hc; exact .sl _ _ fun row hr c hc => dstc row hr c hc)⟩
end Go.Ab
set_option linter.unusedVariables false
set_option linter.unusedSimpArgs false
namespace Go.Ab
open Go.RowKit
theorem lastB_pos {bs : List BR} {i : Nat} (h : 0 < i) : lastB bs i = (bs.getD (i - 1) default).1 := by
 obtain ⟨j, rfl⟩ : ∃ j, i = j + 1 := ⟨i - 1, om⟩
 rfl
def lastI (l : List Int) : Nat → Int
 | 0 => -1
 | i + 1 => l.getD i default
theorem lastI_pos {l : List Int} {i : Nat} (h : 0 < i) : lastI l i = l.getD (i - 1) default := by
 obtain ⟨j, rfl⟩ : ∃ j, i = j + 1 := ⟨i - 1, om⟩
 rfl
def okI (n : Nat) (l : List Int) (i : Nat) : Bool := decide (lastI l i < l.getD i default) && decide (l.getD i default < (n : Int))
def VSet (n : Nat) (l : List Int) : Bool := (List.range l.length).all (okI n l)
theorem okI_no {n i : Nat} {l : List Int} (h : l.getD i default ≤ lastI l i ∨ (n : Int) ≤ l.getD i default) : okI n l i = false := by
 unfold okI
 rcases h with h | h
 ·rw [decide_eq_false (show ¬ lastI l i < l.getD i default by omega)]; rfl
 ·rw [decide_eq_false (show ¬ l.getD i default < (n : Int) by omega), Bool.and_false]
theorem okI_yes {n i : Nat} {l : List Int} (h1 : lastI l i < l.getD i default) (h2 : l.getD i default < (n : Int)) : okI n l i = true := by
 unfold okI
 rw [decide_eq_true h1, decide_eq_true h2]; rfl
theorem okI_lo {n : Nat} {l : List Int} : ∀ i, (∀ j, j < i → okI n l j = true) → -1 ≤ lastI l i
 | 0, _ => Int.le_refl _
 | i + 1, h => by
  have h1 := okI_lo i (fun j hj => h j om)
  have h2 := h i om
  unfold okI at h2
  rw [Bool.and_eq_true] at h2
  have h3 := of_decide_eq_true h2.1
  show -1 ≤ l.getD i default
  omega
theorem okB_lo {n : Nat} {bs : List BR} : ∀ i, (∀ j, j < i → okB n bs j = true) → -1 ≤ lastB bs i
 | 0, _ => Int.le_refl _
 | i + 1, h => by
  have h1 := okB_lo i (fun j hj => h j om)
  have h2 := h i om
  unfold okB at h2
  rw [Bool.and_eq_true, Bool.and_eq_true, Bool.and_eq_true] at h2
  have h3 := of_decide_eq_true h2.1.1.1
  show -1 ≤ (bs.getD i default).1
  omega
def ic (n : Int) : List LV := [.v (.int .i64 n)]
theorem dic {l : List Int} : ∀ row, row ∈ l.map ic → ∀ c, c ∈ row → Data c := by
 intro row hr c hc
 obtain ⟨b, _, rfl⟩ := List.mem_map.1 hr
 rw [ic, List.mem_singleton] at hc
 subst hc; exact .v _
end Go.Ab
set_option linter.unusedVariables false
set_option linter.unusedSimpArgs false
namespace Go.Ab
open Go.RowKit
section
variable {P : Program} {T : TT} {E : TypeId → Bool} {e : Env} {h : Hp}
variable {dst : Option Tmp} {ty : TypeId} {pos : String} {af : Array Edge} {g : Option (Nat × Bool)} {id : Nat} {x y : Operand} {bt el : TypeId} {ti te : TI}
theorem oIxA {ki : IntKind} {n : Int} {j k r o : Nat} (hT : dsc T bt = some (.arr k el)) (hE : T el = some te) (hx : evE e x = some (.ptr r o)) (hy : evE e y = some (.v (.int ki n))) (hn : n = j) (hj : j < k) :
  OP P T E ⟨dst, .indexAddr bt x y, ty, pos, af, g⟩ id e h (.ptr r (o + j * te.size)) [] [] := .mk fun s m hs _ => ⟨by
   subst hn; simp [aop, hT, hE, hs x _ hx, hs y _ hy, hj], rfl⟩
theorem oIxAr {ki : IntKind} {n : Int} {j k : Nat} {cs : List LV} (hT : dsc T bt = some (.arr k el)) (hE : T el = some te) (hx : evE e x = some (.ro cs)) (hy : evE e y = some (.v (.int ki n))) (hn : n = j) (hj : j < k) :
  OP P T E ⟨dst, .indexAddr bt x y, ty, pos, af, g⟩ id e h (.ro (cs.drop (j * te.size))) [] [] := .mk fun s m hs _ => ⟨by
   subst hn; simp [aop, hT, hE, hs x _ hx, hs y _ hy, hj], rfl⟩
end
def sb (f : Nat → Bool) : List LV := (List.range 40).map fun i => .v (.bool (f i))
def lvS (f : Nat → Bool) : LV := .agg (sb f)
theorem sb_len (f : Nat → Bool) : (sb f).length = 40 := by simp [sb]
theorem data_sb (f : Nat → Bool) : ∀ c, c ∈ sb f → Data c := fun c hc => by
 obtain ⟨i, _, rfl⟩ := List.mem_map.1 hc
 exact .v _
instance {f : Nat → Bool} : DC (lvS f) := ⟨.agg _ (data_sb f)⟩
theorem sb_drop {f : Nat → Bool} {j : Nat} (hj : j < 40) : (sb f).drop j = .v (.bool (f j)) :: (sb f).drop (j + 1) := by
 have hl := sb_len f
 rw [List.drop_eq_getElem_cons om]
 congr 1
 simp [sb]
theorem sb_none : List.replicate 40 (LV.v (.bool false)) = sb fun _ => false := rfl
theorem sb_eq {f g : Nat → Bool} (h : ∀ i, i < 40 → f i = g i) : sb f = sb g := List.map_congr_left fun i hi => by rw [h i (List.mem_range.1 hi)]
theorem put_sb {f : Nat → Bool} {j : Nat} (hj : j < 40) (b : Bool) : putCells (sb f) j [.v (.bool b)] = some (sb fun i => if i = j then b else f i) := by
 have hl := sb_len f
 unfold putCells
 rw [if_pos (by rw [hl]; show j + 1 ≤ 40; omega)]
 congr 1
 refine List.ext_getElem (by simp [sb_len]; omega) fun i h1 h2 => ?_
 rw [sb_len] at h2
 simp only [sb, List.getElem_map, List.getElem_range]
 by_cases e1 : i < j
 ·rw [List.getElem_append_left (by simp [sb_len]; omega), if_neg om]
  simp
 ·rw [List.getElem_append_right (by simp; omega)]
  by_cases e2 : i = j
  ·subst e2
   simp [Nat.min_eq_left (show i ≤ 40 by omega)]
  ·rw [List.getElem_append_right (by simp; omega), if_neg e2]
   simp only [List.getElem_drop, List.getElem_map, List.getElem_range, List.length_take, List.length_map, List.length_range, List.length_cons, List.length_nil]
   congr 3
   omega
theorem cellsEqB_sb (f g : Nat → Bool) : ∀ l : List Nat, cellsEqB (l.map fun i => .v (.bool (f i))) (l.map fun i => .v (.bool (g i))) = some (l.all fun i => f i == g i)
 | [] => rfl
 | i :: l => by
  simp only [List.map_cons, cellsEqB, cellsEqB_sb f g l, Option.map_some, List.all_cons]
section
variable {P : Program} {T : TT} {E : TypeId → Bool} {e : Env} {h : Hp}
variable {dst : Option Tmp} {ty : TypeId} {pos : String} {af : Array Edge} {g : Option (Nat × Bool)} {id : Nat} {x y : Operand} {bt el : TypeId} {ti te : TI}
theorem oLdB {f : Nat → Bool} {r j : Nat} {el : TypeId} {z st : Nat} (hj : j < 40) (hx : evE e x = some (.ptr r (0 + j * 1))) (hE : T bt = some ti) (hb : ti.desc = .bool) (hr : getH h r = some { cells := sb f, sz := z, elem := el, st := st }) (h2 : Nat.beq st 2 = false) (hl : ∀ c r, loadLV ti (.v (.bool c) :: r) = some (.v (.bool c))) :
  OP P T E ⟨dst, .load bt x, ty, pos, af, g⟩ id e h (.v (.bool (f j))) [] [r] := oLdP hx hE hr h2 (by
 show loadLV ti ((sb f).drop (0 + j * 1)) = _
 rw [Nat.zero_add, Nat.mul_one, sb_drop hj]; exact hl _ _)
theorem oStB {f : Nat → Bool} {r j z : Nat} {b : Bool} {el : TypeId} (hj : j < 40) (hx : evE e x = some (.ptr r (0 + j * 1))) (hy : evE e y = some (.v (.bool b))) (hE : T bt = some ti) (hr : getH h r = some { cells := sb f, sz := z, elem := el, st := 0 }) (hz : 1 = ti.size) :
  OP P T E ⟨dst, .store bt x y, ty, pos, af, g⟩ id e h (.v undef) [(r, { cells := sb fun i => if i = j then b else f i, sz := z, elem := el, st := 0 })] [r] := oSt hx hy hE hr rfl rfl hz (by rw [Nat.zero_add, Nat.mul_one]; exact put_sb hj b)
end
def inl (l : List Int) (i : Nat) (s : Nat) : Bool := (l.take i).any fun t => decide (t = s)
def inL (l : List Int) (s : Nat) : Bool := l.any fun t => decide (t = s)
theorem inl_succ {l : List Int} {i t : Nat} (hi : i < l.length) (ht : l.getD i default = t) : (fun s => if s = t then true else inl l i s) = inl l (i + 1) := by
 funext s
 unfold inl
 rw [List.take_succ_eq_append_getElem hi, List.any_append]
 have e : l[i] = (t : Int) := by rw [← ht, List.getD_eq_getElem?_getD, List.getElem?_eq_getElem hi]; rfl
 simp only [List.any_cons, List.any_nil, Bool.or_false, e]
 by_cases h : s = t
 ·subst h; simp
 ·rw [if_neg h, decide_eq_false om, Bool.or_false]
theorem inl_all (l : List Int) : inl l l.length = inL l := by funext s; unfold inl inL; rw [List.take_length]
theorem VSet_lt {n : Nat} {l : List Int} (h : VSet n l = true) {i : Nat} (hi : i < l.length) : 0 ≤ l.getD i default ∧ l.getD i default < n := by
 have h1 : ∀ j, j < l.length → okI n l j = true := fun j hj => List.all_eq_true.1 h j (List.mem_range.2 hj)
 have h2 := okI_lo i (fun j hj => h1 j om)
 have h3 := h1 i hi
 unfold okI at h3
 rw [Bool.and_eq_true] at h3
 have h4 := of_decide_eq_true h3.1
 have h5 := of_decide_eq_true h3.2
 omega
end Go.Ab
set_option linter.unusedVariables false
set_option linter.unusedSimpArgs false
namespace Go.Ab
open Go.RowKit
theorem eqItems_bool {P : Program} {w : World} {e : TypeId} (he : P.underlying e = some .bool) (hp : P.plainKey e = true) (hc : P.cellsOf e = 1) (xs ys : Array Value) : ∀ is : List Nat,
  (∀ i, i ∈ is → ∃ p q, xs[i]? = some (.bool p) ∧ ys[i]? = some (.bool q)) →
  ∃ r : Bool, (Op.eqItems 9999 e 1 xs ys is).run P w = .ok r w ∧ (r = true ↔ ∀ i, i ∈ is → xs[i]? = ys[i]?)
 | [], _ => ⟨true, by simp [Op.eqItems], by simp⟩
 | i :: is, h => by
  obtain ⟨p, q, h1, h2⟩ := h i (by simp)
  obtain ⟨r, h3, h4⟩ := eqItems_bool he hp hc xs ys is fun j hj => h j (by simp [hj])
  have p1 := run_part_plain (P := P) w hp (xs := xs) (off := i) h1
  have p2 := run_part_plain (P := P) w hp (xs := ys) (off := i) h2
  have p3 : (Op.equalIn 9999 e (.bool p) (.bool q)).run P w = .ok (p == q) w := run_equalIn_bool w 9998 _ _ _ he
  simp only [Op.eqItems, Nat.mul_one, Sem.run_bind, p1, p2, p3, Result.andThen_ok]
  cases hpq : (p == q)
  ·refine ⟨false, by simp, ⟨fun h => (by cases h), fun h => ?_⟩⟩
   have := h i (by simp)
   rw [h1, h2] at this
   simp at this
   rw [this] at hpq; simp at hpq
  ·refine ⟨r, by simpa using h3, ?_⟩
   have : p = q := by simpa using hpq
   subst this
   rw [h4]
   simp [h1, h2]
theorem eqOk_arr {P : Program} {t e : TypeId} {n : Nat} {i : TypeInfo} (hg : P.eqGuardType P.depth t = false) (ht : P.underlying t = some (.array n e)) (hi : P.info? e = some i) (he : P.underlying e = some .bool) (hp : P.plainKey e = true) (hce : P.cellsOf e = 1) (hc : P.cellsOf t = n) : EqOk P t := by
 refine ⟨hg, fun xs ys w h1 h2 h3 => ?_⟩
 unfold EqKind at h3
 rw [ht] at h3
 obtain ⟨r, h4, h5⟩ := eqItems_bool (w := w) he hp hce xs ys (List.range n) fun i hi => by
  rw [List.mem_range] at hi
  have hx : i < xs.size := by omega
  have hy : i < ys.size := by omega
  obtain ⟨p, q, k1, k2⟩ := h3 i xs[i] ys[i] (Array.getElem?_eq_getElem hx) (Array.getElem?_eq_getElem hy)
  exact ⟨p, q, by rw [Array.getElem?_eq_getElem hx, k1], by rw [Array.getElem?_eq_getElem hy, k2]⟩
 refine ⟨r, ?_, h5.trans ⟨fun h => ?_, fun h => by rw [h]; simp⟩⟩
 ·rw [run_equalIn_array w 9999 xs ys ht hi, hce]; exact h4
 ·refine Array.ext h1 fun i hi hi' => ?_
  have := h i (List.mem_range.2 om)
  rw [Array.getElem?_eq_getElem hi, Array.getElem?_eq_getElem hi'] at this
  exact Option.some.inj this
def tab {α : Type} (n : Nat) (f : Nat → α) : List α := (List.range n).map f
def fset {α : Type} (f : Nat → α) (j : Nat) (a : α) : Nat → α := fun i => if i = j then a else f i
theorem tab_len {α : Type} (n : Nat) (f : Nat → α) : (tab n f).length = n := by simp [tab]
theorem tab_get {α : Type} [Inhabited α] {n j : Nat} (f : Nat → α) (h : j < n) : (tab n f).getD j default = f j := by
 rw [List.getD_eq_getElem?_getD, List.getElem?_eq_getElem (by rw [tab_len]; exact h)]
 simp [tab]
theorem tab_set {α : Type} {n j : Nat} (f : Nat → α) (a : α) : (tab n f).set j a = tab n (fset f j a) := by
 refine List.ext_getElem (by simp [tab]) fun i h1 h2 => ?_
 rw [List.getElem_set]
 simp only [tab, fset, List.getElem_map, List.getElem_range]
 by_cases h : j = i
 ·subst h; simp
 ·rw [if_neg h, if_neg (Ne.symm h)]
theorem tab_eq {α : Type} {n : Nat} {f g : Nat → α} (h : ∀ i, i < n → f i = g i) : tab n f = tab n g := List.map_congr_left fun i hi => h i (List.mem_range.1 hi)
theorem tab_const {α : Type} (n : Nat) (a : α) : List.replicate n a = tab n fun _ => a := by
 refine List.ext_getElem (by simp [tab]) fun i h1 h2 => by simp [tab]
def bc (b : Bool) : List LV := [.v (.bool b)]
theorem dbc (b : Bool) : ∀ c, c ∈ bc b → Data c := by intro c hc; rw [bc, List.mem_singleton] at hc; subst hc; exact .v _
theorem dic1 (b : Int) : ∀ c, c ∈ ic b → Data c := by intro c hc; rw [ic, List.mem_singleton] at hc; subst hc; exact .v _
def fl (n : Nat) (f : Nat → Bool) : List Int := ((List.range n).filter f).map fun (i : Nat) => (i : Int)
theorem fl_succ {n : Nat} {f : Nat → Bool} : fl (n + 1) f = if f n then fl n f ++ [(n : Int)] else fl n f := by
 unfold fl
 rw [List.range_succ, List.filter_append]
 by_cases h : f n = true <;> simp [h]
theorem fl_len (n : Nat) (f : Nat → Bool) : (fl n f).length ≤ n := by
 unfold fl; rw [List.length_map]; exact Nat.le_trans (List.length_filter_le _ _) (by simp)
theorem fl_mem {n : Nat} {f : Nat → Bool} {t : Int} : t ∈ fl n f ↔ ∃ s : Nat, t = s ∧ s < n ∧ f s = true := by
 unfold fl
 rw [List.mem_map]
 constructor
 ·rintro ⟨s, h, rfl⟩; rw [List.mem_filter, List.mem_range] at h; exact ⟨s, rfl, h.1, h.2⟩
 ·rintro ⟨s, rfl, h1, h2⟩; exact ⟨s, by rw [List.mem_filter, List.mem_range]; exact ⟨h1, h2⟩, rfl⟩
abbrev lvL (k : Nat) (l : List Int) : LV := .sl k (l.map ic)
abbrev lvF (k n : Nat) (f : Nat → Bool) : LV := .sl k ((tab n f).map bc)
abbrev lvG (k n : Nat) (g : Nat → Int) : LV := .sl k ((tab n g).map ic)
theorem dlvL (k : Nat) (l : List Int) : Data (lvL k l) := .sl _ _ dic
theorem dlvF (k n : Nat) (f : Nat → Bool) : Data (lvF k n f) := .sl _ _ (data_of dbc)
instance {k : Nat} {l : List Int} : DC (lvL k l) := ⟨dlvL k l⟩
instance {k n : Nat} {f : Nat → Bool} : DC (lvF k n f) := ⟨dlvF k n f⟩
instance {k n : Nat} {f : Nat → Int} : DC (lvG k n f) := ⟨dlvL k _⟩
section
variable {P : Program} {T : TT} {E : TypeId → Bool} {e : Env} {h : Hp}
variable {dst : Option Tmp} {ty : TypeId} {pos : String} {af : Array Edge} {g : Option (Nat × Bool)} {id : Nat}
def Lent (h : Hp) (S : List Nat) : Prop := ∀ q, q ∈ S → ∃ o, getH h q = some o ∧ o.st ≠ 2
inductive SnapB (h : Hp) (S : List Nat) : List LV → List LV → Prop
 | nil : SnapB h S [] []
 | cons {l l' : LV} {ls ls' : List LV} : (∀ m, FitsM h m → Snap m (· ∈ S) l l') → SnapB h S ls ls' → SnapB h S (l :: ls) (l' :: ls')
theorem SnapB.snap {m : Mem} {S : List Nat} {d : Delta} {ls ls' : List LV} (hm : FitsM h m) (hk : keys d = S) (hw : SnapB h S ls ls') : SnapL m d ls ls' := by
 subst hk
 induction hw with
 | nil => exact ⟨rfl, by simp⟩
 | cons h1 _ ih =>
  refine ⟨by simp [ih.1], fun i l l' hl hl' => ?_⟩
  cases i with
  | zero => simp at hl hl'; subst hl; subst hl'; exact h1 m hm
  | succ i => simp at hl hl'; exact ih.2 i l l' hl hl'
theorem Lent.delta {S : List Nat} : Lent h S → ∃ d : Delta, keys d = S ∧ ∀ p, p ∈ d → ∃ o, getH h p.1 = some o ∧ o.st ≠ 2 ∧ p.2 = { o with st := 1 } := fun hl => by
 induction S with
 | nil => exact ⟨[], rfl, fun p hp => by simp at hp⟩
 | cons q S ih =>
  obtain ⟨d, h1, h2⟩ := ih fun q hq => hl q (by simp [hq])
  obtain ⟨o, k1, k2⟩ := hl q (by simp)
  refine ⟨(q, { o with st := 1 }) :: d, by simp [keys] at h1 ⊢; exact h1, fun p hp => ?_⟩
  rcases List.mem_cons.1 hp with rfl | hp
  ·exact ⟨o, k1, k2, rfl⟩
  ·exact h2 p hp
theorem oCallB {f : FuncId} {args : Array Operand} {at_ : Array TypeId} {ls : List LV} (S : List Nat) (ls' : List LV) {x : Value} (ha : argsE e args.toList = some ls) (hr : Run P T E (.call f ls' (.v x))) (hd : SnapB h S ls ls') (hf : Lent h S) :
  OP P T E ⟨dst, .call { callee := .value (.func f), args := args, argTypes := at_ }, ty, pos, af, g⟩ id e h (.v x) [] S := fun s m hs hm => by
 obtain ⟨d, h1, h2⟩ := hf.delta
 subst h1
 exact .bcall _ _ _ _ _ d _ (.func f) f [] [] ls' rfl rfl rfl (by
  rw [argsE_sound hs ha]
  simp only [List.nil_append, List.append_nil]
  exact hd.snap hm rfl) (fun p hp => by obtain ⟨o, k1, k2, k3⟩ := h2 p hp; exact ⟨o, hm _ _ k1, k2, k3⟩) hr
theorem oCallVB {t : Tmp} {f : FuncId} {first cap : List LV} {args : Array Operand} {at_ : Array TypeId} {ls : List LV} (S : List Nat) (ls' : List LV) {x : Value} (hv : evE e (.tmp t) = some (.fn (.func f) first cap)) (ha : argsE e args.toList = some ls) (hr : Run P T E (.call f ls' (.v x))) (hd : SnapB h S (first ++ ls ++ cap) ls') (hf : Lent h S) :
  OP P T E ⟨dst, .call { callee := .value (.tmp t), args := args, argTypes := at_ }, ty, pos, af, g⟩ id e h (.v x) [] S := fun s m hs hm => by
 obtain ⟨d, h1, h2⟩ := hf.delta
 subst h1
 exact .bcall _ _ _ _ _ d _ (.tmp t) f first cap ls' rfl rfl (hs _ _ hv) (by
  rw [argsE_sound hs ha]
  exact hd.snap hm rfl) (fun p hp => by obtain ⟨o, k1, k2, k3⟩ := h2 p hp; exact ⟨o, hm _ _ k1, k2, k3⟩) hr
theorem SnapB.data {S : List Nat} {l : LV} {ls ls' : List LV} (hl : Data l) (k : SnapB h S ls ls') : SnapB h S (l :: ls) (l :: ls') := .cons (fun m _ => .data _ hl) k
theorem SnapB.own {S : List Nat} {q sz len : Nat} {ob : Ob} {ls ls' : List LV} (ys : List (List LV)) (hlen : len = ys.length) (hq : getH h q = some ob) (h2 : ob.st ≠ 2) (hz : ob.sz = sz) (h0 : 0 < sz) (hS : q ∈ S) (hc : ob.cells = ys.flatten) (hl : ∀ row, row ∈ ys → row.length = sz) (hd : ∀ row, row ∈ ys → ∀ c, c ∈ row → Data c) (k : SnapB h S ls ls') :
  SnapB h S (.ref q sz 0 len :: ls) (.sl 1 ys :: ls') := .cons (fun m hm => by
   subst hlen
   obtain ⟨d, hk⟩ : ∃ d : Delta, keys d = S := ⟨S.map fun q => (q, ⟨[], 0, 0, 0⟩), by simp [keys, Function.comp_def]⟩
   subst hk
   exact snapRef hq h2 hz h0 hS hc hl hd m hm) k
theorem snapBox {S : List Nat} {q : Nat} {ob : Ob} {ds : List LV} {m : Mem} (hq : m q = some ob) (h2 : ob.st ≠ 2) (hS : q ∈ S) (hlen : ob.cells.length = ds.length) (ho : ∀ (i : Nat) (c d : LV), ob.cells[i]? = some c → ds[i]? = some d → d.one = c.one) (hd : ∀ (i : Nat) (c d : LV), ob.cells[i]? = some c → ds[i]? = some d → Snap m (· ∈ S) c d) :
  Snap m (· ∈ S) (.ptr q 0) (.ro ds) := .ptr q 0 ob ds hq hS h2 (by simpa using hlen) (by simpa using ho) (by simpa using hd)
theorem snapBoxD {S : List Nat} {q : Nat} {ob : Ob} {m : Mem} (hq : m q = some ob) (h2 : ob.st ≠ 2) (hS : q ∈ S) (hd : ∀ c, c ∈ ob.cells → Data c) : Snap m (· ∈ S) (.ptr q 0) (.ro ob.cells) :=
 snapBox hq h2 hS rfl (fun i c d hc hd => by rw [hc] at hd; cases hd; rfl) fun i c d hc hd' => by rw [hc] at hd'; cases hd'; exact .data _ (hd c (List.mem_of_getElem? hc))
end
end Go.Ab
set_option linter.unusedVariables false
set_option linter.unusedSimpArgs false
namespace Go.Ab
open Go.RowKit
section
variable {P : Program} {T : TT} {E : TypeId → Bool} {e : Env} {h : Hp}
variable {dst : Option Tmp} {ty : TypeId} {pos : String} {af : Array Edge} {g : Option (Nat × Bool)} {id : Nat} {x y : Operand} {bt el : TypeId} {ti te : TI}
theorem oStTi {f : Nat → Int} {b : Int} {n j r : Nat} (hx : evE e x = some (.ptr r ((0 + j) * 1))) (hy : evE e y = some (.v (.int .i64 b))) (hE : T bt = some ti) (hr : getH h r = some { cells := ((tab n f).map ic).flatten, sz := 1, elem := el, st := 0 }) (hj : j < n) (hz : 1 = ti.size) :
  OP P T E ⟨dst, .store bt x y, ty, pos, af, g⟩ id e h (.v undef) [(r, { cells := ((tab n (fset f j b)).map ic).flatten, sz := 1, elem := el, st := 0 })] [r] := by
 have := oStO (P := P) (T := T) (E := E) (e := e) (h := h) (dst := dst) (ty := ty) (pos := pos) (af := af) (g := g) (id := id) (f := ic) (us := tab n f) b hx hy hE hr (fun _ => rfl) hz rfl (by rw [tab_len]; exact hj) rfl
 rwa [tab_set] at this
theorem oMf1 {f : Fn} {a : Operand} {l : LV} {args : Array Operand} {ls : List LV} (hx : evE e a = some l) (ha : argsE e args.toList = some ls) : OP P T E ⟨dst, .makeFunc f #[a] args, ty, pos, af, g⟩ id e h (.fn f [l] ls) [] [] := .mk fun s m hs _ => ⟨by
 simp only [aop]
 rw [argsE_sound hs ha]; simp [hs a _ hx], rfl⟩
theorem oNcR {cs : List LV} (hx : evE e x = some (.ro cs)) : OP P T E ⟨dst, .nilCheck x, ty, pos, af, g⟩ id e h (.ro cs) [] [] := .mk fun s m hs _ => ⟨by simp only [aop]; rw [hs x _ hx], rfl⟩
end
theorem rows_ic {n : Nat} {f : Nat → Int} : ∀ row, row ∈ (tab n f).map ic → row.length = 1 := rows_of (f := ic) fun _ => rfl
theorem any_yes {α : Type} [Inhabited α] {p : α → Bool} {us : List α} {i : Nat} (hi : i < us.length) (hp : p (us.getD i default) = true) : us.any p = true := List.any_eq_true.2 ⟨_, getD_mem hi, hp⟩
theorem any_end {α : Type} {p : α → Bool} {us : List α} {i : Nat} (h : (us.take i).any p = false) (hi : us.length ≤ i) : us.any p = false := by
 rwa [List.take_of_length_le hi] at h
def wi (c : CH) (f : Nat → Bool) : Bool := c.2.2.all fun b => f b.1.toNat
def me (c : CH) (f : Nat → Bool) : Bool := c.2.2.any fun b => f b.1.toNat
def okc (f g : Nat → Bool) (c : CH) : Bool := wi c f && me c g
def alw (ss : List ST) (s : Nat) (p : Int) (f g : Nat → Bool) : Bool :=
 if (ss.getD s default).1.1 = p then (ss.getD s default).2.2.any (okc f g) else (ss.getD s default).2.2.all (okc f g)
structure WT (ss : List ST) : Prop where
 to : ∀ s, s ∈ ss → ∀ c, c ∈ s.2.2 → ∀ b, b ∈ c.2.2 → 0 ≤ b.1 ∧ b.1 < ss.length
 len : ss.length ≤ 40
end Go.Ab
set_option linter.unusedVariables false
set_option linter.unusedSimpArgs false
namespace Go.Ab
open Go.RowKit
section
variable {P : Program} {T : TT} {E : TypeId → Bool} {e : Env} {h : Hp}
variable {dst : Option Tmp} {ty : TypeId} {pos : String} {af : Array Edge} {g : Option (Nat × Bool)} {id : Nat} {x y : Operand} {bt el : TypeId} {ti te : TI}
theorem oLdS {f : Nat → Bool} {r sz st : Nat} (hx : evE e x = some (.ptr r 0)) (hE : T bt = some ti) (hr : getH h r = some { cells := sb f, sz := sz, elem := el, st := st }) (h2 : Nat.beq st 2 = false) (ha : ti.agg = true) (hz : ti.size = 40) :
  OP P T E ⟨dst, .load bt x, ty, pos, af, g⟩ id e h (lvS f) [] [r] := oLdP hx hE hr h2 (by
 unfold loadLV
 rw [ha, hz, List.drop_zero]
 simp only [if_true, sb_len, Nat.le_refl]
 rw [List.take_of_length_le (by rw [sb_len]; exact Nat.le_refl _)]; rfl)
theorem oStS {f : Nat → Bool} {cs : List LV} {r sz : Nat} (hx : evE e x = some (.ptr r 0)) (hy : evE e y = some (lvS f)) (hE : T bt = some ti) (hr : getH h r = some { cells := cs, sz := sz, elem := el, st := 0 }) (hc : cs.length = 40) (hz : ti.size = 40) :
  OP P T E ⟨dst, .store bt x y, ty, pos, af, g⟩ id e h (.v undef) [(r, { cells := sb f, sz := sz, elem := el, st := 0 })] [r] := oSt hx hy hE hr rfl rfl (by show (sb f).length = _; rw [sb_len, hz]) (by
 show putCells cs 0 (sb f) = some (sb f)
 unfold putCells
 rw [if_pos (by rw [sb_len, hc]; decide), List.take_zero, List.drop_eq_nil_of_le (by rw [sb_len, hc]; decide)]
 simp)
theorem oAlS {et : TypeId} (hE : T et = some te) (hz : te.size = 40) (h0 : te.zero.map lz = List.replicate 40 (LV.v (.bool false))) : OP P T E ⟨dst, .alloc et, ty, pos, af, g⟩ id e h (.ptr id 0) [(id, { cells := sb fun _ => false, sz := 40, elem := et, st := 0 })] [] := by
 have := oAl (P := P) (T := T) (E := E) (e := e) (h := h) (dst := dst) (ty := ty) (pos := pos) (af := af) (g := g) (id := id) hE
 rw [h0, hz] at this
 rwa [sb_none] at this
theorem oBxS {et : TypeId} {f : Nat → Bool} (hx : evE e x = some (lvS f)) : OP P T E ⟨dst, .box et x, ty, pos, af, g⟩ id e h (.ptr id 0) [(id, { cells := sb f, sz := 40, elem := et, st := 0 })] [] := by
 have := oBx (P := P) (T := T) (E := E) (e := e) (h := h) (dst := dst) (ty := ty) (pos := pos) (af := af) (g := g) (id := id) (et := et) hx rfl
 rwa [show (lvS f).cells.length = 40 from sb_len f] at this
end
def eqS (f g : Nat → Bool) : Bool := (List.range 40).all fun i => f i == g i
theorem eqS_iff {f g : Nat → Bool} : eqS f g = true ↔ ∀ i, i < 40 → f i = g i := by
 unfold eqS
 rw [List.all_eq_true]
 exact ⟨fun h i hi => by simpa using h i (List.mem_range.2 hi), fun h i hi => by simpa using h i (List.mem_range.1 hi)⟩
theorem cellsEq_lvS (f g : Nat → Bool) : cellsEqB (sb f) (sb g) = some (eqS f g) := cellsEqB_sb f g _
section
variable {P : Program} {T : TT} {E : TypeId → Bool} {e : Env} {h : Hp}
variable {dst : Option Tmp} {ty : TypeId} {pos : String} {af : Array Edge} {g : Option (Nat × Bool)} {id : Nat} {x y : Operand} {t yt el : TypeId} {ti te : TI}
theorem oEqSets {f f' : Nat → Bool} {k : Nat} (hE : E t = true) (hx : evE e x = some (lvS f)) (hy : evE e y = some (lvS f')) (hT : T t = some ti) (hd : ti.desc = .arr k el) (hz : ti.size = 40) : OP P T E ⟨dst, .binOp .eql t x y yt, ty, pos, af, g⟩ id e h (.v (.bool (eqS f f'))) [] [] := .mk fun s m hs _ => ⟨by
 have h1 : eqK ti (sb f) (sb f') = some (eqS f f') := by unfold eqK; rw [hd]; exact cellsEq_lvS f f'
 simp only [aop, hs x _ hx, hs y _ hy, lvS, binLV, hT, hE, sb_len, hz, decide_true, Bool.and_self, if_true, h1, Option.map_some], rfl⟩
end
end Go.Ab
set_option linter.unusedVariables false
set_option linter.unusedSimpArgs false
namespace Go.Ab
open Go.RowKit
theorem tab_repi (n : Nat) : (List.replicate n [LV.v (.int .i64 0)]).flatten = ((tab n fun _ => (0 : Int)).map ic).flatten := by rw [← tab_const, List.map_replicate]; rfl
theorem sb_F {el : TypeId} {f : Nat → Bool} (hf : ∀ i, f i = false) : some (Ob.mk (sb fun _ => false) 40 el 0) = some (Ob.mk (sb f) 40 el 0) := by
 rw [sb_eq (f := f) fun i _ => hf i]
theorem dbrc1 (b : BR) : ∀ x, x ∈ brc b → Data x := dbrc (bs := [b]) _ (by simp)
section
variable {P : Program} {T : TT} {E : TypeId → Bool} {e : Env} {h : Hp}
variable {dst : Option Tmp} {ty : TypeId} {pos : String} {af : Array Edge} {g : Option (Nat × Bool)} {id : Nat} {x y : Operand} {bt el : TypeId} {ti te : TI}
theorem oLdSb {f : Nat → Bool} {j : Nat} (hx : evE e x = some (.ro ((sb f).drop (j * 1)))) (hE : T bt = some ti) (hj : j < 40) (hs : ti.size = 1) (ha : ti.agg = false) :
  OP P T E ⟨dst, .load bt x, ty, pos, af, g⟩ id e h (.v (.bool (f j))) [] [] := oLd (cs := .v (.bool (f j)) :: (sb f).drop (j + 1)) (by rw [hx, Nat.mul_one, sb_drop hj]) hE (by unfold loadLV; rw [ha]; rfl)
end
theorem below_succ (i : Nat) : fset (fun s => decide (s < i)) i true = fun s => decide (s < i + 1) := by
 funext s
 unfold fset
 by_cases h : s = i
 ·subst h; rw [if_pos rfl]; exact (decide_eq_true om).symm
 ·rw [if_neg h]; exact decide_eq_decide.2 om
end Go.Ab
set_option linter.unusedVariables false
set_option linter.unusedSimpArgs false
namespace Go.Ab
open Go.RowKit
section
variable {P : Program} {T : TT} {E : TypeId → Bool} {e : Env} {h : Hp}
variable {dst : Option Tmp} {ty : TypeId} {pos : String} {af : Array Edge} {g : Option (Nat × Bool)} {id : Nat}
theorem SnapB.datas {S : List Nat} : ∀ {ls : List LV}, (∀ c, c ∈ ls → Data c) → SnapB h S ls ls
 | [], _ => .nil
 | l :: ls, hd => .data (hd l (by simp)) (SnapB.datas fun c hc => hd c (by simp [hc]))
theorem SnapB.get {S : List Nat} {m : Mem} (hm : FitsM h m) {ls ls' : List LV} (hw : SnapB h S ls ls') : ls.length = ls'.length ∧ ∀ (i : Nat) (c d : LV), ls[i]? = some c → ls'[i]? = some d → Snap m (· ∈ S) c d := by
 induction hw with
 | nil => exact ⟨rfl, by simp⟩
 | cons h1 _ ih =>
  refine ⟨by simp [ih.1], fun i l l' hl hl' => ?_⟩
  cases i with
  | zero => simp at hl hl'; subst hl; subst hl'; exact h1 m hm
  | succ i => simp at hl hl'; exact ih.2 i l l' hl hl'
theorem SnapB.fn {S : List Nat} {f : Fn} {as0 as1 bs bs' ls ls' : List LV} (h1 : SnapB h S as0 as1) (h2 : SnapB h S bs bs') (k : SnapB h S ls ls') : SnapB h S (.fn f as0 bs :: ls) (.fn f as1 bs' :: ls') :=
 .cons (fun m hm => .fn f _ _ _ _ (h1.get hm).1 (h2.get hm).1 (h1.get hm).2 (h2.get hm).2) k
theorem SnapB.box {S : List Nat} {q : Nat} {ob : Ob} {ls ls' : List LV} (hq : getH h q = some ob) (hS : q ∈ S) (h2 : ob.st ≠ 2) (hd : ∀ c, c ∈ ob.cells → Data c) (k : SnapB h S ls ls') : SnapB h S (.ptr q 0 :: ls) (.ro ob.cells :: ls') :=
 .cons (fun m hm => snapBoxD (hm _ _ hq) h2 hS hd) k
theorem SnapB.boxF {S : List Nat} {q : Nat} {ob : Ob} {ds : List LV} {ls ls' : List LV} (hq : getH h q = some ob) (hS : q ∈ S) (h2 : ob.st ≠ 2) (ho : ob.cells.map LV.one = ds.map LV.one) (hd : SnapB h S ob.cells ds) (k : SnapB h S ls ls') : SnapB h S (.ptr q 0 :: ls) (.ro ds :: ls') :=
 .cons (fun m hm => snapBox (hm _ _ hq) h2 hS (hd.get hm).1 (fun i c d hc hd => by
  have := congrArg (·[i]?) ho
  simp only [List.getElem?_map, hc, hd, Option.map_some, Option.some.injEq] at this
  exact this.symm) (hd.get hm).2) k
theorem SnapB.app {S : List Nat} {as0 as1 bs bs' : List LV} (h1 : SnapB h S as0 as1) (h2 : SnapB h S bs bs') : SnapB h S (as0 ++ bs) (as1 ++ bs') := by
 induction h1 with
 | nil => exact h2
 | cons k _ ih => exact .cons k ih
theorem SnapB.toA {d : Delta} {ls ls' : List LV} (hw : SnapB h (keys d) ls ls') : SnapA h d ls ls' := by
 induction hw with
 | nil => exact .nil
 | cons k _ ih => exact .cons k ih
theorem lent0 : Lent h [] := fun q hq => by simp at hq
theorem Lent.cons {q : Nat} {S : List Nat} {o : Ob} (hq : getH h q = some o) (h2 : o.st ≠ 2) (k : Lent h S) : Lent h (q :: S) := fun r hr => by
 rcases List.mem_cons.1 hr with rfl | hr
 ·exact ⟨o, hq, h2⟩
 ·exact k r hr
theorem oCallVD {t : Tmp} {f : FuncId} {first cap : List LV} {args : Array Operand} {at_ : Array TypeId} {ls : List LV} {r : LV} (hv : evE e (.tmp t) = some (.fn (.func f) first cap)) (ha : argsE e args.toList = some ls) (hr : Run P T E (.call f (first ++ ls ++ cap) r)) (hd : ∀ c, c ∈ first ++ ls ++ cap → Data c) :
  OP P T E ⟨dst, .call { callee := .value (.tmp t), args := args, argTypes := at_ }, ty, pos, af, g⟩ id e h r [] [] := fun s m hs hm =>
 .pcall _ _ _ _ _ _ _ (.tmp t) f first cap (first ++ ls ++ cap) rfl rfl (hs _ _ hv) (by
  rw [argsE_sound hs ha]
  exact ⟨rfl, fun i l l' hl hl' => by rw [hl] at hl'; cases hl'; exact .data _ (hd l (List.mem_of_getElem? hl))⟩) (by intro p hp; simp at hp) hr
end
theorem data3 {as0 bs cs : List LV} (h1 : ∀ c, c ∈ as0 → Data c) (h2 : ∀ c, c ∈ bs → Data c) (h3 : ∀ c, c ∈ cs → Data c) : ∀ c, c ∈ as0 ++ bs ++ cs → Data c := fun c hc => by
 rcases List.mem_append.1 hc with hc | hc
 ·rcases List.mem_append.1 hc with hc | hc
  ·exact h1 c hc
  ·exact h2 c hc
 ·exact h3 c hc
theorem dII (n : Int) : ∀ c, c ∈ [LV.v (.int .i64 n)] → Data c := by intro c hc; rw [List.mem_singleton] at hc; subst hc; exact .v _
theorem dro (f : Nat → Bool) : ∀ c, c ∈ [LV.ro (sb f)] → Data c := by intro c hc; rw [List.mem_singleton] at hc; subst hc; exact .ro _ (data_sb f)
theorem dfn {f : Fn} {as0 bs : List LV} (h1 : ∀ c, c ∈ as0 → Data c) (h2 : ∀ c, c ∈ bs → Data c) : Data (.fn f as0 bs) := .fn f as0 bs h1 h2
theorem droF {f : Fn} {as0 bs : List LV} (h1 : ∀ c, c ∈ as0 → Data c) (h2 : ∀ c, c ∈ bs → Data c) : ∀ c, c ∈ [LV.ro [.fn f as0 bs]] → Data c := by
 intro c hc; rw [List.mem_singleton] at hc; subst hc
 exact .ro _ fun c hc => by rw [List.mem_singleton] at hc; subst hc; exact dfn h1 h2
theorem d0 : ∀ c, c ∈ ([] : List LV) → Data c := by intro c hc; simp at hc
def pk (x : ST) (p : Int) (q : CH → Bool) : Int := if x.1.1 = p then fidx q x.2.2 else if x.2.2.any (fun c => !q c) then -1 else 0
end Go.Ab
set_option linter.unusedVariables false
set_option linter.unusedSimpArgs false
namespace Go.Ab
open Go.RowKit
def mixf {α : Type} (f f' : Nat → α) (j : Nat) : Nat → α := fun s => if s < j then f' s else f s
theorem mixf_set {α : Type} {f f' : Nat → α} {j : Nat} : mixf f f' (j + 1) = fset (mixf f f' j) j (f' j) := by
 funext s
 unfold mixf fset
 by_cases h : s = j
 ·subst h; rw [if_pos om, if_pos rfl]
 ·rw [if_neg h]
  show _ = if s < j then f' s else f s
  by_cases h2 : s < j
  ·rw [if_pos h2, if_pos om]
  ·rw [if_neg h2, if_neg om]
theorem mixf_skip {α : Type} {f f' : Nat → α} {j : Nat} (h : f' j = f j) : mixf f f' (j + 1) = mixf f f' j := by
 rw [mixf_set, h]
 funext s
 unfold mixf fset
 by_cases h : s = j
 ·subst h; rw [if_pos rfl, if_neg om]
 ·rw [if_neg h]
theorem mixf_zero {α : Type} {f f' : Nat → α} : mixf f f' 0 = f := by funext s; unfold mixf; rw [if_neg om]
theorem mixf_end {α : Type} {f f' : Nat → α} {n : Nat} (h : ∀ s, n ≤ s → f' s = f s) : mixf f f' n = f' := by
 funext s; unfold mixf
 by_cases h2 : s < n
 ·rw [if_pos h2]
 ·rw [if_neg h2, h s om]
def gstep (ss : List ST) (p : Int) (ins old : Nat → Bool) (s : Nat) : Bool := old s || (decide (s < ss.length) && ins s && alw ss s p ins old)
def newc (ss : List ST) (p : Int) (ins old : Nat → Bool) (c : Nat → Int) (s : Nat) : Int :=
 if (!old s && decide (s < ss.length) && ins s && alw ss s p ins old && decide ((ss.getD s default).1.1 = p)) = true then pk (ss.getD s default) p (okc ins old) else c s
def gx (ss : List ST) (p : Int) (ins goal : Nat → Bool) : Nat → Nat → Bool
 | 0 => goal
 | k + 1 => gstep ss p ins (gx ss p ins goal k)
def gc (ss : List ST) (p : Int) (ins goal : Nat → Bool) : Nat → Nat → Int
 | 0 => fun _ => 0
 | k + 1 => newc ss p ins (gx ss p ins goal k) (gc ss p ins goal k)
theorem pk_nonneg {x : ST} {p : Int} {q : CH → Bool} : decide (0 ≤ pk x p q) = if x.1.1 = p then x.2.2.any q else x.2.2.all q := by
 unfold pk
 by_cases h : x.1.1 = p
 ·rw [if_pos h, if_pos h]; exact fidx_nonneg q _
 ·rw [if_neg h, if_neg h, ← any_not]
  cases h2 : x.2.2.any fun c => !q c
  ·rfl
  ·rfl
theorem pk_alw {ss : List ST} {s : Nat} {p : Int} {ins old : Nat → Bool} : decide (0 ≤ pk (ss.getD s default) p (okc ins old)) = alw ss s p ins old := pk_nonneg
theorem gstep_out {ss : List ST} {p : Int} {ins old : Nat → Bool} {s : Nat} (h : ss.length ≤ s) : gstep ss p ins old s = old s := by
 unfold gstep; rw [decide_eq_false om]; simp
theorem gstep_le {ss : List ST} {p : Int} {ins old : Nat → Bool} {s : Nat} (h : old s = true) : gstep ss p ins old s = true := by unfold gstep; rw [h, Bool.true_or]
theorem newc_out {ss : List ST} {p : Int} {ins old : Nat → Bool} {c : Nat → Int} {s : Nat} (h : ss.length ≤ s) : newc ss p ins old c s = c s := by
 unfold newc; rw [if_neg]; rw [decide_eq_false (by omega : ¬ s < ss.length)]; simp
theorem newc_old {ss : List ST} {p : Int} {ins old : Nat → Bool} {c : Nat → Int} {s : Nat} (h : gstep ss p ins old s = old s) : newc ss p ins old c s = c s := by
 unfold newc; rw [if_neg]
 intro h2
 simp only [Bool.and_eq_true, Bool.not_eq_true'] at h2
 obtain ⟨⟨⟨⟨h3, h4⟩, h5⟩, h6⟩, _⟩ := h2
 unfold gstep at h
 rw [h3, h4, h5, h6] at h; cases h
theorem gx_stable {ss : List ST} {p : Int} {ins goal : Nat → Bool} {k : Nat} (h : gx ss p ins goal (k + 1) = gx ss p ins goal k) : ∀ m, k ≤ m → gx ss p ins goal m = gx ss p ins goal k ∧ gc ss p ins goal m = gc ss p ins goal k := by
 intro m hm
 induction m with
 | zero =>
  obtain rfl : k = 0 := by omega
  exact ⟨rfl, rfl⟩
 | succ m ih =>
  rcases Nat.lt_or_ge m k with h1 | h1
  ·obtain rfl : k = m + 1 := by omega
   exact ⟨rfl, rfl⟩
  ·obtain ⟨i1, i2⟩ := ih h1
   have e1 : gstep ss p ins (gx ss p ins goal m) = gx ss p ins goal m := by rw [i1]; exact h
   refine ⟨by show gstep ss p ins (gx ss p ins goal m) = _; rw [e1, i1], ?_⟩
   show newc ss p ins (gx ss p ins goal m) (gc ss p ins goal m) = _
   rw [← i2]
   funext s
   exact newc_old (congrFun e1 s)
theorem fl_lt {f g : Nat → Bool} : ∀ n, (∀ s, s < n → f s = true → g s = true) → ((fl n f).length ≤ (fl n g).length) ∧ ((∃ s, s < n ∧ f s = false ∧ g s = true) → (fl n f).length < (fl n g).length)
 | 0, _ => ⟨Nat.le_refl _, fun ⟨s, h, _⟩ => absurd h om⟩
 | n + 1, h => by
  obtain ⟨i1, i2⟩ := fl_lt n fun s hs => h s om
  rw [fl_succ, fl_succ]
  cases hf : f n
  ·cases hg : g n
   ·simp only [Bool.false_eq_true, if_false]
    refine ⟨i1, fun ⟨s, h1, h2, h3⟩ => i2 ⟨s, ?_, h2, h3⟩⟩
    rcases Nat.lt_or_ge s n with h4 | h4
    ·exact h4
    ·obtain rfl : s = n := by omega
     rw [hg] at h3; cases h3
   ·simp only [Bool.false_eq_true, if_false, if_true, List.length_append, List.length_cons, List.length_nil]
    exact ⟨om, fun _ => by omega⟩
  ·have hg := h n om hf
   rw [hg]
   simp only [if_true, List.length_append, List.length_cons, List.length_nil]
   refine ⟨om, fun ⟨s, h1, h2, h3⟩ => ?_⟩
   have h5 : s < n := by
    rcases Nat.lt_or_ge s n with h4 | h4
    ·exact h4
    ·obtain rfl : s = n := by omega
     rw [hf] at h2; cases h2
   have := i2 ⟨s, h5, h2, h3⟩
   omega
theorem gx_grow {ss : List ST} {p : Int} {ins goal : Nat → Bool} {k : Nat} (hn : ss.length ≤ 40) (hk : k ≤ (fl ss.length (gx ss p ins goal k)).length) (h : eqS (gx ss p ins goal (k + 1)) (gx ss p ins goal k) = false) : k + 1 ≤ (fl ss.length (gx ss p ins goal (k + 1))).length := by
 obtain ⟨_, h2⟩ := fl_lt (f := gx ss p ins goal k) (g := gx ss p ins goal (k + 1)) ss.length fun s _ hs => gstep_le hs
 have h3 : ∃ s, s < ss.length ∧ gx ss p ins goal k s = false ∧ gx ss p ins goal (k + 1) s = true := by
  apply Classical.byContradiction
  intro hc
  have : eqS (gx ss p ins goal (k + 1)) (gx ss p ins goal k) = true := eqS_iff.2 fun i hi => by
   rcases Nat.lt_or_ge i ss.length with h4 | h4
   ·cases h5 : gx ss p ins goal k i
    ·cases h6 : gx ss p ins goal (k + 1) i
     ·rfl
     ·exact absurd ⟨i, h4, h5, h6⟩ hc
    ·exact gstep_le h5
   ·exact gstep_out h4
  rw [this] at h; cases h
 have := h2 h3
 omega
theorem gx_same {ss : List ST} {p : Int} {ins goal : Nat → Bool} {k : Nat} (hn : ss.length ≤ 40) (h : eqS (gx ss p ins goal (k + 1)) (gx ss p ins goal k) = true) : gx ss p ins goal (k + 1) = gx ss p ins goal k := by
 funext s
 rcases Nat.lt_or_ge s ss.length with h4 | h4
 ·exact eqS_iff.1 h s om
 ·exact gstep_out h4
def gX (ss : List ST) (p : Int) (ins goal : Nat → Bool) : Nat → Bool := gx ss p ins goal ss.length
def gC (ss : List ST) (p : Int) (ins goal : Nat → Bool) : Nat → Int := gc ss p ins goal ss.length
theorem gX_of {ss : List ST} {p : Int} {ins goal : Nat → Bool} {k : Nat} (hn : ss.length ≤ 40) (hk : k ≤ (fl ss.length (gx ss p ins goal k)).length) (h : eqS (gx ss p ins goal (k + 1)) (gx ss p ins goal k) = true) : gx ss p ins goal (k + 1) = gX ss p ins goal ∧ gc ss p ins goal (k + 1) = gC ss p ins goal := by
 have h1 := gx_same hn h
 have h2 := gx_stable h1
 have h3 := fl_len ss.length (gx ss p ins goal k)
 have h4 := h2 ss.length om
 have h5 := h2 (k + 1) om
 exact ⟨h5.1.trans h4.1.symm, h5.2.trans h4.2.symm⟩
theorem subsM_self {H h : Hp} (hnd : subsM H H) (hs : ∀ q o, getH H q = some o → getH h q = some o) : subsM H h := by
 suffices ∀ L, subsM L H → subsM L h from this H hnd
 intro L
 induction L with
 | nil => intro _; trivial
 | cons p L ih => exact fun ⟨h1, h2⟩ => ⟨hs _ _ h1, ih h2⟩
section
variable {P : Program} {T : TT} {E : TypeId → Bool} {N : Nat} {oa : Array Oper} {l : List Oper} {i b n : Nat} {e : Env} {h : Hp} {Q : Env → Hp → Nat → Prop}
theorem WN.weakH (a : Hp) (hs : Hp.le a h) (k : WN P T E N oa l i b e a n Q) : WN P T E N oa l i b e h n Q := fun hd s m hf hm => k hd s m hf fun t l hg => hm t l (hs t l hg)
theorem WN.weakM (a : Hp) (hs : subsM a h) (k : WN P T E N oa l i b e a n Q) : WN P T E N oa l i b e h n Q := WN.weakH a hs.get k
end
end Go.Ab
set_option linter.unusedVariables false
set_option linter.unusedSimpArgs false
namespace Go.Ab
open Go.RowKit
section
variable {ss : List ST} {p : Int} {ins old : Nat → Bool} {c : Nat → Int} {j : Nat}
theorem gs_a (h : old j = true) : gstep ss p ins old j = old j := by unfold gstep; rw [h, Bool.true_or]
theorem gs_b (h0 : old j = false) (h : alw ss j p ins old = false) : gstep ss p ins old j = old j := by unfold gstep; rw [h0, h, Bool.and_false]; rfl
theorem gs_c (h0 : old j = false) (h : ins j = false) : gstep ss p ins old j = old j := by unfold gstep; rw [h0, h, Bool.and_false]; rfl
theorem gs_d (hj : j < ss.length) (hi : ins j = true) (h : alw ss j p ins old = true) : gstep ss p ins old j = true := by unfold gstep; rw [decide_eq_true hj, hi, h]; simp
theorem nc_d (h : (ss.getD j default).1.1 ≠ p) : newc ss p ins old c j = c j := by unfold newc; rw [if_neg]; rw [decide_eq_false h]; simp
theorem nc_e (h0 : old j = false) (hj : j < ss.length) (hi : ins j = true) (h : alw ss j p ins old = true) (ho : (ss.getD j default).1.1 = p) : newc ss p ins old c j = pk (ss.getD j default) p (okc ins old) := by
 unfold newc; rw [if_pos]; rw [h0, decide_eq_true hj, hi, h, decide_eq_true ho]; rfl
theorem pk_yes (h : 0 ≤ pk (ss.getD j default) p (okc ins old)) : alw ss j p ins old = true := by rw [← pk_alw]; exact decide_eq_true h
theorem pk_no (h : ¬ 0 ≤ pk (ss.getD j default) p (okc ins old)) : alw ss j p ins old = false := by rw [← pk_alw]; exact decide_eq_false h
end
section
variable {T : TT} {e : Env} {h : Hp} {ti : TI}
theorem resE_cellS {f : Nat → Bool} {a : Nat} {t el : TypeId} {r sz st : Nat} {rs : List ResultVar} {ls : List LV} (h1 : e.get a = some (.ptr r 0)) (hT : T t = some ti) (ha : ti.agg = true) (hz : ti.size = 40) (hg : getH h r = some { cells := sb f, sz := sz, elem := el, st := st }) (h2 : Nat.beq st 2 = false) (hr : resE e T h rs = some ls) :
  resE e T h (.cell a t :: rs) = some (lvS f :: ls) := by
 have h2' := Nat.ne_of_beq_eq_false h2
 have hl : loadLV ti (sb f) = some (lvS f) := by
  unfold loadLV
  rw [ha, hz]
  simp only [if_true, sb_len, Nat.le_refl]
  rw [List.take_of_length_le (by rw [sb_len]; exact Nat.le_refl _)]; rfl
 simp [resE, h1, hT, cellsH, hg, h2', hl, hr]
end
end Go.Ab
namespace Go.Ab
open Go.RowKit
theorem tab_repiF {n : Nat} {el : TypeId} {f : Nat → Int} (hf : ∀ i, f i = 0) : Ob.mk (List.replicate n [LV.v (.int .i64 0)]).flatten 1 el 0 = Ob.mk ((tab n f).map ic).flatten 1 el 0 := by
 rw [tab_repi, tab_eq (g := f) fun i _ => (hf i).symm]
theorem SnapB.dat {h : Hp} {S : List Nat} {ls ls' : List LV} (hw : SnapB h S ls ls') : ∀ c, c ∈ ls' → Data c := by
 induction hw with
 | nil => intro c hc; simp at hc
 | cons k _ ih =>
  intro c hc
  rcases List.mem_cons.1 hc with rfl | hc
  ·exact (k (fun q => getH h q) (fun _ _ hq => hq)).isData
  ·exact ih c hc
theorem d2ro {g : FuncId} {cap : List LV} {f : Nat → Bool} (h : ∀ c, c ∈ cap → Data c) : ∀ c, c ∈ [LV.ro [.fn (.func g) [] cap], LV.ro (sb f)] → Data c := fun c hc => by
 rcases List.mem_cons.1 hc with rfl | hc
 ·exact droF (f := .func g) (as0 := []) (bs := cap) d0 h _ (by simp)
 ·exact dro f c hc
theorem to40 {ss : List ST} (hw : WT ss) {x : ST} (hx : x ∈ ss) {c : CH} (hc : c ∈ x.2.2) {b : BR} (hb : b ∈ c.2.2) : 0 ≤ b.1 ∧ b.1 < 40 := by
 have h1 := hw.to x hx c hc b hb
 have h2 := hw.len
 omega
end Go.Ab
set_option linter.unusedVariables false
set_option linter.unusedSimpArgs false
namespace Go.Ab
open Go.RowKit
theorem WN.S0 {P : Program} {T : TT} {E : TypeId → Bool} {N : Nat} {oa : Array Oper} {i b n : Nat} {e : Env} {h : Hp} {Q : Env → Hp → Nat → Prop} {op : Op} {t : TypeId} {pos : String} {af : Array Edge} {l : List Oper} {r : LV} {d : Delta} {R : List Nat} (ho : OP P T E ⟨none, op, t, pos, af, none⟩ (b + i) e h r d R)
  (k : WN P T E N oa l (i + 1) b e (appH d h) n Q) : WN P T E N oa (⟨none, op, t, pos, af, none⟩ :: l) i b e h n Q := by
 intro hdr s m hs hm
 obtain ⟨hi, hl⟩ := drop_cons hdr
 obtain ⟨rs, s', h1, h3⟩ := k hl _ _ hs (hm.app d)
 refine ⟨⟨i, keys d, R, false⟩ :: rs, s', ?_, h3⟩
 rw [List.length_cons, List.range'_succ]
 exact .did oa i _ b ⟨s, m, n⟩ s' rs _ r d R (by simpa using hi) rfl (ho s m (fun x l hx => evE_sound hs hx) hm) h1
def mi (ss : List ST) (p : Int) (g : Nat → Bool) : Nat → Nat → Bool
 | 0 => fun s => decide (s < ss.length)
 | k + 1 => gX ss p (fun s => mi ss p g k s || g s) g
theorem gx_le {ss : List ST} {p : Int} {ins goal : Nat → Bool} {k s : Nat} (h : goal s = true) : gx ss p ins goal k s = true := by
 induction k with
 | zero => exact h
 | succ k ih => exact gstep_le ih
theorem gx_in {ss : List ST} {p : Int} {ins goal : Nat → Bool} {k s : Nat} (h : gx ss p ins goal k s = true) : goal s = true ∨ (s < ss.length ∧ ins s = true) := by
 induction k with
 | zero => exact .inl h
 | succ k ih =>
  have h' : gstep ss p ins (gx ss p ins goal k) s = true := h
  unfold gstep at h'
  rw [Bool.or_eq_true, Bool.and_eq_true, Bool.and_eq_true] at h'
  rcases h' with h' | ⟨⟨h1, h2⟩, _⟩
  ·exact ih h'
  ·exact .inr ⟨of_decide_eq_true h1, h2⟩
section
variable {ss : List ST} {p : Int} {g : Nat → Bool} (hg : ∀ s, g s = true → s < ss.length)
include hg
theorem mi_g {s : Nat} (h : g s = true) : ∀ k, mi ss p g k s = true
 | 0 => decide_eq_true (hg s h)
 | k + 1 => gx_le h
theorem mi_n {s : Nat} : ∀ k, mi ss p g k s = true → s < ss.length
 | 0, h => of_decide_eq_true h
 | k + 1, h => by
  rcases gx_in h with h | ⟨h, _⟩
  ·exact hg s h
  ·exact h
theorem mi_or (k : Nat) : (fun s => mi ss p g k s || g s) = mi ss p g k := by
 funext s
 cases h : g s
 ·rw [Bool.or_false]
 ·rw [mi_g hg h]; rfl
theorem mi_succ (k : Nat) : mi ss p g (k + 1) = gX ss p (mi ss p g k) g := by
 show gX ss p (fun s => mi ss p g k s || g s) g = _
 rw [mi_or hg]
theorem mi_sub {k s : Nat} (h : mi ss p g (k + 1) s = true) : mi ss p g k s = true := by
 rw [mi_succ hg] at h
 rcases gx_in h with h | ⟨_, h⟩
 ·exact mi_g hg h k
 ·exact h
theorem mi_dec (hn : ss.length ≤ 40) {k : Nat} (h : eqS (mi ss p g (k + 1)) (mi ss p g k) = false) : (fl ss.length (mi ss p g (k + 1))).length < (fl ss.length (mi ss p g k)).length := by
 refine (fl_lt (f := mi ss p g (k + 1)) (g := mi ss p g k) ss.length fun s _ hs => mi_sub hg hs).2 ?_
 apply Classical.byContradiction
 intro hc
 have : eqS (mi ss p g (k + 1)) (mi ss p g k) = true := eqS_iff.2 fun i hi => by
  cases h5 : mi ss p g (k + 1) i
  ·cases h6 : mi ss p g k i
   ·rfl
   ·exact absurd ⟨i, mi_n hg k h6, h5, h6⟩ hc
  ·exact (mi_sub hg h5).symm
 rw [this] at h; cases h
theorem mi_same (hn : ss.length ≤ 40) {k : Nat} (h : eqS (mi ss p g (k + 1)) (mi ss p g k) = true) : mi ss p g (k + 1) = mi ss p g k := by
 funext s
 rcases Nat.lt_or_ge s ss.length with h4 | h4
 ·exact eqS_iff.1 h s om
 ·cases h5 : mi ss p g (k + 1) s
  ·cases h6 : mi ss p g k s
   ·rfl
   ·have := mi_n hg k h6; omega
  ·have := mi_n hg _ h5; omega
theorem mi_stable {k : Nat} (h : mi ss p g (k + 1) = mi ss p g k) : ∀ m, k ≤ m → mi ss p g m = mi ss p g k := by
 intro m hm
 induction m with
 | zero =>
  obtain rfl : k = 0 := by omega
  rfl
 | succ m ih =>
  rcases Nat.lt_or_ge m k with h1 | h1
  ·obtain rfl : k = m + 1 := by omega
   rfl
  ·rw [mi_succ hg, ih h1, ← mi_succ hg, h]
end
def mX (ss : List ST) (p : Int) (g : Nat → Bool) : Nat → Bool := mi ss p g ss.length
def mC (ss : List ST) (p : Int) (g : Nat → Bool) : Nat → Int := gC ss p (mX ss p g) g
theorem mX_of {ss : List ST} {p : Int} {g : Nat → Bool} (hg : ∀ s, g s = true → s < ss.length) (hn : ss.length ≤ 40) {k : Nat} (hk : k + (fl ss.length (mi ss p g k)).length ≤ ss.length) (h : eqS (mi ss p g (k + 1)) (mi ss p g k) = true) :
  gX ss p (fun s => mi ss p g k s || g s) g = mX ss p g ∧ gC ss p (fun s => mi ss p g k s || g s) g = mC ss p g := by
 have h1 := mi_same hg hn h
 have h2 := mi_stable hg h1 ss.length om
 unfold mC mX
 rw [mi_or hg, h2]
 exact ⟨by rw [← mi_succ hg, h1], rfl⟩
theorem fl_all (n : Nat) : (fl n fun s => decide (s < n)).length = n := by
 unfold fl
 rw [List.length_map, List.filter_eq_self.2 (fun a ha => decide_eq_true (List.mem_range.1 ha)), List.length_range]
def sX (ss : List ST) (p : Int) (g : Nat → Bool) : Nat → Bool := gX ss (1 - p) (fun _ => true) g
def sC (ss : List ST) (p : Int) (g : Nat → Bool) (s : Nat) : Int :=
 if sX ss p g s = false ∧ (ss.getD s default).1.1 = p then fidx (fun c => !me c (sX ss p g)) (ss.getD s default).2.2 else 0
structure VM1 (ss : List ST) : Prop where
 wt : WT ss
 own : ∀ x, x ∈ ss → 0 ≤ x.1.1 ∧ x.1.1 ≤ 1
 cs : ∀ x, x ∈ ss → 1 ≤ x.2.2.length ∧ x.2.2.length ≤ 8
 bs : ∀ x, x ∈ ss → ∀ c, c ∈ x.2.2 → 1 ≤ c.2.2.length ∧ c.2.2.length ≤ 8
 pos : 1 ≤ ss.length
theorem VMo_1 {ss : List ST} (h : VMo ss = true) : VM1 ss := by
 unfold VMo at h
 rw [Bool.and_eq_true, Bool.and_eq_true] at h
 obtain ⟨⟨h1, h2⟩, h3⟩ := h
 have h1 := of_decide_eq_true h1
 have h2 := of_decide_eq_true h2
 have hs : ∀ x, x ∈ ss → VS ss.length x = true := List.all_eq_true.1 h3
 have hc : ∀ x, x ∈ ss → ∀ c, c ∈ x.2.2 → VC ss.length c = true := fun x hx => by
  have := hs x hx
  unfold VS at this
  rw [Bool.and_eq_true] at this
  exact List.all_eq_true.1 this.2
 refine ⟨⟨fun x hx c hcx b hb => ?_, h2⟩, fun x hx => ?_, fun x hx => ?_, fun x hx c hcx => ?_, h1⟩
 ·have := hc x hx c hcx
  unfold VC at this
  rw [Bool.and_eq_true, Bool.and_eq_true] at this
  have hok := List.all_eq_true.1 this.1.2
  obtain ⟨i, hi, rfl⟩ := List.getElem_of_mem hb
  have hlo := okB_lo (n := ss.length) (bs := c.2.2) i fun j hj => hok j (List.mem_range.2 om)
  have hi2 := hok i (List.mem_range.2 hi)
  unfold okB at hi2
  rw [Bool.and_eq_true, Bool.and_eq_true, Bool.and_eq_true] at hi2
  have e1 := of_decide_eq_true hi2.1.1.1
  have e2 := of_decide_eq_true hi2.1.1.2
  rw [show c.2.2.getD i default = c.2.2[i] by rw [List.getD_eq_getElem?_getD, List.getElem?_eq_getElem hi]; rfl] at e1 e2
  omega
 ·have := hs x hx
  unfold VS at this
  simp only [Bool.and_eq_true, decide_eq_true_eq] at this
  omega
 ·have := hs x hx
  unfold VS at this
  simp only [Bool.and_eq_true, decide_eq_true_eq] at this
  omega
 ·have := hc x hx c hcx
  unfold VC at this
  simp only [Bool.and_eq_true, decide_eq_true_eq] at this
  omega
theorem inL_lt {n : Nat} {l : List Int} (h : VSet n l = true) {s : Nat} (hs : inL l s = true) : s < n := by
 unfold inL at hs
 rw [List.any_eq_true] at hs
 obtain ⟨t, ht, he⟩ := hs
 obtain ⟨i, hi, rfl⟩ := List.getElem_of_mem ht
 have := VSet_lt h hi
 have he := of_decide_eq_true he
 rw [show l.getD i default = l[i] by rw [List.getD_eq_getElem?_getD, List.getElem?_eq_getElem hi]; rfl] at this
 omega
def eA (ss : List ST) (l : List Int) (p : Int) : Int := if VMo ss = true ∧ VSet ss.length l = true then if p = 0 ∨ p = 1 then 0 else 6 else 1
end Go.Ab
set_option linter.unusedVariables false
set_option linter.unusedSimpArgs false
namespace Go.Ab
open Go.RowKit
section
variable {ss : List ST} {p : Int} {l : List Int} (hg : ∀ s, inL l s = true → s < ss.length)
include hg
end
def v5 (ss : List ST) (l : List Int) : Int := if VMo ss = true ∧ VSet ss.length l = true then 0 else 1
theorem eA_v5 {ss : List ST} {l : List Int} {p : Int} : eA ss l p = if v5 ss l = 0 then (if p = 0 ∨ p = 1 then 0 else 6) else 1 := by
 unfold eA v5
 by_cases h : VMo ss = true ∧ VSet ss.length l = true
 ·rw [if_pos h, if_pos h, if_pos rfl]
 ·rw [if_neg h, if_neg h, if_neg (by decide)]
theorem eqL_take {l l' : List Int} {i : Nat} (h : l.take i = l'.take i) (h1 : i < l.length) (h2 : i < l'.length) (he : l.getD i default = l'.getD i default) : l.take (i + 1) = l'.take (i + 1) := by
 rw [List.take_succ_eq_append_getElem h1, List.take_succ_eq_append_getElem h2, h]
 rw [List.getD_eq_getElem?_getD, List.getD_eq_getElem?_getD, List.getElem?_eq_getElem h1, List.getElem?_eq_getElem h2] at he
 simp only [Option.getD_some] at he
 rw [he]
theorem eqL_no {l l' : List Int} {i : Nat} (h1 : i < l.length) (h2 : i < l'.length) (he : l.getD i default ≠ l'.getD i default) : l ≠ l' := fun h => he (by rw [h])
end Go.Ab
set_option linter.unusedVariables false
set_option linter.unusedSimpArgs false
namespace Go.Ab
open Go.RowKit
section
variable {P : Program} {T : TT} {E : TypeId → Bool} {e : Env} {h : Hp}
variable {dst : Option Tmp} {ty : TypeId} {pos : String} {af : Array Edge} {g : Option (Nat × Bool)} {id : Nat} {x y lo hi : Operand} {bt el : TypeId} {ti te : TI} {k : Nat}
def slk (k n j : Nat) : Nat := if k = 2 ∧ j + 1 < n then 1 else k
theorem oStV {q sz s r off : Nat} {us : List (List LV)} {c : LV} (hx : evE e x = some (.ptr r off)) (ho : off = 0) (hy : evE e y = some (outV q sz us)) (hE : T bt = some ti) (hz : ti.size = 1) (hr : getH h r = some { cells := [c], sz := s, elem := el, st := 0 }) :
  OP P T E ⟨dst, .store bt x y, ty, pos, af, g⟩ id e h (.v undef) [(r, { cells := [outV q sz us], sz := s, elem := el, st := 0 })] [r] := by
 subst ho
 cases us with
 | nil => exact oSt hx hy hE hr rfl rfl (by rw [hz]; rfl) rfl
 | cons u us => exact oSt hx hy hE hr rfl rfl (by rw [hz]; rfl) rfl
theorem postRefA {rs : List ResultVar} {n : Nat} {z : Ex} {q sz len : Nat} {ob : Ob} (ys : List (List LV)) (hx : z = .normal ∨ z = .ret) (hr : resE e T h rs = some [.agg [.ref q sz 0 len]]) (hlen : len = ys.length) (hq : getH h q = some ob) (h2 : ob.st ≠ 2) (hz : ob.sz = sz) (h0 : 0 < sz) (hc : ob.cells = ys.flatten) (hl : ∀ row, row ∈ ys → row.length = sz) (hd : ∀ row, row ∈ ys → ∀ c, c ∈ row → Data c) :
  Post T rs (.agg [.sl 1 ys]) z e h n := by
 subst hlen
 refine ⟨hx, _, hr, [(q, { ob with st := 1 })], fun m hm => .agg _ _ rfl (fun i c d hc he => ?_) (fun i c d hc' he => ?_), by intro p hp; simp at hp; subst hp; exact ⟨ob, hq, h2, rfl⟩⟩
 ·match i with
  | 0 => simp at hc he; subst hc; subst he; rfl
  | i + 1 => simp at hc
 ·match i with
  | 0 => simp at hc' he; subst hc'; subst he; exact snapRef hq h2 hz h0 (by simp [keys]) hc hl hd m hm
  | i + 1 => simp at hc'
end
def fxc (x : ST) (c : Int) : ST := (x.1, (slk x.2.1 x.2.2.length c.toNat, [x.2.2.getD c.toNat default]))
def fxo (p : Int) (x : ST) (c : Int) : ST := if x.1.1 = p then fxc x c else x
def fxs (ss : List ST) (st : List Int) (p : Int) : List ST := tab ss.length fun i => fxo p (ss.getD i default) (st.getD i default)
theorem tab_succ {α : Type} {n : Nat} (f : Nat → α) : tab (n + 1) f = tab n f ++ [f n] := by simp [tab, List.range_succ]
def hit (bs : List BR) (t : Nat) : Bool := bs.any fun b => decide (b.1.toNat = t)
def nxt (ss : List ST) (s t : Nat) : Bool := (ss.getD s default).2.2.any fun c => hit c.2.2 t
def wst (k s : Nat) (g : Nat → Int) (t : Int) : Nat → Int := if g s < 0 ∧ g t.toNat = k then fset g s (k + 1) else g
def w3 (k s : Nat) (g : Nat → Int) (l : List Int) (i : Nat) : Nat → Int := (l.take i).foldl (wst k s) g
def w2 (ss : List ST) (k : Nat) (g : Nat → Int) : Nat → Nat → Int
 | 0 => g
 | j + 1 => w3 k j (w2 ss k g j) (fl ss.length (nxt ss j)) (fl ss.length (nxt ss j)).length
def winit (l : List Int) (s : Nat) : Int := if inL l s = true then 0 else -1
def w1 (ss : List ST) (l : List Int) : Nat → Nat → Int
 | 0 => winit l
 | k + 1 => w2 ss k (w1 ss l k) ss.length
def vSt (ss : List ST) (st : List Int) : Bool := decide (st.length = ss.length) && (List.range st.length).all fun i => decide (0 ≤ st.getD i default) && decide (st.getD i default < ((ss.getD i default).2.2.length : Int))
def aln (ss : List ST) (p : Int) (st : List Int) : Bool := vSt ss st && (List.range st.length).all fun i => decide ((ss.getD i default).1.1 = p) || decide (st.getD i default = 0)
theorem range_take {n i : Nat} {p : Nat → Bool} (h : ∀ j, j < i → p j = true) (hi : n ≤ i) : (List.range n).all p = true := range_all_yes fun j hj => h j om
structure WL (ss : List ST) : Prop where
 wt : WT ss
 hl : ∀ x, x ∈ ss → x.2.2.length < 1000000 ∧ ∀ c, c ∈ x.2.2 → c.2.2.length < 1000000
theorem fxs_len {ss : List ST} {st : List Int} {p : Int} : (fxs ss st p).length = ss.length := tab_len _ _
theorem tab_mem {α : Type} {n : Nat} {f : Nat → α} {x : α} : x ∈ tab n f ↔ ∃ i, i < n ∧ f i = x := by
 unfold tab
 rw [List.mem_map]
 exact ⟨fun ⟨i, h1, h2⟩ => ⟨i, List.mem_range.1 h1, h2⟩, fun ⟨i, h1, h2⟩ => ⟨i, List.mem_range.2 h1, h2⟩⟩
theorem vSt_at {ss : List ST} {st : List Int} (h : vSt ss st = true) {i : Nat} (hi : i < ss.length) : 0 ≤ st.getD i default ∧ st.getD i default < ((ss.getD i default).2.2.length : Int) := by
 unfold vSt at h
 rw [Bool.and_eq_true] at h
 have h1 := of_decide_eq_true h.1
 have h2 := List.all_eq_true.1 h.2 i (List.mem_range.2 om)
 rw [Bool.and_eq_true] at h2
 exact ⟨of_decide_eq_true h2.1, of_decide_eq_true h2.2⟩
theorem vSt_len {ss : List ST} {st : List Int} (h : vSt ss st = true) : st.length = ss.length := by
 unfold vSt at h
 rw [Bool.and_eq_true] at h
 exact of_decide_eq_true h.1
end Go.Ab
namespace Go.Ab
open Go.RowKit
section
variable {P : Program} {T : TT} {E : TypeId → Bool} {e : Env} {h : Hp}
variable {dst : Option Tmp} {ty : TypeId} {pos : String} {af : Array Edge} {g : Option (Nat × Bool)} {id : Nat} {x y : Operand} {bt el : TypeId} {te : TI}
end
end Go.Ab
set_option linter.unusedVariables false
set_option linter.unusedSimpArgs false
namespace Go.Ab
open Go.RowKit
theorem fl_sorted {f : Nat → Bool} : ∀ n, (∀ i, i < (fl n f).length → lastI (fl n f) i < (fl n f).getD i default ∧ (fl n f).getD i default < n)
 | 0, i, hi => by simp [fl] at hi
 | n + 1, i, hi => by
  have ih := fl_sorted (f := f) n
  rw [fl_succ] at hi ⊢
  cases h : f n
  ·rw [h] at hi
   simp only [Bool.false_eq_true, if_false] at hi ⊢
   have := ih i hi
   omega
  ·rw [h] at hi
   simp only [if_true] at hi ⊢
   rw [List.length_append] at hi
   simp only [List.length_cons, List.length_nil] at hi
   have e1 : ∀ j, j < (fl n f).length → (fl n f ++ [(n : Int)]).getD j default = (fl n f).getD j default := fun j hj => by
    rw [List.getD_eq_getElem?_getD, List.getElem?_append_left hj, ← List.getD_eq_getElem?_getD]
   have e2 : (fl n f ++ [(n : Int)]).getD (fl n f).length default = n := by
    rw [List.getD_eq_getElem?_getD, List.getElem?_append_right (Nat.le_refl _)]; simp
   rcases Nat.lt_or_ge i (fl n f).length with h1 | h1
   ·obtain ⟨k1, k2⟩ := ih i h1
    rw [e1 i h1]
    refine ⟨?_, om⟩
    rcases Nat.eq_zero_or_pos i with h0 | h0
    ·subst h0; exact k1
    ·rw [lastI_pos h0] at k1 ⊢; rw [e1 _ om]; exact k1
   ·obtain rfl : i = (fl n f).length := by omega
    rw [e2]
    refine ⟨?_, om⟩
    rcases Nat.eq_zero_or_pos (fl n f).length with h0 | h0
    ·rw [h0]; show (-1 : Int) < _; omega
    ·rw [lastI_pos h0, e1 _ om]
     have := (ih ((fl n f).length - 1) om).2
     exact this
theorem VSet_fl (n : Nat) (f : Nat → Bool) : VSet n (fl n f) = true := range_all_yes fun i hi => okI_yes (fl_sorted n i hi).1 (fl_sorted n i hi).2
def fewC (c : CH) : Bool := decide (c.2.2.length ≤ 10)
def fewS (s : ST) : Bool := decide (s.2.2.length ≤ 10) && s.2.2.all fewC
def fewM (ss : List ST) : Bool := decide (ss.length ≤ 45) && ss.all fewS
def fewG (gs : List (Nat × List Int)) (ss : List ST) : Bool := gs.all (fun r => decide (r.2.length ≤ 60)) && fewM ss
def gL (r : Nat × List Int) : List LV := [.sl r.1 (r.2.map ic)]
theorem dgL (r : Nat × List Int) : ∀ c, c ∈ gL r → Data c := by intro c hc; rw [gL, List.mem_singleton] at hc; subst hc; exact dlvL _ _
theorem fewS_no1 {s : ST} (h : 10 < s.2.2.length) : fewS s = false := by unfold fewS; rw [decide_eq_false om]; rfl
theorem fewS_no2 {s : ST} {j : Nat} (hj : j < s.2.2.length) (h : 10 < (s.2.2.getD j default).2.2.length) : fewS s = false := by
 unfold fewS; rw [all_no (i := j) hj (decide_eq_false om), Bool.and_false]
theorem fewM_no {ss : List ST} {i : Nat} (hi : i < ss.length) (h : fewS (ss.getD i default) = false) : fewM ss = false := by unfold fewM; rw [all_no (i := i) hi h, Bool.and_false]
def dice : List ST := [((0, 0), (2, [((0, 1), (2, [(1, (2, 3)), (2, (1, 3))])), ((0, 1), (2, [(0, (1, 2)), (1, (1, 4)), (2, (1, 4))]))])), ((0, 0), (2, [((0, 1), (2, [(1, (1, 1))]))])), ((0, 1), (2, [((0, 1), (2, [(2, (1, 1))]))]))]
theorem dice_is : ∀ s, s ∈ dice → IS s := by
 intro s hs
 simp only [dice, List.mem_cons, List.not_mem_nil, or_false] at hs
 rcases hs with rfl | rfl | rfl <;> refine ⟨by unfold I64; decide, by unfold I64; decide, fun c hc => ?_⟩ <;> simp only [List.mem_cons, List.not_mem_nil, or_false] at hc
 ·rcases hc with rfl | rfl <;> refine ⟨by unfold I64; decide, by unfold I64; decide, fun b hb => ?_⟩ <;> simp only [List.mem_cons, List.not_mem_nil, or_false] at hb
  ·rcases hb with rfl | rfl <;> exact ⟨by unfold I64; decide, by unfold I64; decide, by unfold I64; decide⟩
  ·rcases hb with rfl | rfl | rfl <;> exact ⟨by unfold I64; decide, by unfold I64; decide, by unfold I64; decide⟩
 ·subst hc
  refine ⟨by unfold I64; decide, by unfold I64; decide, fun b hb => ?_⟩
  simp only [List.mem_cons, List.not_mem_nil, or_false] at hb
  subst hb; exact ⟨by unfold I64; decide, by unfold I64; decide, by unfold I64; decide⟩
 ·subst hc
  refine ⟨by unfold I64; decide, by unfold I64; decide, fun b hb => ?_⟩
  simp only [List.mem_cons, List.not_mem_nil, or_false] at hb
  subst hb; exact ⟨by unfold I64; decide, by unfold I64; decide, by unfold I64; decide⟩
theorem dice_e : eA dice [2] 0 = 0 := by decide +kernel
theorem dice_p : fl 3 (gX dice 0 (fun _ => true) (inL [2])) = [0, 2] := by decide +kernel
theorem dice_s : fl 3 (mX dice 0 (inL [2])) = [2] := by decide +kernel
end Go.Ab
set_option linter.unusedVariables false
set_option linter.unusedSimpArgs false
namespace Go.Ab
open Go.RowKit
def Le (f g : Nat → Bool) : Prop := ∀ s, f s = true → g s = true
theorem wi_iff {c : CH} {f : Nat → Bool} : wi c f = true ↔ ∀ b, b ∈ c.2.2 → f b.1.toNat = true := List.all_eq_true
theorem me_iff {c : CH} {f : Nat → Bool} : me c f = true ↔ ∃ b, b ∈ c.2.2 ∧ f b.1.toNat = true := List.any_eq_true
theorem okc_iff {c : CH} {f g : Nat → Bool} : okc f g c = true ↔ wi c f = true ∧ me c g = true := by unfold okc; rw [Bool.and_eq_true]
theorem okc_mono {c : CH} {f f' g g' : Nat → Bool} (hf : Le f f') (hg : Le g g') (h : okc f g c = true) : okc f' g' c = true := by
 rw [okc_iff, wi_iff, me_iff] at h ⊢
 obtain ⟨h1, b, h2, h3⟩ := h
 exact ⟨fun b hb => hf _ (h1 b hb), b, h2, hg _ h3⟩
theorem alw_any {ss : List ST} {s : Nat} {p : Int} {f g : Nat → Bool} (ho : (ss.getD s default).1.1 = p) : alw ss s p f g = true ↔ ∃ c, c ∈ (ss.getD s default).2.2 ∧ okc f g c = true := by
 unfold alw; rw [if_pos ho]; exact List.any_eq_true
theorem alw_all {ss : List ST} {s : Nat} {p : Int} {f g : Nat → Bool} (ho : (ss.getD s default).1.1 ≠ p) : alw ss s p f g = true ↔ ∀ c, c ∈ (ss.getD s default).2.2 → okc f g c = true := by
 unfold alw; rw [if_neg ho]; exact List.all_eq_true
theorem alw_mono {ss : List ST} {s : Nat} {p : Int} {f f' g g' : Nat → Bool} (hf : Le f f') (hg : Le g g') (h : alw ss s p f g = true) : alw ss s p f' g' = true := by
 by_cases ho : (ss.getD s default).1.1 = p
 ·rw [alw_any ho] at h ⊢
  obtain ⟨c, h1, h2⟩ := h
  exact ⟨c, h1, okc_mono hf hg h2⟩
 ·rw [alw_all ho] at h ⊢
  exact fun c hc => okc_mono hf hg (h c hc)
theorem gstep_iff {ss : List ST} {p : Int} {ins old : Nat → Bool} {s : Nat} : gstep ss p ins old s = true ↔ old s = true ∨ (s < ss.length ∧ ins s = true ∧ alw ss s p ins old = true) := by
 unfold gstep
 rw [Bool.or_eq_true, Bool.and_eq_true, Bool.and_eq_true, decide_eq_true_eq, and_assoc]
theorem gstep_mono {ss : List ST} {p : Int} {ins a b : Nat → Bool} (h : Le a b) : Le (gstep ss p ins a) (gstep ss p ins b) := fun s hs => by
 rw [gstep_iff] at hs ⊢
 rcases hs with hs | ⟨h1, h2, h3⟩
 ·exact .inl (h s hs)
 ·exact .inr ⟨h1, h2, alw_mono (fun _ h => h) h h3⟩
theorem gx_fix {ss : List ST} {p : Int} {ins goal : Nat → Bool} (hn : ss.length ≤ 40) : gx ss p ins goal (ss.length + 1) = gx ss p ins goal ss.length := by
 suffices h : ∀ k, (∃ j, j ≤ k ∧ gx ss p ins goal (j + 1) = gx ss p ins goal j) ∨ k + 1 ≤ (fl ss.length (gx ss p ins goal (k + 1))).length by
  rcases h ss.length with ⟨j, h1, h2⟩ | h
  ·have h3 := gx_stable h2
   rw [(h3 _ (show j ≤ ss.length + 1 by omega)).1, (h3 _ h1).1]
  ·have := fl_len ss.length (gx ss p ins goal (ss.length + 1))
   omega
 intro k
 induction k with
 | zero =>
  cases h : eqS (gx ss p ins goal 1) (gx ss p ins goal 0)
  ·exact .inr (gx_grow hn (Nat.zero_le _) h)
  ·exact .inl ⟨0, Nat.le_refl _, gx_same hn h⟩
 | succ k ih =>
  rcases ih with ⟨j, h1, h2⟩ | ih
  ·exact .inl ⟨j, om, h2⟩
  ·cases h : eqS (gx ss p ins goal (k + 1 + 1)) (gx ss p ins goal (k + 1))
   ·exact .inr (gx_grow hn ih h)
   ·exact .inl ⟨k + 1, Nat.le_refl _, gx_same hn h⟩
theorem gX_fix {ss : List ST} {p : Int} {ins goal : Nat → Bool} (hn : ss.length ≤ 40) : gstep ss p ins (gX ss p ins goal) = gX ss p ins goal := gx_fix hn
theorem gX_g {ss : List ST} {p : Int} {ins goal : Nat → Bool} : Le goal (gX ss p ins goal) := fun s h => gx_le h
theorem gX_least {ss : List ST} {p : Int} {ins goal L : Nat → Bool} (h0 : Le goal L) (h1 : Le (gstep ss p ins L) L) : ∀ k, Le (gx ss p ins goal k) L
 | 0 => h0
 | k + 1 => fun s hs => h1 s (gstep_mono (gX_least h0 h1 k) s hs)
theorem mX_fix {ss : List ST} {p : Int} {g : Nat → Bool} (hn : ss.length ≤ 40) (hg : ∀ s, g s = true → s < ss.length) : gX ss p (mX ss p g) g = mX ss p g := by
 suffices h : ∀ k, (∃ j, j ≤ k ∧ mi ss p g (j + 1) = mi ss p g j) ∨ k + 1 + (fl ss.length (mi ss p g (k + 1))).length ≤ ss.length by
  rcases h ss.length with ⟨j, h1, h2⟩ | h
  ·have h3 := mi_stable hg h2
   show gX ss p (mi ss p g ss.length) g = mi ss p g ss.length
   rw [h3 _ h1, ← mi_succ hg, h2]
  ·omega
 intro k
 induction k with
 | zero =>
  cases h : eqS (mi ss p g 1) (mi ss p g 0)
  ·have h1 := mi_dec hg hn h
   have h2 := fl_len ss.length (mi ss p g 0)
   exact .inr om
  ·exact .inl ⟨0, Nat.le_refl _, mi_same hg hn h⟩
 | succ k ih =>
  rcases ih with ⟨j, h1, h2⟩ | ih
  ·exact .inl ⟨j, om, h2⟩
  ·cases h : eqS (mi ss p g (k + 1 + 1)) (mi ss p g (k + 1))
   ·have h1 := mi_dec hg hn h
    exact .inr om
   ·exact .inl ⟨k + 1, Nat.le_refl _, mi_same hg hn h⟩
theorem any_cong {α : Type} {p q : α → Bool} : ∀ {l : List α}, (∀ a, a ∈ l → p a = q a) → l.any p = l.any q
 | [], _ => rfl
 | a :: l, h => by rw [List.any_cons, List.any_cons, h a (by simp), any_cong fun b hb => h b (by simp [hb])]
end Go.Ab
set_option linter.unusedVariables false
set_option linter.unusedSimpArgs false
namespace Go.Ab
open Go.RowKit
section
variable {ss : List ST} {p : Int} {ins g : Nat → Bool}
end
theorem fxs_get {ss : List ST} {st : List Int} {p : Int} {s : Nat} (hs : s < ss.length) : (fxs ss st p).getD s default = fxo p (ss.getD s default) (st.getD s default) := tab_get _ hs
theorem fxs_own {ss : List ST} {st : List Int} {p : Int} {s : Nat} (hs : s < ss.length) : ((fxs ss st p).getD s default).1 = (ss.getD s default).1 := by
 rw [fxs_get hs]; unfold fxo; split <;> rfl
theorem fxs_cs {ss : List ST} {st : List Int} {p : Int} {s : Nat} (hs : s < ss.length) {c : CH} : c ∈ ((fxs ss st p).getD s default).2.2 ↔
  ((ss.getD s default).1.1 = p ∧ c = (ss.getD s default).2.2.getD (st.getD s default).toNat default) ∨ ((ss.getD s default).1.1 ≠ p ∧ c ∈ (ss.getD s default).2.2) := by
 rw [fxs_get hs]; unfold fxo
 by_cases h : (ss.getD s default).1.1 = p
 ·rw [if_pos h]
  show c ∈ [(ss.getD s default).2.2.getD (st.getD s default).toNat default] ↔ _
  rw [List.mem_singleton]
  exact ⟨fun e => .inl ⟨h, e⟩, fun e => by
   rcases e with ⟨_, e⟩ | ⟨e, _⟩
   ·exact e
   ·exact absurd h e⟩
 ·rw [if_neg h]
  exact ⟨fun e => .inr ⟨h, e⟩, fun e => by
   rcases e with ⟨e, _⟩ | ⟨_, e⟩
   ·exact absurd e h
   ·exact e⟩
theorem inL_fl {n s : Nat} {f : Nat → Bool} (hs : s < n) : inL (fl n f) s = f s := by
 cases h : f s
 ·cases h2 : inL (fl n f) s
  ·rfl
  ·unfold inL at h2
   rw [List.any_eq_true] at h2
   obtain ⟨t, h3, h4⟩ := h2
   obtain ⟨r, rfl, h5, h6⟩ := fl_mem.1 h3
   have := of_decide_eq_true h4
   obtain rfl : r = s := by omega
   rw [h] at h6; cases h6
 ·unfold inL
  exact List.any_eq_true.2 ⟨(s : Int), fl_mem.2 ⟨s, rfl, hs, h⟩, decide_eq_true rfl⟩
end Go.Ab
set_option linter.unusedVariables false
set_option linter.unusedSimpArgs false
namespace Go.Ab
open Go.RowKit
theorem eA_ok {ss : List ST} {l : List Int} {p : Int} (h : eA ss l p = 0) : VMo ss = true ∧ VSet ss.length l = true ∧ (p = 0 ∨ p = 1) := by
 unfold eA at h
 by_cases h1 : VMo ss = true ∧ VSet ss.length l = true
 ·rw [if_pos h1] at h
  by_cases h2 : p = 0 ∨ p = 1
  ·exact ⟨h1.1, h1.2, h2⟩
  ·rw [if_neg h2] at h; cases h
 ·rw [if_neg h1] at h; cases h
theorem VM1.wl {ss : List ST} (hV : VM1 ss) : WL ss := ⟨hV.wt, fun x hx => ⟨by have := hV.cs x hx; omega, fun c hc => by have := hV.bs x hx c hc; omega⟩⟩
theorem fewG_len {gs : List (Nat × List Int)} {ss : List ST} (h : fewG gs ss = true) : ∀ r, r ∈ gs → r.2.length ≤ 60 := by
 unfold fewG at h
 rw [Bool.and_eq_true] at h
 exact fun r hr => of_decide_eq_true (List.all_eq_true.1 h.1 r hr)
end Go.Ab
namespace Go.Ab
open Go.RowKit
theorem HasC.fields {T : TT} {t : TypeId} {ti : TI} {fs : List (Nat × TypeId)} {cs : List LV} (h : HasC T t cs) (ht : T t = some ti) (hd : ti.desc = .st fs) : cs.length = ti.size ∧ ∀ f tf, f ∈ fs → T f.2 = some tf → HasC T f.2 ((cs.drop f.1).take tf.size) := by
 have hdsc : dsc T t = some (.st fs) := by unfold dsc; rw [ht]; exact congrArg some hd
 cases h with
 | int _ k n h1 => rw [h1] at hdsc; cases hdsc
 | bool _ b h1 => rw [h1] at hdsc; cases hdsc
 | nil _ e h1 => rw [h1] at hdsc; cases hdsc
 | sl _ e xs h1 => rw [h1] at hdsc; cases hdsc
 | st _ ti' fs' _ h1 h2 h3 h4 =>
  rw [ht] at h1; cases h1
  rw [hd] at h2; cases h2
  exact ⟨h3, h4⟩
theorem HasC.i64 {T : TT} {t : TypeId} {cs : List LV} (h : HasC T t cs) (ht : dsc T t = some (.int .i64)) : ∃ z, cs = [.v (.int .i64 z)] ∧ I64 z := by
 cases h with
 | int _ k n h1 h2 h3 => rw [ht] at h1; cases h1; exact ⟨n, rfl, h2, h3⟩
 | bool _ b h1 => rw [ht] at h1; cases h1
 | nil _ e h1 => rw [ht] at h1; cases h1
 | sl _ e xs h1 => rw [ht] at h1; cases h1
 | st _ ti fs cs h1 h2 => unfold dsc at ht; rw [h1] at ht; simp only [Option.some.injEq] at ht; rw [h2] at ht; cases ht
theorem len1 {cs : List LV} (h : cs.length = 1) : ∃ a, cs = [a] := by
 match cs, h with
 | [a], _ => exact ⟨a, rfl⟩
theorem len3 {cs : List LV} (h : cs.length = 3) : ∃ a b c, cs = [a, b, c] := by
 match cs, h with
 | [a, b, c], _ => exact ⟨a, b, c, rfl⟩
end Go.Ab
set_option linter.unusedVariables false
set_option linter.unusedSimpArgs false
namespace Go.Ab
open Go.RowKit
def Rk (k : Nat) (g g' : Nat → Int) : Prop := ∀ r, (0 ≤ g r → g' r = g r) ∧ (g r < 0 → g' r = g r ∨ g' r = k + 1)
theorem Rk.refl (k : Nat) (g : Nat → Int) : Rk k g g := fun r => ⟨fun _ => rfl, fun _ => .inl rfl⟩
theorem Rk.wst {k s : Nat} {g g' : Nat → Int} (h : Rk k g g') (t : Int) : Rk k g (wst k s g' t) := by
 unfold Go.Ab.wst
 by_cases hc : g' s < 0 ∧ g' t.toNat = k
 ·rw [if_pos hc]
  intro r
  unfold fset
  by_cases e : r = s
  ·subst e
   rw [if_pos rfl]
   refine ⟨fun h0 => ?_, fun _ => .inr rfl⟩
   have := (h r).1 h0
   omega
  ·rw [if_neg e]; exact h r
 ·rw [if_neg hc]; exact h
theorem Rk.fold {k s : Nat} {g : Nat → Int} : ∀ (L : List Int) {g' : Nat → Int}, Rk k g g' → Rk k g (L.foldl (Go.Ab.wst k s) g')
 | [], _, h => h
 | t :: L, _, h => Rk.fold L (h.wst t)
theorem Rk.w2 {ss : List ST} {k : Nat} {g : Nat → Int} : ∀ j, Rk k g (Go.Ab.w2 ss k g j)
 | 0 => .refl _ _
 | j + 1 => Rk.fold _ (Rk.w2 j)
section
variable {ss : List ST} {l : List Int}
end
end Go.Ab
set_option linter.unusedVariables false
set_option linter.unusedSimpArgs false
namespace Go.Ab
open Go.RowKit
theorem gX_mono {ss : List ST} {p : Int} {ins ins' g g' : Nat → Bool} (hn : ss.length ≤ 40) (hi : Le ins ins') (hg : Le g g') : Le (gX ss p ins g) (gX ss p ins' g') :=
 gX_least (fun s h => gX_g s (hg s h)) (fun s hs => by
  rw [← gX_fix hn (ins := ins') (goal := g')]
  rw [gstep_iff] at hs ⊢
  rcases hs with hs | ⟨h1, h2, h3⟩
  ·exact .inl hs
  ·exact .inr ⟨h1, hi s h2, alw_mono hi (fun _ h => h) h3⟩) ss.length
theorem mX_g {ss : List ST} {p : Int} {g : Nat → Bool} (_ : ss.length ≤ 40) (hg : ∀ s, g s = true → s < ss.length) : Le g (mX ss p g) := fun s h => mi_g hg h _
theorem mX_n {ss : List ST} {p : Int} {g : Nat → Bool} (_ : ss.length ≤ 40) (hg : ∀ s, g s = true → s < ss.length) {s : Nat} (h : mX ss p g s = true) : s < ss.length := mi_n hg _ h
section
variable {ss : List ST} {p : Int} {g : Nat → Bool} (hn : ss.length ≤ 40) (hg : ∀ s, g s = true → s < ss.length)
include hn hg
theorem mX_great {C : Nat → Bool} (hC : ∀ s, C s = true → s < ss.length) (h : Le C (gX ss p C g)) : Le C (mX ss p g) := by
 suffices h2 : ∀ k, Le C (mi ss p g k) from h2 ss.length
 intro k
 induction k with
 | zero => exact fun s hs => decide_eq_true (hC s hs)
 | succ k ih =>
  intro s hs
  rw [mi_succ hg]
  exact gX_mono hn ih (fun _ h => h) s (h s hs)
theorem mX_gX : Le (mX ss p g) (gX ss p (fun _ => true) g) := fun s h => by
 rw [← mX_fix hn hg] at h
 exact gX_mono hn (fun _ _ => rfl) (fun _ h => h) s h
end
theorem mX_mono {ss : List ST} {p : Int} {g g' : Nat → Bool} (hn : ss.length ≤ 40) (hg' : ∀ s, g' s = true → s < ss.length) (h : Le g g') : Le (mX ss p g) (mX ss p g') := by
 have hg : ∀ s, g s = true → s < ss.length := fun s hs => hg' s (h s hs)
 refine mX_great hn hg' (fun s hs => mX_n hn hg hs) fun s hs => ?_
 have h1 := hs
 rw [← mX_fix hn hg] at h1
 exact gX_mono hn (fun _ h => h) h s h1
def tos (c : CH) : List Int := c.2.2.map (·.1)
structure Alk (ss ss' : List ST) : Prop where
 len : ss.length = ss'.length
 own : ∀ s, s < ss.length → (ss.getD s default).1.1 = (ss'.getD s default).1.1
 cs : ∀ s, s < ss.length → (ss.getD s default).2.2.map tos = (ss'.getD s default).2.2.map tos
theorem wi_tos {c : CH} {f : Nat → Bool} : wi c f = (tos c).all fun t => f t.toNat := by unfold wi tos; rw [List.all_map]; rfl
theorem me_tos {c : CH} {f : Nat → Bool} : me c f = (tos c).any fun t => f t.toNat := by unfold me tos; rw [List.any_map]; rfl
theorem okc_tos {f g : Nat → Bool} : okc f g = (fun l : List Int => (l.all fun t => f t.toNat) && (l.any fun t => g t.toNat)) ∘ tos := by
 funext c; unfold okc; rw [wi_tos, me_tos]; rfl
theorem Alk.alw {ss ss' : List ST} (h : Alk ss ss') {s : Nat} (hs : s < ss.length) {p : Int} {f g : Nat → Bool} : Go.Ab.alw ss s p f g = Go.Ab.alw ss' s p f g := by
 unfold Go.Ab.alw
 rw [h.own s hs, okc_tos, ← List.any_map, ← List.all_map, h.cs s hs, List.any_map, List.all_map]
theorem Alk.gstep {ss ss' : List ST} (h : Alk ss ss') {p : Int} {ins old : Nat → Bool} : Go.Ab.gstep ss p ins old = Go.Ab.gstep ss' p ins old := by
 funext s
 unfold Go.Ab.gstep
 rw [← h.len]
 by_cases hs : s < ss.length
 ·rw [h.alw hs]
 ·rw [decide_eq_false hs]; rfl
theorem Alk.gx {ss ss' : List ST} (h : Alk ss ss') {p : Int} {ins g : Nat → Bool} : ∀ k, Go.Ab.gx ss p ins g k = Go.Ab.gx ss' p ins g k
 | 0 => rfl
 | k + 1 => by
  show Go.Ab.gstep ss p ins (Go.Ab.gx ss p ins g k) = Go.Ab.gstep ss' p ins (Go.Ab.gx ss' p ins g k)
  rw [h.gx k, h.gstep]
theorem Alk.gX {ss ss' : List ST} (h : Alk ss ss') {p : Int} {ins g : Nat → Bool} : Go.Ab.gX ss p ins g = Go.Ab.gX ss' p ins g := by unfold Go.Ab.gX; rw [h.gx, h.len]
theorem Alk.mi {ss ss' : List ST} (h : Alk ss ss') {p : Int} {g : Nat → Bool} : ∀ k, Go.Ab.mi ss p g k = Go.Ab.mi ss' p g k
 | 0 => by show (fun s => decide (s < ss.length)) = fun s => decide (s < ss'.length); rw [h.len]
 | k + 1 => by
  show Go.Ab.gX ss p (fun s => Go.Ab.mi ss p g k s || g s) g = Go.Ab.gX ss' p (fun s => Go.Ab.mi ss' p g k s || g s) g
  rw [h.mi k, h.gX]
theorem Alk.mX {ss ss' : List ST} (h : Alk ss ss') {p : Int} {g : Nat → Bool} : Go.Ab.mX ss p g = Go.Ab.mX ss' p g := by unfold Go.Ab.mX; rw [h.mi, h.len]
def att1 (ss : List ST) (p : Int) (b : Bool) (g : Nat → Bool) : Nat → Bool := if b = true then mX ss p g else gX ss p (fun _ => true) g
def atn (ss : List ST) (l : List Int) (p : Int) (L st : List Int) (b : Bool) : Bool := L.all fun t => att1 (fxs ss st p) p b (inL l) t.toNat
theorem fx_alw {ss : List ST} {st : List Int} (hst : vSt ss st = true) {p : Int} {s : Nat} (hs : s < ss.length) {f g : Nat → Bool} (h : alw (fxs ss st p) s p f g = true) : alw ss s p f g = true := by
 by_cases ho : (ss.getD s default).1.1 = p
 ·rw [alw_any (by rw [fxs_own hs]; exact ho)] at h
  rw [alw_any ho]
  obtain ⟨c, h1, h2⟩ := h
  rcases (fxs_cs hs).1 h1 with ⟨_, rfl⟩ | ⟨h3, _⟩
  ·refine ⟨_, getD_mem ?_, h2⟩
   have := vSt_at hst hs
   omega
  ·exact absurd ho h3
 ·rw [alw_all (by rw [fxs_own hs]; exact ho)] at h
  rw [alw_all ho]
  exact fun c hc => h c ((fxs_cs hs).2 (.inr ⟨ho, hc⟩))
theorem fx_gX {ss : List ST} (hn : ss.length ≤ 40) {st : List Int} (hst : vSt ss st = true) {p : Int} {ins g : Nat → Bool} : Le (gX (fxs ss st p) p ins g) (gX ss p ins g) :=
 gX_least gX_g (fun s hs => by
  rw [← gX_fix hn, gstep_iff]
  rw [gstep_iff] at hs
  rcases hs with hs | ⟨h1, h2, h3⟩
  ·exact .inl hs
  ·rw [fxs_len] at h1
   exact .inr ⟨h1, h2, fx_alw hst h1 h3⟩) _
theorem fx_mX {ss : List ST} (hn : ss.length ≤ 40) {st : List Int} (hst : vSt ss st = true) {p : Int} {g : Nat → Bool} (hg : ∀ s, g s = true → s < ss.length) : Le (mX (fxs ss st p) p g) (mX ss p g) := by
 have hxl := fxs_len (ss := ss) (st := st) (p := p)
 have hg' : ∀ s, g s = true → s < (fxs ss st p).length := by rw [hxl]; exact hg
 have hn' : (fxs ss st p).length ≤ 40 := by rw [hxl]; exact hn
 refine mX_great hn hg (fun s hs => by have := mX_n hn' hg' hs; rwa [hxl] at this) fun s hs => ?_
 rw [← mX_fix hn' hg'] at hs
 exact fx_gX hn hst s hs
theorem atn_sub {ss : List ST} (hn : ss.length ≤ 40) {l : List Int} (hg : ∀ s, inL l s = true → s < ss.length) {p : Int} {L st : List Int} (hst : vSt ss st = true) {b : Bool} (h : atn ss l p L st b = true) : ∀ t, t ∈ L → att1 ss p b (inL l) t.toNat = true := fun t ht => by
 have h1 := List.all_eq_true.1 h t ht
 unfold att1 at h1 ⊢
 cases b
 ·rw [if_neg (by decide)] at h1 ⊢; exact fx_gX hn hst _ h1
 ·rw [if_pos rfl] at h1 ⊢; exact fx_mX hn hst hg _ h1
end Go.Ab
set_option linter.unusedVariables false
set_option linter.unusedSimpArgs false
namespace Go.Ab
open Go.RowKit
section
variable {P : Program} {T : TT} {E : TypeId → Bool} {N : Nat} {e : Env} {h : Hp} {K : Env → Hp → Prop}
theorem Fz.cellR {q sz C z : Nat} {el el2 : TypeId} {us : List (List LV)} {A : List LV} {H : Hp} (a : Env) (hs : subs a e) (hqC : q ≠ C) (h0 : 0 < sz) (hl : ∀ row, row ∈ us → row.length = sz) (hd : ∀ row, row ∈ us → ∀ c, c ∈ row → Data c) (hH : getH H q = none)
  (k : K a ((C, { cells := A ++ [outR us], sz := z, elem := el2, st := 0 }) :: H)) : Fz N e (outH q sz el us ((C, { cells := A ++ [outV q sz us], sz := z, elem := el2, st := 0 }) :: H)) K := by
 cases us with
 | nil => exact Fz.same a _ hs (fun _ _ h => h) k
 | cons u us =>
  refine Fz.one (u :: us) a ((C, { cells := A ++ [outR (u :: us)], sz := z, elem := el2, st := 0 }) :: H) (ob := { cells := (u :: us).flatten, sz := sz, elem := el, st := 0 }) g0 (by show (0 : Nat) ≠ 2; decide) rfl h0 rfl hl hd (fun t l2 h2 => ⟨l2, hs.get t l2 h2, .inl rfl⟩) (fun r o2 hr => ?_) k
  by_cases e1 : C = r
  ·subst e1
   rw [g0] at hr; cases hr
   refine ⟨fun hc => hqC hc.symm, _, g1 hqC g0, rfl, by simp, fun i c c2 hc hc2 => ?_⟩
   rcases Nat.lt_or_ge i A.length with hi | hi
   ·rw [List.getElem?_append_left hi] at hc hc2
    rw [hc] at hc2; exact .inl (Option.some.inj hc2).symm
   ·rw [List.getElem?_append_right hi] at hc hc2
    rcases Nat.eq_zero_or_pos (i - A.length) with h1 | h1
    ·rw [h1] at hc hc2
     simp only [List.getElem?_cons_zero, Option.some.injEq] at hc hc2
     exact .inr ⟨hc.symm, hc2.symm⟩
    ·rw [List.getElem?_eq_none (by simp; omega)] at hc; cases hc
  ·rw [g1 e1 rfl] at hr
   refine ⟨fun hc => ?_, o2, g1 (fun hc => ?_) (g1 e1 hr), rfl, rfl, fun i c c2 hc hc2 => .inl (by rw [hc] at hc2; exact (Option.some.inj hc2).symm)⟩
   ·rw [hc, hH] at hr; cases hr
   ·rw [← hc, hH] at hr; cases hr
end
def kch (c : CH) : CH := (c.1, (1, c.2.2))
def kpl (q : Nat → Bool) (cs : List CH) : Nat → List CH
 | 0 => []
 | j + 1 => if q j = true then kpl q cs j ++ [kch (cs.getD j default)] else kpl q cs j
def kst (q : Nat → Bool) (x : ST) : ST := (x.1, (kd (kpl q x.2.2 x.2.2.length).length, kpl q x.2.2 x.2.2.length))
def kpt (q : Nat → Nat → Bool) (ss : List ST) : List ST := tab ss.length fun i => kst (q i) (ss.getD i default)
theorem kpl_yes {q : Nat → Bool} {cs : List CH} {j : Nat} (h : q j = true) : kpl q cs (j + 1) = kpl q cs j ++ [kch (cs.getD j default)] := if_pos h
theorem kpl_no {q : Nat → Bool} {cs : List CH} {j : Nat} (h : q j = false) : kpl q cs (j + 1) = kpl q cs j := if_neg (by rw [h]; decide)
theorem kpl_len (q : Nat → Bool) (cs : List CH) : ∀ j, (kpl q cs j).length ≤ j
 | 0 => Nat.le_refl _
 | j + 1 => by
  have := kpl_len q cs j
  unfold kpl
  split
  ·rw [List.length_append]; simp; omega
  ·omega
theorem kpl_mem {q : Nat → Bool} {cs : List CH} {d : CH} : ∀ {j}, d ∈ kpl q cs j → ∃ i, i < j ∧ q i = true ∧ d = kch (cs.getD i default)
 | 0, h => by simp [kpl] at h
 | j + 1, h => by
  cases hq : q j
  ·rw [kpl_no hq] at h
   obtain ⟨i, h1, h2⟩ := kpl_mem h
   exact ⟨i, om, h2⟩
  ·rw [kpl_yes hq, List.mem_append, List.mem_singleton] at h
   rcases h with h | h
   ·obtain ⟨i, h1, h2⟩ := kpl_mem h
    exact ⟨i, om, h2⟩
   ·exact ⟨j, om, hq, h⟩
theorem kpl_all {q : Nat → Bool} {cs : List CH} : ∀ {j}, j ≤ cs.length → (∀ i, i < j → q i = true) → kpl q cs j = (cs.take j).map kch
 | 0, _, _ => rfl
 | j + 1, hj, h => by
  rw [kpl_yes (h j om), kpl_all om (fun i hi => h i om), List.take_add_one, List.getElem?_eq_getElem om]
  rw [show cs.getD j default = cs[j] by rw [List.getD_eq_getElem?_getD, List.getElem?_eq_getElem om]; rfl]
  rw [List.map_append]; rfl
theorem kpl_none {q : Nat → Bool} {cs : List CH} : ∀ {j}, (∀ i, i < j → q i = false) → kpl q cs j = []
 | 0, _ => rfl
 | j + 1, h => by rw [kpl_no (h j om), kpl_none fun i hi => h i om]
theorem kpl_one {q : Nat → Bool} {cs : List CH} {a : Nat} : ∀ {j}, a < j → (∀ i, i < j → q i = decide (i = a)) → kpl q cs j = [kch (cs.getD a default)]
 | 0, h, _ => absurd h om
 | j + 1, ha, h => by
  by_cases e : a = j
  ·subst e
   rw [kpl_yes (by rw [h a om]; exact decide_eq_true rfl), kpl_none fun i hi => by rw [h i om]; exact decide_eq_false om]
   rfl
  ·rw [kpl_no (by rw [h j om]; exact decide_eq_false om), kpl_one om fun i hi => h i om]
def qf (ss : List ST) (st : List Int) (p : Int) (i k : Nat) : Bool := decide ((ss.getD i default).1.1 ≠ p) || decide (st.getD i default = (k : Int))
theorem kpt_len (q : Nat → Nat → Bool) (ss : List ST) : (kpt q ss).length = ss.length := tab_len _ _
theorem kpt_get {q : Nat → Nat → Bool} {ss : List ST} {s : Nat} (hs : s < ss.length) : (kpt q ss).getD s default = kst (q s) (ss.getD s default) := tab_get _ hs
theorem qf_cs {ss : List ST} {st : List Int} {p : Int} (hst : vSt ss st = true) {s : Nat} (hs : s < ss.length) : kpl (qf ss st p s) (ss.getD s default).2.2 (ss.getD s default).2.2.length = (fxo p (ss.getD s default) (st.getD s default)).2.2.map kch := by
 have hat := vSt_at hst hs
 unfold fxo
 by_cases ho : (ss.getD s default).1.1 = p
 ·rw [if_pos ho]
  refine kpl_one (a := (st.getD s default).toNat) om fun i hi => ?_
  unfold qf
  rw [decide_eq_false (fun h => h ho), Bool.false_or]
  by_cases e : i = (st.getD s default).toNat
  ·rw [decide_eq_true e, decide_eq_true om]
  ·rw [decide_eq_false e, decide_eq_false om]
 ·rw [if_neg ho, kpl_all (Nat.le_refl _) fun i hi => by unfold qf; rw [decide_eq_true ho, Bool.true_or], List.take_length]
theorem kpt_alk {ss : List ST} {st : List Int} {p : Int} (hst : vSt ss st = true) : Alk (kpt (qf ss st p) ss) (fxs ss st p) := by
 refine ⟨by rw [kpt_len, fxs_len], fun s hs => ?_, fun s hs => ?_⟩
 ·rw [kpt_len] at hs
  rw [kpt_get hs, fxs_own hs]; rfl
 ·rw [kpt_len] at hs
  rw [kpt_get hs, fxs_get hs]
  show (kpl _ _ _).map tos = _
  rw [qf_cs hst hs, List.map_map]; rfl
theorem kpt_vm {ss : List ST} {st : List Int} {p : Int} (hV : VM1 ss) (hst : vSt ss st = true) : VM1 (kpt (qf ss st p) ss) := by
 have key : ∀ x, x ∈ kpt (qf ss st p) ss → ∃ y, y ∈ ss ∧ x.1 = y.1 ∧ 1 ≤ x.2.2.length ∧ x.2.2.length ≤ 8 ∧ ∀ c, c ∈ x.2.2 → ∃ d, d ∈ y.2.2 ∧ c.2.2 = d.2.2 := by
  intro x hx
  obtain ⟨s, hs, rfl⟩ := tab_mem.1 hx
  have hm := getD_mem (us := ss) hs
  refine ⟨_, hm, rfl, ?_, ?_, fun c hc => ?_⟩
  ·show 1 ≤ (kpl _ _ _).length
   rw [qf_cs hst hs, List.length_map]
   unfold fxo
   split
   ·exact Nat.le_refl _
   ·exact (hV.cs _ hm).1
  ·have := kpl_len (qf ss st p s) (ss.getD s default).2.2 (ss.getD s default).2.2.length
   have := (hV.cs _ hm).2
   show (kpl _ _ _).length ≤ 8
   omega
  ·obtain ⟨i, hi, _, rfl⟩ := kpl_mem hc
   exact ⟨_, getD_mem hi, rfl⟩
 refine ⟨⟨fun x hx c hc b hb => ?_, by rw [kpt_len]; exact hV.wt.len⟩, fun x hx => ?_, fun x hx => ?_, fun x hx c hc => ?_, by rw [kpt_len]; exact hV.pos⟩
 ·obtain ⟨y, hy, _, _, _, h⟩ := key x hx
  obtain ⟨d, hd, e⟩ := h c hc
  rw [kpt_len]
  exact hV.wt.to y hy d hd b (by rw [← e]; exact hb)
 ·obtain ⟨y, hy, e, _⟩ := key x hx
  rw [e]; exact hV.own y hy
 ·obtain ⟨_, _, _, h1, h2, _⟩ := key x hx
  exact ⟨h1, h2⟩
 ·obtain ⟨y, hy, _, _, _, h⟩ := key x hx
  obtain ⟨d, hd, e⟩ := h c hc
  rw [e]; exact hV.bs y hy d hd
theorem kpt_att {ss : List ST} {st : List Int} {p : Int} (hst : vSt ss st = true) {b : Bool} {g : Nat → Bool} : att1 (kpt (qf ss st p) ss) p b g = att1 (fxs ss st p) p b g := by
 unfold att1; rw [(kpt_alk hst).mX, (kpt_alk hst).gX]
theorem con_att {n : Nat} {L : List Int} {f : Nat → Bool} (hL : VSet n L = true) : (L.any fun t => !(inL (fl n f) t.toNat)) = !(L.all fun t => f t.toNat) := by
 rw [List.not_all_eq_any_not]
 refine any_cong fun t ht => ?_
 obtain ⟨i, hi, rfl⟩ := List.getElem_of_mem ht
 have h1 := VSet_lt hL hi
 rw [show L.getD i default = L[i] by rw [List.getD_eq_getElem?_getD, List.getElem?_eq_getElem hi]; rfl] at h1
 rw [inL_fl om]
def KC (c : CH) : Prop := c.2.1 = 0 → c.2.2 = []
def KN (ss : List ST) : Prop := ∀ x, x ∈ ss → ∀ c, c ∈ x.2.2 → KC c
end Go.Ab
set_option linter.unusedVariables false
set_option linter.unusedSimpArgs false
namespace Go.Ab
open Go.RowKit
theorem VSet_mem {n : Nat} {l : List Int} (h : VSet n l = true) {t : Int} (ht : t ∈ l) : 0 ≤ t ∧ t < n := by
 obtain ⟨i, hi, rfl⟩ := List.getElem_of_mem ht
 have h1 := VSet_lt h hi
 rw [show l.getD i default = l[i] by rw [List.getD_eq_getElem?_getD, List.getElem?_eq_getElem hi]; rfl] at h1
 exact h1
def eT (ss : List ST) (l : List Int) (p : Int) (L st : List Int) : Int :=
 if VMo ss = true ∧ VSet ss.length l = true ∧ VSet ss.length L = true ∧ vSt ss st = true then if p = 0 ∨ p = 1 then if aln ss p st = true then 0 else 7 else 6 else 1
def aT (ss : List ST) (l : List Int) (p : Int) (L st : List Int) (b : Bool) : Bool := decide (eT ss l p L st = 0) && atn ss l p L st b
section
variable {ss : List ST} {l : List Int} {p : Int} {L st : List Int} {b : Bool}
theorem aT_no (h : eT ss l p L st ≠ 0) : aT ss l p L st b = false := by unfold aT; rw [decide_eq_false h]; rfl
theorem aT_yes (h : eT ss l p L st = 0) : aT ss l p L st b = atn ss l p L st b := by unfold aT; rw [decide_eq_true h]; rfl
theorem eT_1 (h : ¬ (VMo ss = true ∧ VSet ss.length l = true ∧ VSet ss.length L = true ∧ vSt ss st = true)) : eT ss l p L st = 1 := if_neg h
theorem eT_6 (h : VMo ss = true ∧ VSet ss.length l = true ∧ VSet ss.length L = true ∧ vSt ss st = true) (hp : ¬ (p = 0 ∨ p = 1)) : eT ss l p L st = 6 := by unfold eT; rw [if_pos h, if_neg hp]
theorem eT_7 (h : VMo ss = true ∧ VSet ss.length l = true ∧ VSet ss.length L = true ∧ vSt ss st = true) (hp : p = 0 ∨ p = 1) (ha : aln ss p st = false) : eT ss l p L st = 7 := by unfold eT; rw [if_pos h, if_pos hp, if_neg (by rw [ha]; decide)]
theorem eT_0 (h : VMo ss = true ∧ VSet ss.length l = true ∧ VSet ss.length L = true ∧ vSt ss st = true) (hp : p = 0 ∨ p = 1) (ha : aln ss p st = true) : eT ss l p L st = 0 := by unfold eT; rw [if_pos h, if_pos hp, if_pos ha]
theorem eT_ok (h : eT ss l p L st = 0) : (VMo ss = true ∧ VSet ss.length l = true ∧ VSet ss.length L = true ∧ vSt ss st = true) ∧ (p = 0 ∨ p = 1) ∧ aln ss p st = true := by
 unfold eT at h
 by_cases h1 : VMo ss = true ∧ VSet ss.length l = true ∧ VSet ss.length L = true ∧ vSt ss st = true
 ·rw [if_pos h1] at h
  by_cases h2 : p = 0 ∨ p = 1
  ·rw [if_pos h2] at h
   by_cases h3 : aln ss p st = true
   ·exact ⟨h1, h2, h3⟩
   ·rw [if_neg h3] at h; cases h
  ·rw [if_neg h2] at h; cases h
 ·rw [if_neg h1] at h; cases h
theorem aT_prog (he : eT ss l p L st = 0) : (!(L.any fun t => !(inL (fl (kpt (qf ss st p) ss).length (att1 (kpt (qf ss st p) ss) p b (inL l))) t.toNat))) = aT ss l p L st b := by
 obtain ⟨⟨_, _, h3, h4⟩, _, _⟩ := eT_ok he
 rw [con_att (by rw [kpt_len]; exact h3), Bool.not_not, aT_yes he, kpt_att h4]; rfl
end
theorem KN.ne {ss : List ST} (h : KN ss) (hV : VM1 ss) : ∀ x, x ∈ ss → ∀ c, c ∈ x.2.2 → c.2.1 ≠ 0 := fun x hx c hc h0 => by
 have h1 := (hV.bs x hx c hc).1
 rw [h x hx c hc h0] at h1
 exact absurd h1 (by decide)
theorem HasC.nil0 {T : TT} {t e : TypeId} {k : Nat} {xs : List (List LV)} (h : HasC T t [.sl k xs]) (ht : dsc T t = some (.sl e)) : k = 0 → xs = [] := by
 intro hk
 subst hk
 cases h with
 | nil => rfl
 | st _ ti fs cs h1 h2 => unfold dsc at ht; rw [h1] at ht; simp only [Option.some.injEq] at ht; rw [h2] at ht; cases ht
end Go.Ab
set_option linter.unusedVariables false
set_option linter.unusedSimpArgs false
namespace Go.Ab
open Go.RowKit
def sbt (a b : List Int) : Bool := a.all fun s => inL b s.toNat
theorem inL_mem {l : List Int} {s : Nat} (h : inL l s = true) : (s : Int) ∈ l := by
 unfold inL at h
 rw [List.any_eq_true] at h
 obtain ⟨t, ht, he⟩ := h
 rw [← of_decide_eq_true he]; exact ht
theorem mem_inL {l : List Int} {s : Nat} (h : (s : Int) ∈ l) : inL l s = true := List.any_eq_true.2 ⟨_, h, decide_eq_true rfl⟩
theorem sbt_set {n : Nat} {l : List Int} {f : Nat → Bool} (hl : VSet n l = true) (h : ∀ t, t ∈ l → f t.toNat = true) : sbt l (fl n f) = true := List.all_eq_true.2 fun t ht => by
 have := VSet_mem hl ht
 rw [inL_fl om]; exact h t ht
theorem sbt_goal {n : Nat} {l : List Int} {f : Nat → Bool} (hl : VSet n l = true) (h : Le (inL l) f) : sbt l (fl n f) = true := sbt_set hl fun t ht => h _ (by
 have := VSet_mem hl ht
 exact mem_inL (by rw [Int.toNat_of_nonneg this.1]; exact ht))
theorem sbt_fl {n : Nat} {f g : Nat → Bool} (h : Le f g) : sbt (fl n f) (fl n g) = true := List.all_eq_true.2 fun t ht => by
 obtain ⟨s, rfl, h1, h2⟩ := fl_mem.1 ht
 rw [Int.toNat_natCast, inL_fl h1]; exact h s h2
theorem sbt_le {n : Nat} {l m : List Int} (hl : VSet n l = true) (h : sbt l m = true) : Le (inL l) (inL m) := fun s hs => by
 have := List.all_eq_true.1 h _ (inL_mem hs)
 rwa [Int.toNat_natCast] at this
theorem fl_two {f : Nat → Bool} : ∀ n, (fl n f).length + (fl n fun s => !f s).length = n
 | 0 => rfl
 | n + 1 => by
  have ih := fl_two (f := f) n
  rw [fl_succ, fl_succ]
  cases h : f n
  ·simp only [Bool.not_false, Bool.false_eq_true, if_false, if_true, List.length_append, List.length_cons, List.length_nil]; omega
  ·simp only [Bool.not_true, Bool.false_eq_true, if_false, if_true, List.length_append, List.length_cons, List.length_nil]; omega
theorem sX_one {ss : List ST} {p : Int} {g : Nat → Bool} : sX ss (1 - p) g = gX ss p (fun _ => true) g := by unfold sX; rw [show 1 - (1 - p) = p by omega]
theorem fl_part {n i : Nat} {f : Nat → Bool} (hi : i < (fl n fun s => !f s).length) : 0 ≤ (fl n fun s => !f s).getD i default ∧ inL (fl n f) ((fl n fun s => !f s).getD i default).toNat = false := by
 have hm := getD_mem (us := fl n fun s => !f s) hi
 obtain ⟨s, e, h1, h2⟩ := fl_mem.1 hm
 rw [e, Int.toNat_natCast, inL_fl h1]
 exact ⟨om, by simpa using h2⟩
theorem getD_ext {α : Type} [Inhabited α] {xs ys : List α} (hl : xs.length = ys.length) (h : ∀ i, i < xs.length → xs.getD i default = ys.getD i default) : xs = ys := glist_eq hl h
theorem mapf_getD {α β : Type} [Inhabited α] [Inhabited β] {f : α → β} {xs : List α} {i : Nat} (hi : i < xs.length) : (xs.map f).getD i default = f (xs.getD i default) := by
 rw [List.getD_eq_getElem?_getD, List.getD_eq_getElem?_getD, List.getElem?_map, List.getElem?_eq_getElem hi]; rfl
theorem tos_eq {c d : CH} (hl : c.2.2.length = d.2.2.length) (h : ∀ t, t < c.2.2.length → (c.2.2.getD t default).1 = (d.2.2.getD t default).1) : tos c = tos d := by
 unfold tos
 refine getD_ext (by rw [List.length_map, List.length_map, hl]) fun t ht => ?_
 rw [List.length_map] at ht
 rw [mapf_getD ht, mapf_getD om]; exact h t ht
theorem css_eq {xs ys : List CH} (hl : xs.length = ys.length) (h : ∀ c, c < xs.length → tos (xs.getD c default) = tos (ys.getD c default)) : xs.map tos = ys.map tos := by
 refine getD_ext (by rw [List.length_map, List.length_map, hl]) fun t ht => ?_
 rw [List.length_map] at ht
 rw [mapf_getD ht, mapf_getD om]; exact h t ht
theorem eA_more {ss : List ST} {l m : List Int} {p : Int} (h : eA ss l p = 0) (hm : VSet ss.length m = true) : eA ss m p = 0 := by
 obtain ⟨h1, _, hp⟩ := eA_ok h
 unfold eA; rw [if_pos ⟨h1, hm⟩, if_pos hp]
theorem eA_other {ss ss' : List ST} {l : List Int} {p : Int} (h : eA ss l p = 0) (hm : VMo ss' = true) (hl : ss.length = ss'.length) : eA ss' l p = 0 := by
 obtain ⟨_, h2, hp⟩ := eA_ok h
 unfold eA; rw [if_pos ⟨hm, by rw [← hl]; exact h2⟩, if_pos hp]
theorem eA_sub {ss : List ST} {l : List Int} {p : Int} (h : eA ss l p = 0) : eA ss l (1 - p) = 0 := by
 obtain ⟨h1, h2, hp⟩ := eA_ok h
 unfold eA; rw [if_pos ⟨h1, h2⟩, if_pos om]
theorem sbt_atn {ss : List ST} {l : List Int} {p : Int} {L st : List Int} {b : Bool} (he : eT ss l p L st = 0) (h : aT ss l p L st b = true) : sbt L (fl ss.length (att1 ss p b (inL l))) = true := by
 obtain ⟨⟨h1, h2, h3, h4⟩, hp, _⟩ := eT_ok he
 rw [aT_yes he] at h
 exact sbt_set h3 (atn_sub (VMo_1 h1).wt.len (fun s hs => inL_lt h2 hs) h4 h)
end Go.Ab
set_option linter.unusedVariables false
set_option linter.unusedSimpArgs false
set_option maxRecDepth 100000
namespace Go.Proofs.YthpnlndhebcngaaGreat
open Go.Ab Go.RowKit
def ti1 : TI := ⟨1, 8, [.nilFunc], .func⟩
def ti2 : TI := ⟨1, 8, [.int .i64 0], (.int .i64)⟩
def ti3 : TI := ⟨1, 8, [.int .i64 0], (.int .i64)⟩
def ti4 : TI := ⟨1, 1, [.bool false], .bool⟩
def ti5 : TI := ⟨1, 1, [.int .u8 0], (.int .u8)⟩
def ti6 : TI := ⟨1, 1, [.int .u8 0], (.int .u8)⟩
def ti7 : TI := ⟨4, 24, [.int .i64 0, .int .i64 0, .bool false, .int .u8 0], (.st [(0, 2), (1, 3), (2, 4), (3, 6)])⟩
def ti8 : TI := ⟨4, 24, [.int .i64 0, .int .i64 0, .bool false, .int .u8 0], (.st [(0, 2), (1, 3), (2, 4), (3, 6)])⟩
def ti9 : TI := ⟨1, 16, [.string ⟨#[]⟩], .str⟩
def ti10 : TI := ⟨1, 16, [.string ⟨#[]⟩], .str⟩
def ti11 : TI := ⟨1, 16, [.string ⟨#[]⟩], .str⟩
def ti12 : TI := ⟨1, 8, [.int .u64 0], (.int .u64)⟩
def ti13 : TI := ⟨2, 24, [.string ⟨#[]⟩, .int .u64 0], (.st [(0, 9), (1, 12)])⟩
def ti14 : TI := ⟨2, 24, [.string ⟨#[]⟩, .int .u64 0], (.st [(0, 9), (1, 12)])⟩
def ti21 : TI := ⟨1, 4, [.int .i32 0], (.int .i32)⟩
def ti22 : TI := ⟨1, 24, [.slice none 0 0], (.sl 59)⟩
def ti23 : TI := ⟨1, 24, [.slice none 0 0], (.st [(0, 22)])⟩
def ti24 : TI := ⟨1, 24, [.slice none 0 0], (.st [(0, 22)])⟩
def ti25 : TI := ⟨1, 24, [.slice none 0 0], (.sl 3)⟩
def ti26 : TI := ⟨1, 8, [.nilFunc], .func⟩
def ti27 : TI := ⟨1, 8, [.nilFunc], .func⟩
def ti28 : TI := ⟨1, 8, [.int .i64 0], (.int .i64)⟩
def ti29 : TI := ⟨1, 8, [.nilFunc], .func⟩
def ti30 : TI := ⟨1, 8, [.nilFunc], .func⟩
def ti31 : TI := ⟨1, 24, [.slice none 0 0], (.sl 4)⟩
def ti32 : TI := ⟨1, 8, [.nilFunc], .func⟩
def ti34 : TI := ⟨1, 8, [.nilFunc], .func⟩
def ti35 : TI := ⟨1, 8, [.nilFunc], .func⟩
def ti36 : TI := ⟨1, 8, [.nilFunc], .func⟩
def ti37 : TI := ⟨1, 8, [.nilFunc], .func⟩
def ti38 : TI := ⟨1, 8, [.nilFunc], .func⟩
def ti39 : TI := ⟨1, 8, [.nilFunc], .func⟩
def ti40 : TI := ⟨1, 8, [.nilFunc], .func⟩
def ti42 : TI := ⟨1, 8, [.nilFunc], .func⟩
def ti43 : TI := ⟨1, 8, [.nilFunc], .func⟩
def ti44 : TI := ⟨1, 8, [.nilFunc], .func⟩
def ti45 : TI := ⟨1, 8, [.nilFunc], .func⟩
def ti46 : TI := ⟨1, 8, [.nilFunc], .func⟩
def ti47 : TI := ⟨1, 24, [.slice none 0 0], (.sl 25)⟩
def ti48 : TI := ⟨1, 8, [.nilFunc], .func⟩
def ti49 : TI := ⟨1, 8, [.nilFunc], .func⟩
def ti50 : TI := ⟨1, 8, [.nilFunc], .func⟩
def ti51 : TI := ⟨1, 8, [.nilFunc], .func⟩
def ti52 : TI := ⟨1, 8, [.nilFunc], .func⟩
def ti53 : TI := ⟨1, 8, [.nilFunc], .func⟩
def ti54 : TI := ⟨1, 8, [.nilFunc], .func⟩
def ti55 : TI := ⟨1, 8, [.nilFunc], .func⟩
def ti56 : TI := ⟨1, 8, [.nilFunc], .func⟩
def ti57 : TI := ⟨1, 24, [.slice none 0 0], (.sl 73)⟩
def ti58 : TI := ⟨3, 40, [.int .i64 0, .int .i64 0, .slice none 0 0], (.st [(0, 3), (1, 3), (2, 57)])⟩
def ti59 : TI := ⟨3, 40, [.int .i64 0, .int .i64 0, .slice none 0 0], (.st [(0, 3), (1, 3), (2, 57)])⟩
def ti60 : TI := ⟨1, 8, [.nilFunc], .func⟩
def ti61 : TI := ⟨1, 8, [.nilFunc], .func⟩
def ti62 : TI := ⟨1, 8, [.nilFunc], .func⟩
def ti64 : TI := ⟨40, 40, [.bool false, .bool false, .bool false, .bool false, .bool false, .bool false, .bool false, .bool false, .bool false, .bool false, .bool false, .bool false, .bool false, .bool false, .bool false, .bool false, .bool false, .bool false, .bool false, .bool false, .bool false, .bool false, .bool false, .bool false, .bool false, .bool false, .bool false, .bool false, .bool false, .bool false, .bool false, .bool false, .bool false, .bool false, .bool false, .bool false, .bool false, .bool false, .bool false, .bool false], (.arr 40 4)⟩
def ti65 : TI := ⟨40, 40, [.bool false, .bool false, .bool false, .bool false, .bool false, .bool false, .bool false, .bool false, .bool false, .bool false, .bool false, .bool false, .bool false, .bool false, .bool false, .bool false, .bool false, .bool false, .bool false, .bool false, .bool false, .bool false, .bool false, .bool false, .bool false, .bool false, .bool false, .bool false, .bool false, .bool false, .bool false, .bool false, .bool false, .bool false, .bool false, .bool false, .bool false, .bool false, .bool false, .bool false], (.arr 40 4)⟩
def ti66 : TI := ⟨1, 8, [.nilFunc], .func⟩
def ti67 : TI := ⟨1, 8, [.nilFunc], .func⟩
def ti68 : TI := ⟨1, 8, [.nilFunc], .func⟩
def ti69 : TI := ⟨2, 16, [.int .i64 0, .int .i64 0], (.st [(0, 3), (1, 3)])⟩
def ti70 : TI := ⟨2, 16, [.int .i64 0, .int .i64 0], (.st [(0, 3), (1, 3)])⟩
def ti71 : TI := ⟨1, 24, [.slice none 0 0], (.sl 76)⟩
def ti72 : TI := ⟨3, 40, [.int .i64 0, .int .i64 0, .slice none 0 0], (.st [(0, 70), (2, 71)])⟩
def ti73 : TI := ⟨3, 40, [.int .i64 0, .int .i64 0, .slice none 0 0], (.st [(0, 70), (2, 71)])⟩
def ti74 : TI := ⟨1, 8, [.nilFunc], .func⟩
def ti75 : TI := ⟨3, 24, [.int .i64 0, .int .i64 0, .int .i64 0], (.st [(0, 3), (1, 70)])⟩
def ti76 : TI := ⟨3, 24, [.int .i64 0, .int .i64 0, .int .i64 0], (.st [(0, 3), (1, 70)])⟩
def ti77 : TI := ⟨1, 8, [.nilFunc], .func⟩
def ti78 : TI := ⟨1, 8, [.nilFunc], .func⟩
def ti79 : TI := ⟨1, 8, [.nilFunc], .func⟩
def ti81 : TI := ⟨1, 8, [.nilFunc], .func⟩
def ti82 : TI := ⟨1, 8, [.nilFunc], .func⟩
def ti83 : TI := ⟨1, 8, [.nilFunc], .func⟩
def ti84 : TI := ⟨1, 8, [.nilFunc], .func⟩
def ti85 : TI := ⟨1, 8, [.nilFunc], .func⟩
def ti86 : TI := ⟨1, 8, [.nilFunc], .func⟩
def ti87 : TI := ⟨1, 8, [.nilFunc], .func⟩
def ti88 : TI := ⟨1, 8, [.nilFunc], .func⟩
def ti89 : TI := ⟨1, 8, [.nilFunc], .func⟩
def ti90 : TI := ⟨1, 8, [.nilFunc], .func⟩
def ti91 : TI := ⟨1, 8, [.nilFunc], .func⟩
def ti92 : TI := ⟨1, 8, [.nilFunc], .func⟩
def ti94 : TI := ⟨1, 8, [.nilFunc], .func⟩
def ti95 : TI := ⟨3, 40, [.int .i64 0, .bool false, .slice none 0 0], (.st [(0, 3), (1, 4), (2, 25)])⟩
def ti96 : TI := ⟨3, 40, [.int .i64 0, .bool false, .slice none 0 0], (.st [(0, 3), (1, 4), (2, 25)])⟩
def ti97 : TI := ⟨6, 80, [.int .i64 0, .bool false, .slice none 0 0, .int .i64 0, .bool false, .slice none 0 0], (.st [(0, 96), (3, 96)])⟩
def ti98 : TI := ⟨6, 80, [.int .i64 0, .bool false, .slice none 0 0, .int .i64 0, .bool false, .slice none 0 0], (.st [(0, 96), (3, 96)])⟩
def ti99 : TI := ⟨1, 8, [.nilFunc], .func⟩
def ti100 : TI := ⟨1, 8, [.nilFunc], .func⟩
def ti101 : TI := ⟨1, 8, [.nilFunc], .func⟩
def ti102 : TI := ⟨1, 8, [.nilFunc], .func⟩
def ti103 : TI := ⟨1, 8, [.nilFunc], .func⟩
def ti104 : TI := ⟨1, 8, [.nilFunc], .func⟩
def ti105 : TI := ⟨1, 8, [.nilFunc], .func⟩
def ti106 : TI := ⟨1, 8, [.nilFunc], .func⟩
def ti107 : TI := ⟨1, 24, [.slice none 0 0], (.sl 145)⟩
def ti108 : TI := ⟨2, 32, [.int .i64 0, .slice none 0 0], (.st [(0, 3), (1, 107)])⟩
def ti109 : TI := ⟨2, 32, [.int .i64 0, .slice none 0 0], (.st [(0, 3), (1, 107)])⟩
def ti110 : TI := ⟨4, 64, [.int .i64 0, .slice none 0 0, .int .i64 0, .slice none 0 0], (.st [(0, 109), (2, 109)])⟩
def ti111 : TI := ⟨4, 64, [.int .i64 0, .slice none 0 0, .int .i64 0, .slice none 0 0], (.st [(0, 109), (2, 109)])⟩
def ti112 : TI := ⟨1, 8, [.nilFunc], .func⟩
def ti113 : TI := ⟨1, 8, [.nilFunc], .func⟩
def ti114 : TI := ⟨1, 8, [.nilFunc], .func⟩
def ti115 : TI := ⟨1, 8, [.nilFunc], .func⟩
def ti116 : TI := ⟨1, 8, [.nilFunc], .func⟩
def ti117 : TI := ⟨1, 8, [.nilFunc], .func⟩
def ti118 : TI := ⟨1, 8, [.nilFunc], .func⟩
def ti119 : TI := ⟨1, 8, [.nilFunc], .func⟩
def ti120 : TI := ⟨1, 8, [.nilFunc], .func⟩
def ti121 : TI := ⟨1, 8, [.nilFunc], .func⟩
def ti122 : TI := ⟨1, 8, [.nilFunc], .func⟩
def ti123 : TI := ⟨1, 8, [.nilFunc], .func⟩
def ti124 : TI := ⟨1, 8, [.nilFunc], .func⟩
def ti125 : TI := ⟨1, 8, [.nilFunc], .func⟩
def ti127 : TI := ⟨1, 8, [.nilFunc], .func⟩
def ti128 : TI := ⟨1, 8, [.nilFunc], .func⟩
def ti129 : TI := ⟨1, 8, [.nilFunc], .func⟩
def ti130 : TI := ⟨1, 8, [.nilFunc], .func⟩
def ti131 : TI := ⟨1, 8, [.nilFunc], .func⟩
def ti132 : TI := ⟨1, 8, [.nilFunc], .func⟩
def ti133 : TI := ⟨1, 8, [.nilFunc], .func⟩
def ti135 : TI := ⟨1, 8, [.nilFunc], .func⟩
def ti136 : TI := ⟨1, 8, [.nilFunc], .func⟩
def ti137 : TI := ⟨1, 8, [.nilFunc], .func⟩
def ti138 : TI := ⟨1, 8, [.nilFunc], .func⟩
def ti139 : TI := ⟨1, 8, [.nilFunc], .func⟩
def ti140 : TI := ⟨1, 8, [.nilFunc], .func⟩
def ti141 : TI := ⟨1, 8, [.nilFunc], .func⟩
def ti143 : TI := ⟨1, 8, [.nilFunc], .func⟩
def ti144 : TI := ⟨1, 8, [.int .u64 0], (.int .u64)⟩
def ti145 : TI := ⟨1, 4, [.int .u32 0], (.int .u32)⟩
def ti146 : TI := ⟨1, 8, [.int .u64 0], (.int .u64)⟩
def ti148 : TI := ⟨1, 8, [.nilFunc], .func⟩
def ti149 : TI := ⟨1, 8, [.nilFunc], .func⟩
def ti150 : TI := ⟨1, 8, [.nilFunc], .func⟩
def ti151 : TI := ⟨1, 8, [.nilFunc], .func⟩
def ti153 : TI := ⟨1, 8, [.nilFunc], .func⟩
def ti154 : TI := ⟨1, 8, [.nilFunc], .func⟩
def ti155 : TI := ⟨1, 8, [.nilFunc], .func⟩
def ti157 : TI := ⟨1, 8, [.nilFunc], .func⟩
def ti159 : TI := ⟨1, 8, [.nilFunc], .func⟩
def ti160 : TI := ⟨1, 8, [.nilFunc], .func⟩
def ti162 : TI := ⟨1, 8, [.nilFunc], .func⟩
def ti164 : TI := ⟨1, 8, [.nilFunc], .func⟩
def ti165 : TI := ⟨1, 8, [.nilFunc], .func⟩
def ti166 : TI := ⟨1, 8, [.nilFunc], .func⟩
def ti167 : TI := ⟨1, 8, [.nilFunc], .func⟩
def ti168 : TI := ⟨1, 8, [.nilFunc], .func⟩
def ti172 : TI := ⟨1, 8, [.nilFunc], .func⟩
def ti178 : TI := ⟨1, 1, [.int .u8 0], (.int .u8)⟩
def ti179 : TI := ⟨1, 1, [.int .u8 0], (.int .u8)⟩
def ti180 : TI := ⟨1, 8, [.nilFunc], .func⟩
def ti182 : TI := ⟨1, 4, [.int .i32 0], (.int .i32)⟩
def ti183 : TI := ⟨1, 4, [.int .i32 0], (.int .i32)⟩
def ti186 : TI := ⟨1, 16, [.string ⟨#[]⟩], (.st [(0, 9)])⟩
def ti187 : TI := ⟨1, 16, [.string ⟨#[]⟩], (.st [(0, 9)])⟩
theorem tok1 : TypeOk Tryz.prog 1 ti1 := typeOk_of (z := (.nilFunc)) (by kernel_rfl) rfl Tryz.underlying1 ⟨_, _, _, rfl⟩ rfl (by decide)
theorem tok2 : TypeOk Tryz.prog 2 ti2 := typeOk_of (z := (.int .i64 0)) (by kernel_rfl) rfl Tryz.underlying2 rfl rfl (by decide)
theorem tok3 : TypeOk Tryz.prog 3 ti3 := typeOk_of (z := (.int .i64 0)) (by kernel_rfl) rfl Tryz.underlying3 rfl rfl (by decide)
theorem tok4 : TypeOk Tryz.prog 4 ti4 := typeOk_of (z := (.bool false)) (by kernel_rfl) rfl Tryz.underlying4 rfl rfl (by decide)
theorem tok5 : TypeOk Tryz.prog 5 ti5 := typeOk_of (z := (.int .u8 0)) (by kernel_rfl) rfl Tryz.underlying5 rfl rfl (by decide)
theorem tok6 : TypeOk Tryz.prog 6 ti6 := typeOk_of (z := (.int .u8 0)) (by kernel_rfl) rfl Tryz.underlying6 rfl rfl (by decide)
theorem tok7 : TypeOk Tryz.prog 7 ti7 := typeOk_of (z := (.agg #[.int .i64 0, .int .i64 0, .bool false, .int .u8 0])) (by kernel_rfl) rfl Tryz.underlying7 ⟨_, rfl, rfl⟩ rfl (by decide)
theorem tok8 : TypeOk Tryz.prog 8 ti8 := typeOk_of (z := (.agg #[.int .i64 0, .int .i64 0, .bool false, .int .u8 0])) (by kernel_rfl) rfl Tryz.underlying8 ⟨_, rfl, rfl⟩ rfl (by decide)
theorem tok9 : TypeOk Tryz.prog 9 ti9 := typeOk_of (z := (.string ⟨#[]⟩)) (by kernel_rfl) rfl Tryz.underlying9 rfl rfl (by decide)
theorem tok10 : TypeOk Tryz.prog 10 ti10 := typeOk_of (z := (.string ⟨#[]⟩)) (by kernel_rfl) rfl Tryz.underlying10 rfl rfl (by decide)
theorem tok11 : TypeOk Tryz.prog 11 ti11 := typeOk_of (z := (.string ⟨#[]⟩)) (by kernel_rfl) rfl Tryz.underlying11 rfl rfl (by decide)
theorem tok12 : TypeOk Tryz.prog 12 ti12 := typeOk_of (z := (.int .u64 0)) (by kernel_rfl) rfl Tryz.underlying12 rfl rfl (by decide)
theorem tok13 : TypeOk Tryz.prog 13 ti13 := typeOk_of (z := (.agg #[.string ⟨#[]⟩, .int .u64 0])) (by kernel_rfl) rfl Tryz.underlying13 ⟨_, rfl, rfl⟩ rfl (by decide)
theorem tok14 : TypeOk Tryz.prog 14 ti14 := typeOk_of (z := (.agg #[.string ⟨#[]⟩, .int .u64 0])) (by kernel_rfl) rfl Tryz.underlying14 ⟨_, rfl, rfl⟩ rfl (by decide)
theorem tok21 : TypeOk Tryz.prog 21 ti21 := typeOk_of (z := (.int .i32 0)) (by kernel_rfl) rfl Tryz.underlying21 rfl rfl (by decide)
theorem tok22 : TypeOk Tryz.prog 22 ti22 := typeOk_of (z := (.slice none 0 0)) (by kernel_rfl) rfl Tryz.underlying22 rfl rfl (by decide)
theorem tok23 : TypeOk Tryz.prog 23 ti23 := typeOk_of (z := (.agg #[.slice none 0 0])) (by kernel_rfl) rfl Tryz.underlying23 ⟨_, rfl, rfl⟩ rfl (by decide)
theorem tok24 : TypeOk Tryz.prog 24 ti24 := typeOk_of (z := (.agg #[.slice none 0 0])) (by kernel_rfl) rfl Tryz.underlying24 ⟨_, rfl, rfl⟩ rfl (by decide)
theorem tok25 : TypeOk Tryz.prog 25 ti25 := typeOk_of (z := (.slice none 0 0)) (by kernel_rfl) rfl Tryz.underlying25 rfl rfl (by decide)
theorem tok26 : TypeOk Tryz.prog 26 ti26 := typeOk_of (z := (.nilFunc)) (by kernel_rfl) rfl Tryz.underlying26 ⟨_, _, _, rfl⟩ rfl (by decide)
theorem tok27 : TypeOk Tryz.prog 27 ti27 := typeOk_of (z := (.nilFunc)) (by kernel_rfl) rfl Tryz.underlying27 ⟨_, _, _, rfl⟩ rfl (by decide)
theorem tok28 : TypeOk Tryz.prog 28 ti28 := typeOk_of (z := (.int .i64 0)) (by kernel_rfl) rfl Tryz.underlying28 rfl rfl (by decide)
theorem tok29 : TypeOk Tryz.prog 29 ti29 := typeOk_of (z := (.nilFunc)) (by kernel_rfl) rfl Tryz.underlying29 ⟨_, _, _, rfl⟩ rfl (by decide)
theorem tok30 : TypeOk Tryz.prog 30 ti30 := typeOk_of (z := (.nilFunc)) (by kernel_rfl) rfl Tryz.underlying30 ⟨_, _, _, rfl⟩ rfl (by decide)
theorem tok31 : TypeOk Tryz.prog 31 ti31 := typeOk_of (z := (.slice none 0 0)) (by kernel_rfl) rfl Tryz.underlying31 rfl rfl (by decide)
theorem tok32 : TypeOk Tryz.prog 32 ti32 := typeOk_of (z := (.nilFunc)) (by kernel_rfl) rfl Tryz.underlying32 ⟨_, _, _, rfl⟩ rfl (by decide)
theorem tok34 : TypeOk Tryz.prog 34 ti34 := typeOk_of (z := (.nilFunc)) (by kernel_rfl) rfl Tryz.underlying34 ⟨_, _, _, rfl⟩ rfl (by decide)
theorem tok35 : TypeOk Tryz.prog 35 ti35 := typeOk_of (z := (.nilFunc)) (by kernel_rfl) rfl Tryz.underlying35 ⟨_, _, _, rfl⟩ rfl (by decide)
theorem tok36 : TypeOk Tryz.prog 36 ti36 := typeOk_of (z := (.nilFunc)) (by kernel_rfl) rfl Tryz.underlying36 ⟨_, _, _, rfl⟩ rfl (by decide)
theorem tok37 : TypeOk Tryz.prog 37 ti37 := typeOk_of (z := (.nilFunc)) (by kernel_rfl) rfl Tryz.underlying37 ⟨_, _, _, rfl⟩ rfl (by decide)
theorem tok38 : TypeOk Tryz.prog 38 ti38 := typeOk_of (z := (.nilFunc)) (by kernel_rfl) rfl Tryz.underlying38 ⟨_, _, _, rfl⟩ rfl (by decide)
theorem tok39 : TypeOk Tryz.prog 39 ti39 := typeOk_of (z := (.nilFunc)) (by kernel_rfl) rfl Tryz.underlying39 ⟨_, _, _, rfl⟩ rfl (by decide)
theorem tok40 : TypeOk Tryz.prog 40 ti40 := typeOk_of (z := (.nilFunc)) (by kernel_rfl) rfl Tryz.underlying40 ⟨_, _, _, rfl⟩ rfl (by decide)
theorem tok42 : TypeOk Tryz.prog 42 ti42 := typeOk_of (z := (.nilFunc)) (by kernel_rfl) rfl Tryz.underlying42 ⟨_, _, _, rfl⟩ rfl (by decide)
theorem tok43 : TypeOk Tryz.prog 43 ti43 := typeOk_of (z := (.nilFunc)) (by kernel_rfl) rfl Tryz.underlying43 ⟨_, _, _, rfl⟩ rfl (by decide)
theorem tok44 : TypeOk Tryz.prog 44 ti44 := typeOk_of (z := (.nilFunc)) (by kernel_rfl) rfl Tryz.underlying44 ⟨_, _, _, rfl⟩ rfl (by decide)
theorem tok45 : TypeOk Tryz.prog 45 ti45 := typeOk_of (z := (.nilFunc)) (by kernel_rfl) rfl Tryz.underlying45 ⟨_, _, _, rfl⟩ rfl (by decide)
theorem tok46 : TypeOk Tryz.prog 46 ti46 := typeOk_of (z := (.nilFunc)) (by kernel_rfl) rfl Tryz.underlying46 ⟨_, _, _, rfl⟩ rfl (by decide)
theorem tok47 : TypeOk Tryz.prog 47 ti47 := typeOk_of (z := (.slice none 0 0)) (by kernel_rfl) rfl Tryz.underlying47 rfl rfl (by decide)
theorem tok48 : TypeOk Tryz.prog 48 ti48 := typeOk_of (z := (.nilFunc)) (by kernel_rfl) rfl Tryz.underlying48 ⟨_, _, _, rfl⟩ rfl (by decide)
theorem tok49 : TypeOk Tryz.prog 49 ti49 := typeOk_of (z := (.nilFunc)) (by kernel_rfl) rfl Tryz.underlying49 ⟨_, _, _, rfl⟩ rfl (by decide)
theorem tok50 : TypeOk Tryz.prog 50 ti50 := typeOk_of (z := (.nilFunc)) (by kernel_rfl) rfl Tryz.underlying50 ⟨_, _, _, rfl⟩ rfl (by decide)
theorem tok51 : TypeOk Tryz.prog 51 ti51 := typeOk_of (z := (.nilFunc)) (by kernel_rfl) rfl Tryz.underlying51 ⟨_, _, _, rfl⟩ rfl (by decide)
theorem tok52 : TypeOk Tryz.prog 52 ti52 := typeOk_of (z := (.nilFunc)) (by kernel_rfl) rfl Tryz.underlying52 ⟨_, _, _, rfl⟩ rfl (by decide)
theorem tok53 : TypeOk Tryz.prog 53 ti53 := typeOk_of (z := (.nilFunc)) (by kernel_rfl) rfl Tryz.underlying53 ⟨_, _, _, rfl⟩ rfl (by decide)
theorem tok54 : TypeOk Tryz.prog 54 ti54 := typeOk_of (z := (.nilFunc)) (by kernel_rfl) rfl Tryz.underlying54 ⟨_, _, _, rfl⟩ rfl (by decide)
theorem tok55 : TypeOk Tryz.prog 55 ti55 := typeOk_of (z := (.nilFunc)) (by kernel_rfl) rfl Tryz.underlying55 ⟨_, _, _, rfl⟩ rfl (by decide)
theorem tok56 : TypeOk Tryz.prog 56 ti56 := typeOk_of (z := (.nilFunc)) (by kernel_rfl) rfl Tryz.underlying56 ⟨_, _, _, rfl⟩ rfl (by decide)
theorem tok57 : TypeOk Tryz.prog 57 ti57 := typeOk_of (z := (.slice none 0 0)) (by kernel_rfl) rfl Tryz.underlying57 rfl rfl (by decide)
theorem tok58 : TypeOk Tryz.prog 58 ti58 := typeOk_of (z := (.agg #[.int .i64 0, .int .i64 0, .slice none 0 0])) (by kernel_rfl) rfl Tryz.underlying58 ⟨_, rfl, rfl⟩ rfl (by decide)
theorem tok59 : TypeOk Tryz.prog 59 ti59 := typeOk_of (z := (.agg #[.int .i64 0, .int .i64 0, .slice none 0 0])) (by kernel_rfl) rfl Tryz.underlying59 ⟨_, rfl, rfl⟩ rfl (by decide)
theorem tok60 : TypeOk Tryz.prog 60 ti60 := typeOk_of (z := (.nilFunc)) (by kernel_rfl) rfl Tryz.underlying60 ⟨_, _, _, rfl⟩ rfl (by decide)
theorem tok61 : TypeOk Tryz.prog 61 ti61 := typeOk_of (z := (.nilFunc)) (by kernel_rfl) rfl Tryz.underlying61 ⟨_, _, _, rfl⟩ rfl (by decide)
theorem tok62 : TypeOk Tryz.prog 62 ti62 := typeOk_of (z := (.nilFunc)) (by kernel_rfl) rfl Tryz.underlying62 ⟨_, _, _, rfl⟩ rfl (by decide)
theorem tok64 : TypeOk Tryz.prog 64 ti64 := typeOk_of (z := (.agg #[.bool false, .bool false, .bool false, .bool false, .bool false, .bool false, .bool false, .bool false, .bool false, .bool false, .bool false, .bool false, .bool false, .bool false, .bool false, .bool false, .bool false, .bool false, .bool false, .bool false, .bool false, .bool false, .bool false, .bool false, .bool false, .bool false, .bool false, .bool false, .bool false, .bool false, .bool false, .bool false, .bool false, .bool false, .bool false, .bool false, .bool false, .bool false, .bool false, .bool false])) (by kernel_rfl) rfl Tryz.underlying64 rfl rfl (by decide)
theorem tok65 : TypeOk Tryz.prog 65 ti65 := typeOk_of (z := (.agg #[.bool false, .bool false, .bool false, .bool false, .bool false, .bool false, .bool false, .bool false, .bool false, .bool false, .bool false, .bool false, .bool false, .bool false, .bool false, .bool false, .bool false, .bool false, .bool false, .bool false, .bool false, .bool false, .bool false, .bool false, .bool false, .bool false, .bool false, .bool false, .bool false, .bool false, .bool false, .bool false, .bool false, .bool false, .bool false, .bool false, .bool false, .bool false, .bool false, .bool false])) (by kernel_rfl) rfl Tryz.underlying65 rfl rfl (by decide)
theorem tok66 : TypeOk Tryz.prog 66 ti66 := typeOk_of (z := (.nilFunc)) (by kernel_rfl) rfl Tryz.underlying66 ⟨_, _, _, rfl⟩ rfl (by decide)
theorem tok67 : TypeOk Tryz.prog 67 ti67 := typeOk_of (z := (.nilFunc)) (by kernel_rfl) rfl Tryz.underlying67 ⟨_, _, _, rfl⟩ rfl (by decide)
theorem tok68 : TypeOk Tryz.prog 68 ti68 := typeOk_of (z := (.nilFunc)) (by kernel_rfl) rfl Tryz.underlying68 ⟨_, _, _, rfl⟩ rfl (by decide)
theorem tok69 : TypeOk Tryz.prog 69 ti69 := typeOk_of (z := (.agg #[.int .i64 0, .int .i64 0])) (by kernel_rfl) rfl Tryz.underlying69 ⟨_, rfl, rfl⟩ rfl (by decide)
theorem tok70 : TypeOk Tryz.prog 70 ti70 := typeOk_of (z := (.agg #[.int .i64 0, .int .i64 0])) (by kernel_rfl) rfl Tryz.underlying70 ⟨_, rfl, rfl⟩ rfl (by decide)
theorem tok71 : TypeOk Tryz.prog 71 ti71 := typeOk_of (z := (.slice none 0 0)) (by kernel_rfl) rfl Tryz.underlying71 rfl rfl (by decide)
theorem tok72 : TypeOk Tryz.prog 72 ti72 := typeOk_of (z := (.agg #[.int .i64 0, .int .i64 0, .slice none 0 0])) (by kernel_rfl) rfl Tryz.underlying72 ⟨_, rfl, rfl⟩ rfl (by decide)
theorem tok73 : TypeOk Tryz.prog 73 ti73 := typeOk_of (z := (.agg #[.int .i64 0, .int .i64 0, .slice none 0 0])) (by kernel_rfl) rfl Tryz.underlying73 ⟨_, rfl, rfl⟩ rfl (by decide)
theorem tok74 : TypeOk Tryz.prog 74 ti74 := typeOk_of (z := (.nilFunc)) (by kernel_rfl) rfl Tryz.underlying74 ⟨_, _, _, rfl⟩ rfl (by decide)
theorem tok75 : TypeOk Tryz.prog 75 ti75 := typeOk_of (z := (.agg #[.int .i64 0, .int .i64 0, .int .i64 0])) (by kernel_rfl) rfl Tryz.underlying75 ⟨_, rfl, rfl⟩ rfl (by decide)
theorem tok76 : TypeOk Tryz.prog 76 ti76 := typeOk_of (z := (.agg #[.int .i64 0, .int .i64 0, .int .i64 0])) (by kernel_rfl) rfl Tryz.underlying76 ⟨_, rfl, rfl⟩ rfl (by decide)
theorem tok77 : TypeOk Tryz.prog 77 ti77 := typeOk_of (z := (.nilFunc)) (by kernel_rfl) rfl Tryz.underlying77 ⟨_, _, _, rfl⟩ rfl (by decide)
theorem tok78 : TypeOk Tryz.prog 78 ti78 := typeOk_of (z := (.nilFunc)) (by kernel_rfl) rfl Tryz.underlying78 ⟨_, _, _, rfl⟩ rfl (by decide)
theorem tok79 : TypeOk Tryz.prog 79 ti79 := typeOk_of (z := (.nilFunc)) (by kernel_rfl) rfl Tryz.underlying79 ⟨_, _, _, rfl⟩ rfl (by decide)
theorem tok81 : TypeOk Tryz.prog 81 ti81 := typeOk_of (z := (.nilFunc)) (by kernel_rfl) rfl Tryz.underlying81 ⟨_, _, _, rfl⟩ rfl (by decide)
theorem tok82 : TypeOk Tryz.prog 82 ti82 := typeOk_of (z := (.nilFunc)) (by kernel_rfl) rfl Tryz.underlying82 ⟨_, _, _, rfl⟩ rfl (by decide)
theorem tok83 : TypeOk Tryz.prog 83 ti83 := typeOk_of (z := (.nilFunc)) (by kernel_rfl) rfl Tryz.underlying83 ⟨_, _, _, rfl⟩ rfl (by decide)
theorem tok84 : TypeOk Tryz.prog 84 ti84 := typeOk_of (z := (.nilFunc)) (by kernel_rfl) rfl Tryz.underlying84 ⟨_, _, _, rfl⟩ rfl (by decide)
theorem tok85 : TypeOk Tryz.prog 85 ti85 := typeOk_of (z := (.nilFunc)) (by kernel_rfl) rfl Tryz.underlying85 ⟨_, _, _, rfl⟩ rfl (by decide)
theorem tok86 : TypeOk Tryz.prog 86 ti86 := typeOk_of (z := (.nilFunc)) (by kernel_rfl) rfl Tryz.underlying86 ⟨_, _, _, rfl⟩ rfl (by decide)
theorem tok87 : TypeOk Tryz.prog 87 ti87 := typeOk_of (z := (.nilFunc)) (by kernel_rfl) rfl Tryz.underlying87 ⟨_, _, _, rfl⟩ rfl (by decide)
theorem tok88 : TypeOk Tryz.prog 88 ti88 := typeOk_of (z := (.nilFunc)) (by kernel_rfl) rfl Tryz.underlying88 ⟨_, _, _, rfl⟩ rfl (by decide)
theorem tok89 : TypeOk Tryz.prog 89 ti89 := typeOk_of (z := (.nilFunc)) (by kernel_rfl) rfl Tryz.underlying89 ⟨_, _, _, rfl⟩ rfl (by decide)
theorem tok90 : TypeOk Tryz.prog 90 ti90 := typeOk_of (z := (.nilFunc)) (by kernel_rfl) rfl Tryz.underlying90 ⟨_, _, _, rfl⟩ rfl (by decide)
theorem tok91 : TypeOk Tryz.prog 91 ti91 := typeOk_of (z := (.nilFunc)) (by kernel_rfl) rfl Tryz.underlying91 ⟨_, _, _, rfl⟩ rfl (by decide)
theorem tok92 : TypeOk Tryz.prog 92 ti92 := typeOk_of (z := (.nilFunc)) (by kernel_rfl) rfl Tryz.underlying92 ⟨_, _, _, rfl⟩ rfl (by decide)
theorem tok94 : TypeOk Tryz.prog 94 ti94 := typeOk_of (z := (.nilFunc)) (by kernel_rfl) rfl Tryz.underlying94 ⟨_, _, _, rfl⟩ rfl (by decide)
theorem tok95 : TypeOk Tryz.prog 95 ti95 := typeOk_of (z := (.agg #[.int .i64 0, .bool false, .slice none 0 0])) (by kernel_rfl) rfl Tryz.underlying95 ⟨_, rfl, rfl⟩ rfl (by decide)
theorem tok96 : TypeOk Tryz.prog 96 ti96 := typeOk_of (z := (.agg #[.int .i64 0, .bool false, .slice none 0 0])) (by kernel_rfl) rfl Tryz.underlying96 ⟨_, rfl, rfl⟩ rfl (by decide)
theorem tok97 : TypeOk Tryz.prog 97 ti97 := typeOk_of (z := (.agg #[.int .i64 0, .bool false, .slice none 0 0, .int .i64 0, .bool false, .slice none 0 0])) (by kernel_rfl) rfl Tryz.underlying97 ⟨_, rfl, rfl⟩ rfl (by decide)
theorem tok98 : TypeOk Tryz.prog 98 ti98 := typeOk_of (z := (.agg #[.int .i64 0, .bool false, .slice none 0 0, .int .i64 0, .bool false, .slice none 0 0])) (by kernel_rfl) rfl Tryz.underlying98 ⟨_, rfl, rfl⟩ rfl (by decide)
theorem tok99 : TypeOk Tryz.prog 99 ti99 := typeOk_of (z := (.nilFunc)) (by kernel_rfl) rfl Tryz.underlying99 ⟨_, _, _, rfl⟩ rfl (by decide)
theorem tok100 : TypeOk Tryz.prog 100 ti100 := typeOk_of (z := (.nilFunc)) (by kernel_rfl) rfl Tryz.underlying100 ⟨_, _, _, rfl⟩ rfl (by decide)
theorem tok101 : TypeOk Tryz.prog 101 ti101 := typeOk_of (z := (.nilFunc)) (by kernel_rfl) rfl Tryz.underlying101 ⟨_, _, _, rfl⟩ rfl (by decide)
theorem tok102 : TypeOk Tryz.prog 102 ti102 := typeOk_of (z := (.nilFunc)) (by kernel_rfl) rfl Tryz.underlying102 ⟨_, _, _, rfl⟩ rfl (by decide)
theorem tok103 : TypeOk Tryz.prog 103 ti103 := typeOk_of (z := (.nilFunc)) (by kernel_rfl) rfl Tryz.underlying103 ⟨_, _, _, rfl⟩ rfl (by decide)
theorem tok104 : TypeOk Tryz.prog 104 ti104 := typeOk_of (z := (.nilFunc)) (by kernel_rfl) rfl Tryz.underlying104 ⟨_, _, _, rfl⟩ rfl (by decide)
theorem tok105 : TypeOk Tryz.prog 105 ti105 := typeOk_of (z := (.nilFunc)) (by kernel_rfl) rfl Tryz.underlying105 ⟨_, _, _, rfl⟩ rfl (by decide)
theorem tok106 : TypeOk Tryz.prog 106 ti106 := typeOk_of (z := (.nilFunc)) (by kernel_rfl) rfl Tryz.underlying106 ⟨_, _, _, rfl⟩ rfl (by decide)
theorem tok107 : TypeOk Tryz.prog 107 ti107 := typeOk_of (z := (.slice none 0 0)) (by kernel_rfl) rfl Tryz.underlying107 rfl rfl (by decide)
theorem tok108 : TypeOk Tryz.prog 108 ti108 := typeOk_of (z := (.agg #[.int .i64 0, .slice none 0 0])) (by kernel_rfl) rfl Tryz.underlying108 ⟨_, rfl, rfl⟩ rfl (by decide)
theorem tok109 : TypeOk Tryz.prog 109 ti109 := typeOk_of (z := (.agg #[.int .i64 0, .slice none 0 0])) (by kernel_rfl) rfl Tryz.underlying109 ⟨_, rfl, rfl⟩ rfl (by decide)
theorem tok110 : TypeOk Tryz.prog 110 ti110 := typeOk_of (z := (.agg #[.int .i64 0, .slice none 0 0, .int .i64 0, .slice none 0 0])) (by kernel_rfl) rfl Tryz.underlying110 ⟨_, rfl, rfl⟩ rfl (by decide)
theorem tok111 : TypeOk Tryz.prog 111 ti111 := typeOk_of (z := (.agg #[.int .i64 0, .slice none 0 0, .int .i64 0, .slice none 0 0])) (by kernel_rfl) rfl Tryz.underlying111 ⟨_, rfl, rfl⟩ rfl (by decide)
theorem tok112 : TypeOk Tryz.prog 112 ti112 := typeOk_of (z := (.nilFunc)) (by kernel_rfl) rfl Tryz.underlying112 ⟨_, _, _, rfl⟩ rfl (by decide)
theorem tok113 : TypeOk Tryz.prog 113 ti113 := typeOk_of (z := (.nilFunc)) (by kernel_rfl) rfl Tryz.underlying113 ⟨_, _, _, rfl⟩ rfl (by decide)
theorem tok114 : TypeOk Tryz.prog 114 ti114 := typeOk_of (z := (.nilFunc)) (by kernel_rfl) rfl Tryz.underlying114 ⟨_, _, _, rfl⟩ rfl (by decide)
theorem tok115 : TypeOk Tryz.prog 115 ti115 := typeOk_of (z := (.nilFunc)) (by kernel_rfl) rfl Tryz.underlying115 ⟨_, _, _, rfl⟩ rfl (by decide)
theorem tok116 : TypeOk Tryz.prog 116 ti116 := typeOk_of (z := (.nilFunc)) (by kernel_rfl) rfl Tryz.underlying116 ⟨_, _, _, rfl⟩ rfl (by decide)
theorem tok117 : TypeOk Tryz.prog 117 ti117 := typeOk_of (z := (.nilFunc)) (by kernel_rfl) rfl Tryz.underlying117 ⟨_, _, _, rfl⟩ rfl (by decide)
theorem tok118 : TypeOk Tryz.prog 118 ti118 := typeOk_of (z := (.nilFunc)) (by kernel_rfl) rfl Tryz.underlying118 ⟨_, _, _, rfl⟩ rfl (by decide)
theorem tok119 : TypeOk Tryz.prog 119 ti119 := typeOk_of (z := (.nilFunc)) (by kernel_rfl) rfl Tryz.underlying119 ⟨_, _, _, rfl⟩ rfl (by decide)
theorem tok120 : TypeOk Tryz.prog 120 ti120 := typeOk_of (z := (.nilFunc)) (by kernel_rfl) rfl Tryz.underlying120 ⟨_, _, _, rfl⟩ rfl (by decide)
theorem tok121 : TypeOk Tryz.prog 121 ti121 := typeOk_of (z := (.nilFunc)) (by kernel_rfl) rfl Tryz.underlying121 ⟨_, _, _, rfl⟩ rfl (by decide)
theorem tok122 : TypeOk Tryz.prog 122 ti122 := typeOk_of (z := (.nilFunc)) (by kernel_rfl) rfl Tryz.underlying122 ⟨_, _, _, rfl⟩ rfl (by decide)
theorem tok123 : TypeOk Tryz.prog 123 ti123 := typeOk_of (z := (.nilFunc)) (by kernel_rfl) rfl Tryz.underlying123 ⟨_, _, _, rfl⟩ rfl (by decide)
theorem tok124 : TypeOk Tryz.prog 124 ti124 := typeOk_of (z := (.nilFunc)) (by kernel_rfl) rfl Tryz.underlying124 ⟨_, _, _, rfl⟩ rfl (by decide)
theorem tok125 : TypeOk Tryz.prog 125 ti125 := typeOk_of (z := (.nilFunc)) (by kernel_rfl) rfl Tryz.underlying125 ⟨_, _, _, rfl⟩ rfl (by decide)
theorem tok127 : TypeOk Tryz.prog 127 ti127 := typeOk_of (z := (.nilFunc)) (by kernel_rfl) rfl Tryz.underlying127 ⟨_, _, _, rfl⟩ rfl (by decide)
theorem tok128 : TypeOk Tryz.prog 128 ti128 := typeOk_of (z := (.nilFunc)) (by kernel_rfl) rfl Tryz.underlying128 ⟨_, _, _, rfl⟩ rfl (by decide)
theorem tok129 : TypeOk Tryz.prog 129 ti129 := typeOk_of (z := (.nilFunc)) (by kernel_rfl) rfl Tryz.underlying129 ⟨_, _, _, rfl⟩ rfl (by decide)
theorem tok130 : TypeOk Tryz.prog 130 ti130 := typeOk_of (z := (.nilFunc)) (by kernel_rfl) rfl Tryz.underlying130 ⟨_, _, _, rfl⟩ rfl (by decide)
theorem tok131 : TypeOk Tryz.prog 131 ti131 := typeOk_of (z := (.nilFunc)) (by kernel_rfl) rfl Tryz.underlying131 ⟨_, _, _, rfl⟩ rfl (by decide)
theorem tok132 : TypeOk Tryz.prog 132 ti132 := typeOk_of (z := (.nilFunc)) (by kernel_rfl) rfl Tryz.underlying132 ⟨_, _, _, rfl⟩ rfl (by decide)
theorem tok133 : TypeOk Tryz.prog 133 ti133 := typeOk_of (z := (.nilFunc)) (by kernel_rfl) rfl Tryz.underlying133 ⟨_, _, _, rfl⟩ rfl (by decide)
theorem tok135 : TypeOk Tryz.prog 135 ti135 := typeOk_of (z := (.nilFunc)) (by kernel_rfl) rfl Tryz.underlying135 ⟨_, _, _, rfl⟩ rfl (by decide)
theorem tok136 : TypeOk Tryz.prog 136 ti136 := typeOk_of (z := (.nilFunc)) (by kernel_rfl) rfl Tryz.underlying136 ⟨_, _, _, rfl⟩ rfl (by decide)
theorem tok137 : TypeOk Tryz.prog 137 ti137 := typeOk_of (z := (.nilFunc)) (by kernel_rfl) rfl Tryz.underlying137 ⟨_, _, _, rfl⟩ rfl (by decide)
theorem tok138 : TypeOk Tryz.prog 138 ti138 := typeOk_of (z := (.nilFunc)) (by kernel_rfl) rfl Tryz.underlying138 ⟨_, _, _, rfl⟩ rfl (by decide)
theorem tok139 : TypeOk Tryz.prog 139 ti139 := typeOk_of (z := (.nilFunc)) (by kernel_rfl) rfl Tryz.underlying139 ⟨_, _, _, rfl⟩ rfl (by decide)
theorem tok140 : TypeOk Tryz.prog 140 ti140 := typeOk_of (z := (.nilFunc)) (by kernel_rfl) rfl Tryz.underlying140 ⟨_, _, _, rfl⟩ rfl (by decide)
theorem tok141 : TypeOk Tryz.prog 141 ti141 := typeOk_of (z := (.nilFunc)) (by kernel_rfl) rfl Tryz.underlying141 ⟨_, _, _, rfl⟩ rfl (by decide)
theorem tok143 : TypeOk Tryz.prog 143 ti143 := typeOk_of (z := (.nilFunc)) (by kernel_rfl) rfl Tryz.underlying143 ⟨_, _, _, rfl⟩ rfl (by decide)
theorem tok144 : TypeOk Tryz.prog 144 ti144 := typeOk_of (z := (.int .u64 0)) (by kernel_rfl) rfl Tryz.underlying144 rfl rfl (by decide)
theorem tok145 : TypeOk Tryz.prog 145 ti145 := typeOk_of (z := (.int .u32 0)) (by kernel_rfl) rfl Tryz.underlying145 rfl rfl (by decide)
theorem tok146 : TypeOk Tryz.prog 146 ti146 := typeOk_of (z := (.int .u64 0)) (by kernel_rfl) rfl Tryz.underlying146 rfl rfl (by decide)
theorem tok148 : TypeOk Tryz.prog 148 ti148 := typeOk_of (z := (.nilFunc)) (by kernel_rfl) rfl Tryz.underlying148 ⟨_, _, _, rfl⟩ rfl (by decide)
theorem tok149 : TypeOk Tryz.prog 149 ti149 := typeOk_of (z := (.nilFunc)) (by kernel_rfl) rfl Tryz.underlying149 ⟨_, _, _, rfl⟩ rfl (by decide)
theorem tok150 : TypeOk Tryz.prog 150 ti150 := typeOk_of (z := (.nilFunc)) (by kernel_rfl) rfl Tryz.underlying150 ⟨_, _, _, rfl⟩ rfl (by decide)
theorem tok151 : TypeOk Tryz.prog 151 ti151 := typeOk_of (z := (.nilFunc)) (by kernel_rfl) rfl Tryz.underlying151 ⟨_, _, _, rfl⟩ rfl (by decide)
theorem tok153 : TypeOk Tryz.prog 153 ti153 := typeOk_of (z := (.nilFunc)) (by kernel_rfl) rfl Tryz.underlying153 ⟨_, _, _, rfl⟩ rfl (by decide)
theorem tok154 : TypeOk Tryz.prog 154 ti154 := typeOk_of (z := (.nilFunc)) (by kernel_rfl) rfl Tryz.underlying154 ⟨_, _, _, rfl⟩ rfl (by decide)
theorem tok155 : TypeOk Tryz.prog 155 ti155 := typeOk_of (z := (.nilFunc)) (by kernel_rfl) rfl Tryz.underlying155 ⟨_, _, _, rfl⟩ rfl (by decide)
theorem tok157 : TypeOk Tryz.prog 157 ti157 := typeOk_of (z := (.nilFunc)) (by kernel_rfl) rfl Tryz.underlying157 ⟨_, _, _, rfl⟩ rfl (by decide)
theorem tok159 : TypeOk Tryz.prog 159 ti159 := typeOk_of (z := (.nilFunc)) (by kernel_rfl) rfl Tryz.underlying159 ⟨_, _, _, rfl⟩ rfl (by decide)
theorem tok160 : TypeOk Tryz.prog 160 ti160 := typeOk_of (z := (.nilFunc)) (by kernel_rfl) rfl Tryz.underlying160 ⟨_, _, _, rfl⟩ rfl (by decide)
theorem tok162 : TypeOk Tryz.prog 162 ti162 := typeOk_of (z := (.nilFunc)) (by kernel_rfl) rfl Tryz.underlying162 ⟨_, _, _, rfl⟩ rfl (by decide)
theorem tok164 : TypeOk Tryz.prog 164 ti164 := typeOk_of (z := (.nilFunc)) (by kernel_rfl) rfl Tryz.underlying164 ⟨_, _, _, rfl⟩ rfl (by decide)
theorem tok165 : TypeOk Tryz.prog 165 ti165 := typeOk_of (z := (.nilFunc)) (by kernel_rfl) rfl Tryz.underlying165 ⟨_, _, _, rfl⟩ rfl (by decide)
theorem tok166 : TypeOk Tryz.prog 166 ti166 := typeOk_of (z := (.nilFunc)) (by kernel_rfl) rfl Tryz.underlying166 ⟨_, _, _, rfl⟩ rfl (by decide)
theorem tok167 : TypeOk Tryz.prog 167 ti167 := typeOk_of (z := (.nilFunc)) (by kernel_rfl) rfl Tryz.underlying167 ⟨_, _, _, rfl⟩ rfl (by decide)
theorem tok168 : TypeOk Tryz.prog 168 ti168 := typeOk_of (z := (.nilFunc)) (by kernel_rfl) rfl Tryz.underlying168 ⟨_, _, _, rfl⟩ rfl (by decide)
theorem tok172 : TypeOk Tryz.prog 172 ti172 := typeOk_of (z := (.nilFunc)) (by kernel_rfl) rfl Tryz.underlying172 ⟨_, _, _, rfl⟩ rfl (by decide)
theorem tok178 : TypeOk Tryz.prog 178 ti178 := typeOk_of (z := (.int .u8 0)) (by kernel_rfl) rfl Tryz.underlying178 rfl rfl (by decide)
theorem tok179 : TypeOk Tryz.prog 179 ti179 := typeOk_of (z := (.int .u8 0)) (by kernel_rfl) rfl Tryz.underlying179 rfl rfl (by decide)
theorem tok180 : TypeOk Tryz.prog 180 ti180 := typeOk_of (z := (.nilFunc)) (by kernel_rfl) rfl Tryz.underlying180 ⟨_, _, _, rfl⟩ rfl (by decide)
theorem tok182 : TypeOk Tryz.prog 182 ti182 := typeOk_of (z := (.int .i32 0)) (by kernel_rfl) rfl Tryz.underlying182 rfl rfl (by decide)
theorem tok183 : TypeOk Tryz.prog 183 ti183 := typeOk_of (z := (.int .i32 0)) (by kernel_rfl) rfl Tryz.underlying183 rfl rfl (by decide)
theorem tok186 : TypeOk Tryz.prog 186 ti186 := typeOk_of (z := (.agg #[.string ⟨#[]⟩])) (by kernel_rfl) rfl Tryz.underlying186 ⟨_, rfl, rfl⟩ rfl (by decide)
theorem tok187 : TypeOk Tryz.prog 187 ti187 := typeOk_of (z := (.agg #[.string ⟨#[]⟩])) (by kernel_rfl) rfl Tryz.underlying187 ⟨_, rfl, rfl⟩ rfl (by decide)
def tbl : List (Nat × TI) := [(1, ti1), (2, ti2), (3, ti3), (4, ti4), (5, ti5), (6, ti6), (7, ti7), (8, ti8), (9, ti9), (10, ti10), (11, ti11), (12, ti12), (13, ti13), (14, ti14), (21, ti21), (22, ti22), (23, ti23), (24, ti24), (25, ti25), (26, ti26), (27, ti27), (28, ti28), (29, ti29), (30, ti30), (31, ti31), (32, ti32), (34, ti34), (35, ti35), (36, ti36), (37, ti37), (38, ti38), (39, ti39), (40, ti40), (42, ti42), (43, ti43), (44, ti44), (45, ti45), (46, ti46), (47, ti47), (48, ti48), (49, ti49), (50, ti50), (51, ti51), (52, ti52), (53, ti53), (54, ti54), (55, ti55), (56, ti56), (57, ti57), (58, ti58), (59, ti59), (60, ti60), (61, ti61), (62, ti62), (64, ti64), (65, ti65), (66, ti66), (67, ti67), (68, ti68), (69, ti69), (70, ti70), (71, ti71), (72, ti72), (73, ti73), (74, ti74), (75, ti75), (76, ti76), (77, ti77), (78, ti78), (79, ti79), (81, ti81), (82, ti82), (83, ti83), (84, ti84), (85, ti85), (86, ti86), (87, ti87), (88, ti88), (89, ti89), (90, ti90), (91, ti91), (92, ti92), (94, ti94), (95, ti95), (96, ti96), (97, ti97), (98, ti98), (99, ti99), (100, ti100), (101, ti101), (102, ti102), (103, ti103), (104, ti104), (105, ti105), (106, ti106), (107, ti107), (108, ti108), (109, ti109), (110, ti110), (111, ti111), (112, ti112), (113, ti113), (114, ti114), (115, ti115), (116, ti116), (117, ti117), (118, ti118), (119, ti119), (120, ti120), (121, ti121), (122, ti122), (123, ti123), (124, ti124), (125, ti125), (127, ti127), (128, ti128), (129, ti129), (130, ti130), (131, ti131), (132, ti132), (133, ti133), (135, ti135), (136, ti136), (137, ti137), (138, ti138), (139, ti139), (140, ti140), (141, ti141), (143, ti143), (144, ti144), (145, ti145), (146, ti146), (148, ti148), (149, ti149), (150, ti150), (151, ti151), (153, ti153), (154, ti154), (155, ti155), (157, ti157), (159, ti159), (160, ti160), (162, ti162), (164, ti164), (165, ti165), (166, ti166), (167, ti167), (168, ti168), (172, ti172), (178, ti178), (179, ti179), (180, ti180), (182, ti182), (183, ti183), (186, ti186), (187, ti187)]
def T : TT := getT tbl
theorem typesOk : TypesOk Tryz.prog T := typesOk_of (by simp only [tbl, List.forall_mem_cons]; exact ⟨tok1, tok2, tok3, tok4, tok5, tok6, tok7, tok8, tok9, tok10, tok11, tok12, tok13, tok14, tok21, tok22, tok23, tok24, tok25, tok26, tok27, tok28, tok29, tok30, tok31, tok32, tok34, tok35, tok36, tok37, tok38, tok39, tok40, tok42, tok43, tok44, tok45, tok46, tok47, tok48, tok49, tok50, tok51, tok52, tok53, tok54, tok55, tok56, tok57, tok58, tok59, tok60, tok61, tok62, tok64, tok65, tok66, tok67, tok68, tok69, tok70, tok71, tok72, tok73, tok74, tok75, tok76, tok77, tok78, tok79, tok81, tok82, tok83, tok84, tok85, tok86, tok87, tok88, tok89, tok90, tok91, tok92, tok94, tok95, tok96, tok97, tok98, tok99, tok100, tok101, tok102, tok103, tok104, tok105, tok106, tok107, tok108, tok109, tok110, tok111, tok112, tok113, tok114, tok115, tok116, tok117, tok118, tok119, tok120, tok121, tok122, tok123, tok124, tok125, tok127, tok128, tok129, tok130, tok131, tok132, tok133, tok135, tok136, tok137, tok138, tok139, tok140, tok141, tok143, tok144, tok145, tok146, tok148, tok149, tok150, tok151, tok153, tok154, tok155, tok157, tok159, tok160, tok162, tok164, tok165, tok166, tok167, tok168, tok172, tok178, tok179, tok180, tok182, tok183, tok186, tok187, by simp⟩)
end Go.Proofs.YthpnlndhebcngaaGreat
set_option linter.unusedVariables false
set_option linter.unusedSimpArgs false
set_option maxRecDepth 100000
namespace Go.Proofs.YthpnlndhebcngaaGreat
open Go.Ab Go.RowKit
abbrev E0 : TypeId → Bool := fun t => Nat.beq t 70 || Nat.beq t 65
theorem trim_run (k : Nat) (ds : List Nat) (hk : k ≤ 2) (hl : ds.length < 4611686018427387904) : Run Tryz.prog T E0 (.call 138 [.sl k (ds.map d32)] (.sl (if k = 0 then 0 else 1) ((trim ds).map d32))) := by
 refine mkcall Tryz.func138 rfl rfl (Nat.le_of_ble_eq_true rfl) <| Rg 1 rfl <| Ua rfl rfl <| Wn <| WC.block <| WC.loopV (α := Nat × (List Nat)) (fun ⟨k1, es⟩ => [(0, .sl k1 (es.map d32))]) (fun ⟨k1, es⟩ => []) (fun ⟨k1, es⟩ n => (k1 = k ∨ k = 2 ∧ k1 = 1) ∧ trim es = trim ds ∧ es.length < 4611686018427387904) (fun ⟨k1, es⟩ => es.length) (k, ds) ⟨rfl, trivial⟩ trivial ⟨.inl rfl, rfl, hl⟩ ?_
 rintro ⟨k1, es⟩ n hF
 change WC _ _ _ _ _ (_ :: _) ([]) n _
 obtain ⟨hk1, hds, hel⟩ := hF
 refine WC.assoc <| Rg 12 rfl <| Um rfl rfl <| WO.U (oLenM rfl rfl) rfl <| WO.U (oGtr rfl rfl) rfl <| WO.D (fun h5 => ?_) (fun h5 => ?_)
 rotate_left
 ·refine Um rfl rfl <| K1 rfl rfl <| K1 rfl rfl <| K1 rfl rfl <| K1 rfl rfl <| K1 rfl rfl <| K1 rfl rfl <| K1 rfl rfl <| WO.U (oPkF rfl rfl) rfl <| Wn <| WC.cF rfl <| WC.exits <| loopR_exit <| after_exit rfl <| Rg 2 rfl <| Um rfl rfl <| Ua rfl rfl <| Nk [2] rfl <| WC.ret <| postW (n := 0) (.inr rfl) rfl ?_ (by simp)
  have ht : trim es = es := trim_done om
  rw [← hds, ht]
  rcases hk1 with rfl | ⟨rfl, rfl⟩
  ·have : k1 = 0 ∨ k1 = 1 ∨ k1 = 2 := by omega
   rcases this with rfl | rfl | rfl
   ·exact .same _
   ·exact .same _
   ·exact .two _
  ·exact .same _
 refine Um rfl rfl <| WO.Ug rfl (oMv rfl) rfl <| WO.Ug rfl (oMv rfl) rfl <| WO.Ug rfl (oLenM rfl rfl) rfl <| WO.Ug rfl (oSub64 rfl rfl om) rfl <| WO.Ug rfl (oIxM (j := es.length - 1) rfl rfl rfl rfl om om rfl) rfl <| WO.Ug rfl (oLd rfl rfl rfl) rfl <| WO.Ug rfl (oEql rfl rfl) rfl <| WO.D (fun h13 => ?_) (fun h13 => ?_)
 ·refine WO.U (oPkT rfl rfl) rfl <| Wn <| WC.cT rfl <| WC.skips <| WC.block1 <| WC.reg1z (z := 6) rfl <| Um rfl rfl <| Um rfl rfl <| WO.U (oLenM rfl rfl) rfl <| WO.U (oSub64 rfl rfl om) rfl <| WO.U (oSlH (j := es.length - 1) rfl rfl rfl rows_d32 rfl om (by simp)) rfl <| Ua rfl rfl <| Wn <| after0_normal <| loopR_normal <| ⟨⟨if k1 = 2 then 1 else k1, es.take (es.length - 1)⟩, ⟨congrArg some ?_, trivial⟩, trivial, ⟨?_, ?_, ?_⟩, ?_⟩
  ·have h9 : es.length - 1 < es.length := by omega
   simp [h9]
  ·split <;> omega
  ·rw [trim_step om om]; exact hds
  ·simp; omega
  ·simp; omega
 refine WO.U (oPkT rfl rfl) rfl <| Wn <| WC.cF rfl <| WC.exits <| loopR_exit <| after_exit rfl <| Rg 2 rfl <| Um rfl rfl <| Ua rfl rfl <| Nk [2] rfl <| WC.ret <| postW (n := 0) (.inr rfl) rfl ?_ (by simp)
 have ht : trim es = es := trim_done om
 rw [← hds, ht]
 rcases hk1 with rfl | ⟨rfl, rfl⟩
 ·have : k1 = 0 ∨ k1 = 1 ∨ k1 = 2 := by omega
  rcases this with rfl | rfl | rfl
  ·exact .same _
  ·exact .same _
  ·exact .two _
 ·exact .same _
theorem sign_run (v : Int) : Run Tryz.prog T E0 (.call 124 [lvI v] (.v (.int .i64 v.sign))) := by
 refine mkcall Tryz.func124 rfl rfl (Nat.le_of_ble_eq_true rfl) <| Rg 2 rfl <| WO.S (oBx rfl rfl) rfl <| Ua rfl rfl <| Wn <| WC.block <| Rg 4 rfl <| WO.U (oFaP rfl rfl rfl rfl rfl) rfl <| WO.U (oLdP rfl rfl rfl rfl rfl) rfl <| WO.U (oGtr rfl rfl) rfl <| WO.D (fun h6 => ?_) (fun h6 => ?_)
 ·refine Ua rfl rfl <| Wn <| WC.cT1 rfl <| Rg 1 rfl <| Ua rfl rfl <| Wn <| WC.ret <| after_ret <| post (n := 0) (.inr rfl) rfl (congrArg (fun z => LV.v (.int .i64 z)) ?_) (by simp)
  exact (Int.sign_eq_one_of_pos ((ia_pos v).1 h6)).symm
 refine Ua rfl rfl <| Wn <| WC.cF1 rfl <| Rg 4 rfl <| WO.U (oFaP rfl rfl rfl rfl rfl) rfl <| WO.U (oLdP rfl rfl rfl rfl rfl) rfl <| WO.U (oLss rfl rfl) rfl <| WO.D (fun h10 => ?_) (fun h10 => ?_)
 ·refine Ua rfl rfl <| Wn <| WC.cT1 rfl <| Rg 1 rfl <| Ua rfl rfl <| Wn <| WC.ret <| after_ret <| post (n := 0) (.inr rfl) rfl (congrArg (fun z => LV.v (.int .i64 z)) ?_) (by simp)
  exact (Int.sign_eq_neg_one_of_neg ((ia_neg v).1 h10)).symm
 refine Ua rfl rfl <| Wn <| WC.cF1 rfl <| WC.skip <| after_normal <| Rg 1 rfl <| Ua rfl rfl <| Wn <| WC.ret <| post (n := 0) (.inr rfl) rfl (congrArg (fun z => LV.v (.int .i64 z)) ?_) (by simp)
 have h1 := ia_pos v
 have h2 := ia_neg v
 have : v = 0 := by omega
 subst this; rfl
theorem neg_run (v : Int) : Run Tryz.prog T E0 (.call 131 [lvI v] (lvI (-v))) := by
 have hb := ia_bd v
 refine mkcall Tryz.func131 rfl rfl (Nat.le_of_ble_eq_true rfl) <| Rg 2 rfl <| WO.S (oBx rfl rfl) rfl <| WO.S (oAl rfl) rfl <| Wn <| Rg 7 rfl <| WO.U (oFaP rfl rfl rfl rfl rfl) rfl <| WO.U (oLdP rfl rfl rfl rfl rfl) rfl <| WO.U (oNeg64 rfl om) rfl <| WO.U (oFaP rfl rfl rfl rfl rfl) rfl <| WO.U (oLdP rfl rfl rfl rfl rfl) rfl <| WO.U (oBd (cs := [_, _]) rfl rfl rfl rfl rfl) rfl <| WO.S0 (oSt (cs' := [_, _]) rfl rfl rfl rfl rfl rfl rfl rfl) <| Wn <| WC.ret <| post (n := 0) (.inr rfl) rfl ?_ (by simp)
 simp only [lvI, ia_negate, ik_negate, idg_negate]; rfl
theorem abs_run (v : Int) : Run Tryz.prog T E0 (.call 123 [lvI v] (lvI v.natAbs)) := by
 refine mkcall Tryz.func123 rfl rfl (Nat.le_of_ble_eq_true rfl) <| Rg 2 rfl <| WO.S (oBx rfl rfl) rfl <| WO.S (oAl rfl) rfl <| Wn <| WC.assoc <| Rg 3 rfl <| WO.U (oFaP rfl rfl rfl rfl rfl) rfl <| WO.U (oLdP rfl rfl rfl rfl rfl) rfl <| WO.U (oLss rfl rfl) rfl <| WO.D (fun h5 => ?_) (fun h5 => ?_)
 rotate_left
 ·refine Wn <| WC.cF rfl <| WC.skips <| Rg 2 rfl <| WO.U (oLdP (l := .agg [_, _]) rfl rfl rfl rfl rfl) rfl <| WO.S0 (oSt (cs' := [_, _]) rfl rfl rfl rfl rfl rfl rfl rfl) <| Wn <| WC.ret <| post (n := 0) (.inr rfl) rfl ?_ (by simp)
  have h1 := ia_neg v
  have : (v.natAbs : Int) = v := by omega
  rw [this]; rfl
 refine Wn <| WC.cT rfl <| WC.assoc <| Rg 3 rfl <| WO.U (oLdP (l := .agg [_, _]) rfl rfl rfl rfl rfl) rfl <| WO.U (oCall rfl (neg_run _) (by simp)) rfl <| WO.S0 (oSt (cs' := [_, _]) rfl rfl rfl rfl rfl rfl rfl rfl) <| Wn <| WC.rets <| post (n := 0) (.inr rfl) rfl ?_ (by simp)
 have h1 := (ia_neg v).1 h5
 have : (v.natAbs : Int) = -v := by omega
 rw [this]; rfl
theorem one_run  : Run Tryz.prog T E0 (.call 133 [] (lvI 1)) := by
 refine mkcall Tryz.func133 rfl rfl (Nat.le_of_ble_eq_true rfl) <| Rg 1 rfl <| WO.S (oAl rfl) rfl <| Wn <| Rg 2 rfl <| WO.U (oBd (cs := [_, _]) rfl rfl rfl rfl rfl) rfl <| WO.S0 (oSt (cs' := [_, _]) rfl rfl rfl rfl rfl rfl rfl rfl) <| Wn <| WC.ret ?_
 exact post (n := 0) (.inr rfl) rfl rfl (by simp)
theorem of_run (v : Int) (hv : -9223372036854775808 ≤ v ∧ v ≤ 9223372036854775807) : Run Tryz.prog T E0 (.call 102 [.v (.int .i64 v)] (lvI v)) := by
 refine mkcall Tryz.func102 rfl rfl (Nat.le_of_ble_eq_true rfl) <| Rg 1 rfl <| WO.S (oAl rfl) rfl <| Wn <| WC.assoc <| Rg 6 rfl <| Um rfl rfl <| WO.U (oGtr rfl rfl) rfl <| WO.D (fun h6 => ?_) (fun h6 => ?_)
 rotate_left
 ·refine Um rfl rfl <| K1 rfl rfl <| K1 rfl rfl <| WO.U (oPkF rfl rfl) rfl <| Wn <| WC.cF rfl <| WC.skips <| Rg 1 rfl <| Ua rfl rfl <| Wn <| Rg 3 rfl <| Um rfl rfl <| WO.U (cI (v % 18446744073709551616) (oCnv rfl rfl rfl) (IntKind.wrap_u64 _)) rfl <| Ua rfl rfl <| Wn <| WC.assoc <| Rg 2 rfl <| Um rfl rfl <| WO.U (oLss rfl rfl) rfl <| WO.D (fun h16 => ?_) (fun h16 => ?_)
  rotate_left
  ·refine Wn <| WC.cF rfl <| WC.skips <| Rg 9 rfl <| Um rfl rfl <| Um rfl rfl <| WO.U (cI (((v.natAbs % 4294967296 : Nat) : Int)) (oCnv rfl rfl rfl) (by rw [IntKind.wrap_u32]; omega)) rfl <| Um rfl rfl <| WO.U (cI (((v.natAbs / 4294967296 : Nat) : Int)) (oShrU (s := 32) rfl rfl om) om) rfl <| WO.U (cI (((v.natAbs / 4294967296 : Nat) : Int)) (oCnv rfl rfl rfl) (by rw [IntKind.wrap_u32]; omega)) rfl <| WO.U (oBs' (cs := [_, _]) (rows := [[_], [_]]) rfl rfl (by decide) rfl rfl rfl) rfl <| WO.U (oBd (cs := [_, _]) rfl rfl rfl rfl rfl) rfl <| WO.S0 (oSt (cs' := [_, _]) rfl rfl rfl rfl rfl rfl rfl rfl) <| Nk [2] rfl <| WC.ret ?_
   omega
  refine Wn <| WC.cT rfl <| Rg 4 rfl <| Um rfl rfl <| WO.U (cI (((v.natAbs : Nat) : Int)) (oNeg rfl) (by rw [IntKind.wrap_u64]; omega)) rfl <| Ua rfl rfl <| Ua rfl rfl <| Nk [2,3,4] rfl <| Rg 9 rfl <| Um rfl rfl <| Um rfl rfl <| WO.U (cI (((v.natAbs % 4294967296 : Nat) : Int)) (oCnv rfl rfl rfl) (by rw [IntKind.wrap_u32]; omega)) rfl <| Um rfl rfl <| WO.U (cI (((v.natAbs / 4294967296 : Nat) : Int)) (oShrU (s := 32) rfl rfl om) om) rfl <| WO.U (cI (((v.natAbs / 4294967296 : Nat) : Int)) (oCnv rfl rfl rfl) (by rw [IntKind.wrap_u32]; omega)) rfl <| WO.U (oBs' (cs := [_, _]) (rows := [[_], [_]]) rfl rfl (by decide) rfl rfl rfl) rfl <| WO.U (oBd (cs := [_, _]) rfl rfl rfl rfl rfl) rfl <| WO.S0 (oSt (cs' := [_, _]) rfl rfl rfl rfl rfl rfl rfl rfl) <| Wn <| WC.ret <| postW (n := 0) (l := .agg [_, _]) (.inr rfl) rfl ?_ (by simp)
  have hns : ¬ small v := by unfold small; omega
  rw [lvI_big hns, Int.sign_eq_neg_one_of_neg h16, ← two_big (m := v.natAbs) om om]
  exact .int _ _
 refine Um rfl rfl <| WO.Ug rfl (oMv rfl) rfl <| WO.Ug rfl (oLss rfl rfl) rfl <| WO.D (fun h9 => ?_) (fun h9 => ?_)
 ·refine WO.U (oPkT rfl rfl) rfl <| Wn <| WC.cT rfl <| WC.assoc <| Rg 3 rfl <| Um rfl rfl <| WO.U (oBd (cs := [_, _]) rfl rfl rfl rfl rfl) rfl <| WO.S0 (oSt (cs' := [_, _]) rfl rfl rfl rfl rfl rfl rfl rfl) <| Wn <| WC.rets <| post (n := 0) (.inr rfl) rfl ?_ (by simp)
  rw [lvI_small ⟨h6, h9⟩]; rfl
 refine WO.U (oPkT rfl rfl) rfl <| Wn <| WC.cF rfl <| WC.skips <| Rg 1 rfl <| Ua rfl rfl <| Wn <| Rg 3 rfl <| Um rfl rfl <| WO.U (cI (v % 18446744073709551616) (oCnv rfl rfl rfl) (IntKind.wrap_u64 _)) rfl <| Ua rfl rfl <| Wn <| WC.assoc <| Rg 2 rfl <| Um rfl rfl <| WO.U (oLss rfl rfl) rfl <| WO.D (fun h16 => ?_) (fun h16 => ?_)
 rotate_left
 ·refine Wn <| WC.cF rfl <| WC.skips <| Rg 9 rfl <| Um rfl rfl <| Um rfl rfl <| WO.U (cI (((v.natAbs % 4294967296 : Nat) : Int)) (oCnv rfl rfl rfl) (by rw [IntKind.wrap_u32]; omega)) rfl <| Um rfl rfl <| WO.U (cI (((v.natAbs / 4294967296 : Nat) : Int)) (oShrU (s := 32) rfl rfl om) om) rfl <| WO.U (cI (((v.natAbs / 4294967296 : Nat) : Int)) (oCnv rfl rfl rfl) (by rw [IntKind.wrap_u32]; omega)) rfl <| WO.U (oBs' (cs := [_, _]) (rows := [[_], [_]]) rfl rfl (by decide) rfl rfl rfl) rfl <| WO.U (oBd (cs := [_, _]) rfl rfl rfl rfl rfl) rfl <| WO.S0 (oSt (cs' := [_, _]) rfl rfl rfl rfl rfl rfl rfl rfl) <| Nk [2] rfl <| WC.ret <| postW (n := 0) (l := .agg [_, _]) (.inr rfl) rfl ?_ (by simp)
  have hns : ¬ small v := by unfold small; omega
  rw [lvI_big hns, Int.sign_eq_one_of_pos om, ← two_big (m := v.natAbs) om om]
  exact .int _ _
 refine Wn <| WC.cT rfl <| Rg 4 rfl <| Um rfl rfl <| WO.U (cI (((v.natAbs : Nat) : Int)) (oNeg rfl) (by rw [IntKind.wrap_u64]; omega)) rfl <| Ua rfl rfl <| Ua rfl rfl <| Nk [2,3,4] rfl <| Rg 9 rfl <| Um rfl rfl <| Um rfl rfl <| WO.U (cI (((v.natAbs % 4294967296 : Nat) : Int)) (oCnv rfl rfl rfl) (by rw [IntKind.wrap_u32]; omega)) rfl <| Um rfl rfl <| WO.U (cI (((v.natAbs / 4294967296 : Nat) : Int)) (oShrU (s := 32) rfl rfl om) om) rfl <| WO.U (cI (((v.natAbs / 4294967296 : Nat) : Int)) (oCnv rfl rfl rfl) (by rw [IntKind.wrap_u32]; omega)) rfl <| WO.U (oBs' (cs := [_, _]) (rows := [[_], [_]]) rfl rfl (by decide) rfl rfl rfl) rfl <| WO.U (oBd (cs := [_, _]) rfl rfl rfl rfl rfl) rfl <| WO.S0 (oSt (cs' := [_, _]) rfl rfl rfl rfl rfl rfl rfl rfl) <| Wn <| WC.ret <| postW (n := 0) (l := .agg [_, _]) (.inr rfl) rfl ?_ (by simp)
 have hns : ¬ small v := by unfold small; omega
 rw [lvI_big hns, Int.sign_eq_neg_one_of_neg h16, ← two_big (m := v.natAbs) om om]
 exact .int _ _
theorem int_run (v b : Int) (hb : 0 ≤ b ∧ b < 4611686018427387904) : Run Tryz.prog T E0 (.call 103 [lvI v, .v (.int .i64 b)] (.tup [.v (.int .i64 (if -b ≤ v ∧ v ≤ b then v else 0)), .v (.bool (decide (-b ≤ v ∧ v ≤ b)))])) := by
 refine mkcall Tryz.func103 rfl rfl (Nat.le_of_ble_eq_true rfl) <| Rg 3 rfl <| WO.S (oBx rfl rfl) rfl <| Ua rfl rfl <| Ua rfl rfl <| Wn <| WC.assoc <| Rg 16 rfl <| WO.U (oFaP rfl rfl rfl rfl rfl) rfl <| WO.U (oLdP rfl rfl rfl rfl rfl) rfl <| WO.U (oNilN rfl rfl) rfl <| WO.B (fun h8 => ?_) (fun h8 => ?_)
 ·refine Um rfl rfl <| K1 rfl rfl <| K1 rfl rfl <| K1 rfl rfl <| K1 rfl rfl <| WO.U (oPkT rfl rfl) rfl <| Um rfl rfl <| K1 rfl rfl <| K1 rfl rfl <| K1 rfl rfl <| K1 rfl rfl <| K1 rfl rfl <| WO.U (oPkT rfl rfl) rfl <| Nk [2,21] rfl <| WC.cT rfl <| WC.assoc <| Rg 2 rfl <| Ua rfl rfl <| Ua rfl rfl <| Wn <| WC.rets <| post (n := 0) (.inr rfl) rfl ?_ (by simp)
  have hs := ik_eq'.1 h8
  have hn : ¬ (-b ≤ v ∧ v ≤ b) := by unfold small at hs; omega
  rw [if_neg hn, decide_eq_false hn]; rfl
 refine Um rfl rfl <| WO.Ug rfl (oFaP rfl rfl rfl rfl rfl) rfl <| WO.Ug rfl (oLdP rfl rfl rfl rfl rfl) rfl <| WO.Ug rfl (oMv rfl) rfl <| WO.Ug rfl (oGtr rfl rfl) rfl <| WO.D (fun h13 => ?_) (fun h13 => ?_)
 ·refine WO.U (oPkF rfl rfl) rfl <| Um rfl rfl <| K1 rfl rfl <| K1 rfl rfl <| K1 rfl rfl <| K1 rfl rfl <| K1 rfl rfl <| WO.U (oPkT rfl rfl) rfl <| Nk [2,21] rfl <| WC.cT rfl <| WC.assoc <| Rg 2 rfl <| Ua rfl rfl <| Ua rfl rfl <| Wn <| WC.rets <| post (n := 0) (.inr rfl) rfl ?_ (by simp)
  have hs := ia_small (ik_ne'.1 h8)
  have hn : ¬ (-b ≤ v ∧ v ≤ b) := by omega
  rw [if_neg hn, decide_eq_false hn]; rfl
 refine WO.U (oPkF rfl rfl) rfl <| Um rfl rfl <| WO.Ug rfl (oFaP rfl rfl rfl rfl rfl) rfl <| WO.Ug rfl (oLdP rfl rfl rfl rfl rfl) rfl <| WO.Ug rfl (oMv rfl) rfl <| WO.Ug rfl (oNeg64 rfl om) rfl <| WO.Ug rfl (oLss rfl rfl) rfl <| WO.D (fun h20 => ?_) (fun h20 => ?_)
 ·refine WO.U (oPkF rfl rfl) rfl <| Nk [2,21] rfl <| WC.cT rfl <| WC.assoc <| Rg 2 rfl <| Ua rfl rfl <| Ua rfl rfl <| Wn <| WC.rets <| post (n := 0) (.inr rfl) rfl ?_ (by simp)
  have hs := ia_small (ik_ne'.1 h8)
  have hn : ¬ (-b ≤ v ∧ v ≤ b) := by omega
  rw [if_neg hn, decide_eq_false hn]; rfl
 refine WO.U (oPkF rfl rfl) rfl <| Nk [2,21] rfl <| WC.cF rfl <| WC.skips <| Rg 4 rfl <| WO.U (oFaP rfl rfl rfl rfl rfl) rfl <| WO.U (oLdP rfl rfl rfl rfl rfl) rfl <| Ua rfl rfl <| Ua rfl rfl <| Wn <| WC.ret <| post (n := 0) (.inr rfl) rfl ?_ (by simp)
 have hs := ia_small (ik_ne'.1 h8)
 have hn : -b ≤ v ∧ v ≤ b := by omega
 rw [if_pos hn, decide_eq_true hn]
 exact congrArg (fun z => LV.tup [.v (.int .i64 z), .v (.bool true)]) hs
theorem digits_run (v : Int) : Run Tryz.prog T E0 (.call 126 [lvI v] (.tup [.v (.int .i64 v.sign), .sl 1 ((dgs B32 v.natAbs).map d32)])) := by
 have hb := ia_bd v
 refine mkcall Tryz.func126 rfl rfl (Nat.le_of_ble_eq_true rfl) <| Rg 3 rfl <| WO.S (oBx rfl rfl) rfl <| Ua rfl rfl <| Ua rfl rfl <| Wn <| WC.assoc <| Rg 3 rfl <| WO.U (oFaP rfl rfl rfl rfl rfl) rfl <| WO.U (oLdP rfl rfl rfl rfl rfl) rfl <| WO.U (oNilN rfl rfl) rfl <| WO.B (fun h8 => ?_) (fun h8 => ?_)
 ·refine Wn <| WC.cT rfl <| WC.assoc <| WC.draw (z := 6) rfl (by kernel_rfl) <| WD.U (oFaP rfl rfl rfl rfl rfl) rfl <| WD.U (oLdP rfl rfl rfl rfl rfl) rfl <| WD.U (oFaP rfl rfl rfl rfl rfl) rfl <| WD.U (oLdP rfl rfl rfl rfl rfl) rfl <| WD.U (oAs rfl) rfl <| WD.U (oAs rfl) rfl <| WD.nil (drawOk_of (by kernel_rfl)) rfl <| WC.rets <| post (n := 0) (.inr rfl) rfl ?_ (by simp)
  have hs := ik_eq'.1 h8
  rw [ia_big hs, ik_big hs, idg_big hs]; rfl
 have hs := ik_ne'.1 h8
 have hia := ia_small hs
 refine Wn <| WC.cF rfl <| WC.skips <| Rg 2 rfl <| Ua rfl rfl <| Ua rfl rfl <| Wn <| WC.block <| Rg 4 rfl <| WO.U (oFaP rfl rfl rfl rfl rfl) rfl <| WO.U (oLdP rfl rfl rfl rfl rfl) rfl <| WO.U (oGtr rfl rfl) rfl <| WO.D (fun h16 => ?_) (fun h16 => ?_)
 ·refine Ua rfl rfl <| Wn <| WC.cT1 rfl <| WC.draw1z (z := 5) rfl (by kernel_rfl) <| WD.U (oFaP rfl rfl rfl rfl rfl) rfl <| WD.U (oLdP rfl rfl rfl rfl rfl) rfl <| WD.U (cI (((v.natAbs : Nat) : Int)) (oCnv rfl rfl rfl) (by rw [IntKind.wrap_u64]; omega)) rfl <| WD.U (oAs rfl) rfl <| WD.U (oAs rfl) rfl <| WD.nil (drawOk_of (by kernel_rfl)) rfl <| after_normal <| Ck [4,5] rfl <| Rg 10 rfl <| Um rfl rfl <| Um rfl rfl <| WO.U (cI (((v.natAbs % 4294967296 : Nat) : Int)) (oCnv rfl rfl rfl) (by rw [IntKind.wrap_u32]; omega)) rfl <| Um rfl rfl <| WO.U (cI (((v.natAbs / 4294967296 : Nat) : Int)) (oShrU (s := 32) rfl rfl om) om) rfl <| WO.U (cI (((v.natAbs / 4294967296 : Nat) : Int)) (oCnv rfl rfl rfl) (by rw [IntKind.wrap_u32]; omega)) rfl <| WO.U (oBs' (cs := [_, _]) (rows := [[_], [_]]) rfl rfl (by decide) rfl rfl rfl) rfl <| WO.U (oCall rfl (trim_run 2 [v.natAbs % 4294967296, v.natAbs / 4294967296] om (by simp)) (by simp)) rfl <| Ua rfl rfl <| Ua rfl rfl <| WO.nil ?_
  refine WC.ret <| post (n := 0) (.inr rfl) rfl ?_ (by simp)
  rw [← two_dg (m := v.natAbs) om, Int.sign_eq_one_of_pos om]; rfl
 refine Ua rfl rfl <| Wn <| WC.cF1 rfl <| Rg 4 rfl <| WO.U (oFaP rfl rfl rfl rfl rfl) rfl <| WO.U (oLdP rfl rfl rfl rfl rfl) rfl <| WO.U (oLss rfl rfl) rfl <| WO.D (fun h23 => ?_) (fun h23 => ?_)
 rotate_left
 ·refine Ua rfl rfl <| Nk [1,4,5,20] rfl <| WC.cF1 rfl <| WC.skip <| after_normal <| Rg 10 rfl <| Um rfl rfl <| Um rfl rfl <| WO.U (cI (((v.natAbs % 4294967296 : Nat) : Int)) (oCnv rfl rfl rfl) (by rw [IntKind.wrap_u32]; omega)) rfl <| Um rfl rfl <| WO.U (cI (((v.natAbs / 4294967296 : Nat) : Int)) (oShrU (s := 32) rfl rfl om) om) rfl <| WO.U (cI (((v.natAbs / 4294967296 : Nat) : Int)) (oCnv rfl rfl rfl) (by rw [IntKind.wrap_u32]; omega)) rfl <| WO.U (oBs' (cs := [_, _]) (rows := [[_], [_]]) rfl rfl (by decide) rfl rfl rfl) rfl <| WO.U (oCall rfl (trim_run 2 [v.natAbs % 4294967296, v.natAbs / 4294967296] om (by simp)) (by simp)) rfl <| Ua rfl rfl <| Ua rfl rfl <| Wn <| WC.ret <| post (n := 0) (.inr rfl) rfl ?_ (by simp)
  have h0 : v = 0 := by omega
  rw [← two_dg (m := v.natAbs) om]
  subst h0; rfl
 refine Ua rfl rfl <| Nk [1,4,5,20] rfl <| WC.cT1 rfl <| WC.draw1z (z := 6) rfl (by kernel_rfl) <| WD.U (oFaP rfl rfl rfl rfl rfl) rfl <| WD.U (oLdP rfl rfl rfl rfl rfl) rfl <| WD.U (oNeg64 rfl om) rfl <| WD.U (cI (((v.natAbs : Nat) : Int)) (oCnv rfl rfl rfl) (by rw [IntKind.wrap_u64]; omega)) rfl <| WD.U (oAs rfl) rfl <| WD.U (oAs rfl) rfl <| WD.nil (drawOk_of (by kernel_rfl)) rfl <| after_normal <| Rg 10 rfl <| Um rfl rfl <| Um rfl rfl <| WO.U (cI (((v.natAbs % 4294967296 : Nat) : Int)) (oCnv rfl rfl rfl) (by rw [IntKind.wrap_u32]; omega)) rfl <| Um rfl rfl <| WO.U (cI (((v.natAbs / 4294967296 : Nat) : Int)) (oShrU (s := 32) rfl rfl om) om) rfl <| WO.U (cI (((v.natAbs / 4294967296 : Nat) : Int)) (oCnv rfl rfl rfl) (by rw [IntKind.wrap_u32]; omega)) rfl <| WO.U (oBs' (cs := [_, _]) (rows := [[_], [_]]) rfl rfl (by decide) rfl rfl rfl) rfl <| WO.U (oCall rfl (trim_run 2 [v.natAbs % 4294967296, v.natAbs / 4294967296] om (by simp)) (by simp)) rfl <| Ua rfl rfl <| Ua rfl rfl ?_
 refine Nk [2,3] rfl <| WC.ret <| post (n := 0) (.inr rfl) rfl ?_ (by simp)
 rw [← two_dg (m := v.natAbs) om, Int.sign_eq_neg_one_of_neg om]; rfl
theorem add32_run (x y c : Nat) (hx : x < 4294967296) (hy : y < 4294967296) (hc : c ≤ 1) : Run Tryz.prog T E0 (.call 139 [.v (.int .u32 (x : Int)), .v (.int .u32 (y : Int)), .v (.int .u32 (c : Int))] (.tup [.v (.int .u32 (((x + y + c) % 4294967296 : Nat) : Int)), .v (.int .u32 (((x + y + c) / 4294967296 : Nat) : Int))])) := by
 refine mkcall Tryz.func139 rfl rfl (Nat.le_of_ble_eq_true rfl) <| Rg 2 rfl <| Ua rfl rfl <| Ua rfl rfl <| Wn <| Rg 9 rfl <| Um rfl rfl <| WO.U (cI ((x : Int)) (oCnv rfl rfl rfl) (by rw [IntKind.wrap_u64]; omega)) rfl <| Um rfl rfl <| WO.U (cI ((y : Int)) (oCnv rfl rfl rfl) (by rw [IntKind.wrap_u64]; omega)) rfl <| WO.U (cI (((x + y : Nat) : Int)) (oAddU rfl rfl) om) rfl <| Um rfl rfl <| WO.U (cI ((c : Int)) (oCnv rfl rfl rfl) (by rw [IntKind.wrap_u64]; omega)) rfl <| WO.U (cI (((x + y + c : Nat) : Int)) (oAddU rfl rfl) om) rfl <| Ua rfl rfl <| Wn <| Rg 3 rfl <| Um rfl rfl <| WO.U (cI ((((x + y + c) % 4294967296 : Nat) : Int)) (oCnv rfl rfl rfl) (by rw [IntKind.wrap_u32]; omega)) rfl <| Ua rfl rfl <| Nk [6,8] rfl <| Rg 4 rfl <| Um rfl rfl ?_
 refine WO.U (cI ((((x + y + c) / 4294967296 : Nat) : Int)) (oShrU (s := 32) rfl rfl om) om) rfl <| WO.U (cI ((((x + y + c) / 4294967296 : Nat) : Int)) (oCnv rfl rfl rfl) (by rw [IntKind.wrap_u32]; omega)) rfl <| Ua rfl rfl <| Wn <| WC.ret ?_
 exact post (n := 0) (.inr rfl) rfl rfl (by simp)
theorem compare_run (k1 k2 : Nat) (xs ys : List Nat) (hx : Dg B32 xs) (hy : Dg B32 ys) (tx : Trm xs) (ty : Trm ys) (lx : xs.length < 4611686018427387904) (ly : ys.length < 4611686018427387904) : Run Tryz.prog T E0 (.call 129 [.sl k1 (xs.map d32), .sl k2 (ys.map d32)] (.v (.int .i64 ((val B32 xs : Int) - val B32 ys).sign))) := by
 refine mkcall Tryz.func129 rfl rfl (Nat.le_of_ble_eq_true rfl) <| Rg 1 rfl <| Ua rfl rfl <| Wn <| WC.assoc <| Rg 5 rfl <| Um rfl rfl <| WO.U (oLenM rfl rfl) rfl <| Um rfl rfl <| WO.U (oLenM rfl rfl) rfl <| WO.U (oNeq rfl rfl) rfl <| WO.D (fun h10 => ?_) (fun h10 => ?_)
 ·refine Wn <| WC.cT rfl <| WC.assoc <| WC.assoc <| Rg 5 rfl <| Um rfl rfl <| WO.U (oLenM rfl rfl) rfl <| Um rfl rfl <| WO.U (oLenM rfl rfl) rfl <| WO.U (oLss rfl rfl) rfl <| WO.D (fun h15 => ?_) (fun h15 => ?_)
  ·refine Wn <| WC.cT rfl <| WC.assoc <| Rg 1 rfl <| Ua rfl rfl <| Wn <| WC.rets <| post (n := 0) (.inr rfl) rfl (congrArg (fun z => LV.v (.int .i64 z)) ?_) (by simp)
   have := val_lt_len (B := B32) (by decide) hx ty om
   exact (Int.sign_eq_neg_one_of_neg om).symm
  refine Wn <| WC.cF rfl <| WC.skips <| WC.assoc <| Rg 1 rfl <| Ua rfl rfl <| Wn <| WC.rets <| post (n := 0) (.inr rfl) rfl (congrArg (fun z => LV.v (.int .i64 z)) ?_) (by simp)
  have := val_lt_len (B := B32) (by decide) hy tx om
  exact (Int.sign_eq_one_of_pos om).symm
 have hlen : xs.length = ys.length := by omega
 refine Wn <| WC.cF rfl <| WC.skips <| WC.assoc <| Rg 4 rfl <| Um rfl rfl <| WO.U (oLenM rfl rfl) rfl <| WO.U (oSub64 rfl rfl om) rfl <| Ua rfl rfl <| Wn <| WC.block <| WC.loopV (α := Nat) (fun k => [(0, .sl k1 (xs.map d32)), (1, .sl k2 (ys.map d32)), (5, .v (.int .i64 ((k : Int) - 1)))]) (fun k => []) (fun k n => k ≤ xs.length ∧ xs.drop k = ys.drop k) (fun k => k) (xs.length) ⟨rfl, rfl, rfl, trivial⟩ trivial ⟨Nat.le_refl _, by rw [List.drop_length, hlen, List.drop_length]⟩ ?_
 rintro k n hF
 change WC _ _ _ _ _ (_ :: _) ([]) n _
 obtain ⟨hk, hd⟩ := hF
 refine WC.assoc <| Rg 2 rfl <| Um rfl rfl <| WO.U (oGeq rfl rfl) rfl <| WO.D (fun h20 => ?_) (fun h20 => ?_)
 rotate_left
 ·refine Wn <| WC.cF rfl <| WC.exits <| loopR_exit <| after_exit rfl <| Rg 1 rfl <| Ua rfl rfl <| Wn <| WC.ret <| post (n := 0) (.inr rfl) rfl (congrArg (fun z => LV.v (.int .i64 z)) ?_) (by simp)
  have h0 : k = 0 := by omega
  subst h0
  simp only [List.drop_zero] at hd
  subst hd
  simp
 refine Wn <| WC.cT rfl <| WC.skips <| WC.block <| WC.draw (z := 9) rfl (by kernel_rfl) <| Dm rfl rfl <| Dm rfl rfl <| WD.U (oIxM (j := k - 1) rfl rfl rfl rfl om om rfl) rfl <| WD.U (oLd rfl rfl rfl) rfl <| Dm rfl rfl <| Dm rfl rfl <| WD.U (oIxM (j := k - 1) rfl rfl rfl rfl om om rfl) rfl <| WD.U (oLd rfl rfl rfl) rfl <| WD.U (oNeq rfl rfl) rfl <| WD.D (fun h31 => ?_) (fun h31 => ?_)
 rotate_left
 ·refine WD.nil (drawOk_of (by kernel_rfl)) rfl <| WC.cF1 rfl <| WC.skip <| after_normal <| WC.reg1z (z := 3) rfl <| Um rfl rfl <| WO.U (cI (((k - 1 : Nat) : Int) - 1) (oSub64 rfl rfl om) om) rfl <| Ua rfl rfl <| Wn <| loopR_normal ?_
  have hj : k - 1 + 1 = k := by omega
  refine ⟨k - 1, ⟨rfl, rfl, rfl, trivial⟩, trivial, ⟨om, ?_⟩, by show k - 1 < k; omega⟩
  rw [drop_cons_getD (by omega : k - 1 < xs.length), drop_cons_getD (by omega : k - 1 < ys.length), hj, hd]
  congr 1; omega
 refine WD.nil (drawOk_of (by kernel_rfl)) rfl <| WC.cT1 rfl <| WC.assoc <| WC.draw (z := 9) rfl (by kernel_rfl) <| Dm rfl rfl <| Dm rfl rfl <| WD.U (oIxM (j := k - 1) rfl rfl rfl rfl om om rfl) rfl <| WD.U (oLd rfl rfl rfl) rfl <| Dm rfl rfl <| Dm rfl rfl <| WD.U (oIxM (j := k - 1) rfl rfl rfl rfl om om rfl) rfl <| WD.U (oLd rfl rfl rfl) rfl <| WD.U (oLss rfl rfl) rfl <| WD.D (fun h40 => ?_) (fun h40 => ?_)
 ·refine WD.nil (drawOk_of (by kernel_rfl)) rfl <| Ck [40] rfl <| WC.cT rfl <| WC.assoc <| Rg 1 rfl <| Ua rfl rfl <| Wn <| WC.rets <| after_ret <| loopR_ret <| after_ret <| post (n := 0) (.inr rfl) rfl (congrArg (fun z => LV.v (.int .i64 z)) ?_) (by simp)
  have hj : k - 1 + 1 = k := by omega
  have := val_lt_at (B := B32) (ys := ys) (by decide) hx (k := k - 1) om om (by rw [hj]; exact hd) om
  exact (Int.sign_eq_neg_one_of_neg om).symm
 refine WD.nil (drawOk_of (by kernel_rfl)) rfl <| Ck [40] rfl <| WC.cF rfl <| WC.skips <| Rg 1 rfl <| Ua rfl rfl <| Wn <| WC.ret <| after_ret <| loopR_ret <| after_ret <| post (n := 0) (.inr rfl) rfl (congrArg (fun z => LV.v (.int .i64 z)) ?_) (by simp)
 have hj : k - 1 + 1 = k := by omega
 have := val_lt_at (B := B32) (ys := xs) (by decide) hy (k := k - 1) om om (by rw [hj]; exact hd.symm) om
 exact (Int.sign_eq_one_of_pos om).symm
end Go.Proofs.YthpnlndhebcngaaGreat
set_option linter.unusedVariables false
set_option linter.unusedSimpArgs false
set_option maxRecDepth 100000
namespace Go.Proofs.YthpnlndhebcngaaGreat
open Go.Ab Go.RowKit
theorem sub32_run (x y c : Nat) (hx : x < 4294967296) (hy : y < 4294967296) (hc : c ≤ 1) : Run Tryz.prog T E0 (.call 140 [.v (.int .u32 (x : Int)), .v (.int .u32 (y : Int)), .v (.int .u32 (c : Int))] (.tup [.v (.int .u32 ((((x + 8589934592 - y - c) % 4294967296) : Nat) : Int)), .v (.int .u32 ((if x < y + c then 1 else 0 : Nat) : Int))])) := by
 have hxy : x ^^^ y < 4294967296 := Nat.xor_lt_two_pow (n := 32) hx hy
 refine mkcall Tryz.func140 rfl rfl (Nat.le_of_ble_eq_true rfl) <| Rg 2 rfl <| Ua rfl rfl <| Ua rfl rfl <| Wn <| Rg 6 rfl <| Um rfl rfl <| Um rfl rfl <| WO.U (oSub32 rfl rfl) rfl <| Um rfl rfl <| WO.U (cI (((((x + 8589934592 - y - c) % 4294967296) : Nat) : Int)) (oSub32 rfl rfl) om) rfl <| Ua rfl rfl <| Wn <| Rg 13 rfl <| Um rfl rfl <| WO.U (oCom32 (a := x) rfl hx) rfl <| Um rfl rfl <| WO.U (oBin (v := .int .u32 (((4294967295 - x) &&& y : Nat) : Int)) rfl rfl (and32 om hy)) rfl <| Um rfl rfl <| Um rfl rfl <| WO.U (oBin (v := .int .u32 ((x ^^^ y : Nat) : Int)) rfl rfl (xor32 hx hy)) rfl <| WO.U (oCom32 (a := x ^^^ y) rfl hxy) rfl <| Um rfl rfl <| WO.U (oBin (v := .int .u32 (((4294967295 - (x ^^^ y)) &&& ((x + 8589934592 - y - c) % 4294967296) : Nat) : Int)) rfl rfl (and32 om om)) rfl ?_
 refine WO.U (oBin (v := .int .u32 ((((4294967295 - x) &&& y) ||| ((4294967295 - (x ^^^ y)) &&& ((x + 8589934592 - y - c) % 4294967296)) : Nat) : Int)) rfl rfl (or32 (Nat.lt_of_le_of_lt Nat.and_le_right hy) (Nat.lt_of_le_of_lt Nat.and_le_left om))) rfl <| WO.U (cI (((if x < y + c then 1 else 0 : Nat) : Int)) (oShr32 (s := 31) rfl rfl om) (by rw [← borrow hx hy hc (d := ((x + 8589934592 - y - c) % 4294967296)) om]; rfl)) rfl <| Ua rfl rfl <| Nk [6,7] rfl <| WC.ret ?_
 exact post (n := 0) (.inr rfl) rfl rfl (by simp)
theorem plus_run (k1 k2 : Nat) (xs ys : List Nat) (hx : Dg B32 xs) (hy : Dg B32 ys) (lx : xs.length < 1099511627776) (ly : ys.length < 1099511627776) : ∃ r, Run Tryz.prog T E0 (.call 128 [.sl k1 (xs.map d32), .sl k2 (ys.map d32)] r) ∧ ∃ ds, r = .sl 1 (ds.map d32) ∧ Dg B32 ds ∧ val B32 ds = val B32 xs + val B32 ys ∧ ds.length ≤ max xs.length ys.length + 1 := by
 refine mkcallE Tryz.func128 rfl rfl (Nat.le_of_ble_eq_true rfl) ?_
 have J3 : ∀ (k1 k2 : Nat) (us ws : List Nat) (hu : Dg B32 us) (hw : Dg B32 ws) (hle : ws.length ≤ us.length) (hm : us.length ≤ max xs.length ys.length) (hs : val B32 us + val B32 ws = val B32 xs + val B32 ys) (n : Nat) , WC Tryz.prog T E0 Tryz.f128.ntmps (codeR (codeR (codeOf Tryz.f128))) [(0, .sl k1 (us.map d32)), (1, .sl k2 (ws.map d32))] [] n (fun x e h n => ∃ r, (∃ ds, r = .sl 1 (ds.map d32) ∧ Dg B32 ds ∧ val B32 ds = val B32 xs + val B32 ys ∧ ds.length ≤ max xs.length ys.length + 1) ∧ Post T Tryz.f128.results.toList r x e h n) := by
  intro k1 k2 us ws hu hw hle hm hs n
  refine Rg 5 rfl <| Um rfl rfl <| WO.U (oLenM rfl rfl) rfl <| WO.U (oAdd64 rfl rfl om) rfl <| WO.S (oMk (a := 0) (b := us.length + 1) rfl rfl rfl rfl rfl rfl (by decide) om (by show 4 * (us.length + 1) ≤ _; omega) om) rfl <| Ua rfl rfl <| Wn <| Rg 1 rfl <| Ua rfl rfl <| Wn <| WC.assoc <| Rg 3 rfl <| Um rfl rfl <| WO.U (oLenM rfl rfl) rfl <| Um rfl rfl <| Wn <| WC.block <| WC.loopV (α := Nat × Nat × (List Nat)) (fun ⟨c, q, ds⟩ => [(0, .sl k1 (us.map d32)), (1, .sl k2 (ws.map d32)), (5, .ref q 1 0 ds.length), (6, .v (.int .u32 (c : Int))), (22, .v (.int .i64 (us.length : Int))), (23, .v (.int .i64 (ds.length : Int)))]) (fun ⟨c, q, ds⟩ => [(q, { cells := (ds.map d32).flatten, sz := 1, elem := 145, st := 0 })]) (fun ⟨c, q, ds⟩ n => ds.length ≤ us.length ∧ Dg B32 ds ∧ c ≤ 1 ∧ val B32 ds + B32 ^ ds.length * c = val B32 (us.take ds.length) + val B32 (ws.take ds.length)) (fun ⟨c, q, ds⟩ => us.length - ds.length) (0, n + 3, []) ⟨rfl, rfl, rfl, rfl, rfl, rfl, trivial⟩ ⟨g0, trivial⟩ ⟨Nat.zero_le _, by intro d hd; simp at hd, om, by simp [val]⟩ ?_
  rintro ⟨c, q, ds⟩ n hF
  change WC _ _ _ _ _ (_ :: _) (_ :: _) n _
  obtain ⟨hdl, hdd, hc, hi⟩ := hF
  refine Rg 1 rfl <| WO.U (oLss rfl rfl) rfl <| WO.D (fun h24 => ?_) (fun h24 => ?_)
  rotate_left
  ·refine Wn <| WC.cF rfl <| WC.exits <| loopR_exit <| after_exit rfl <| Rg 5 rfl <| Um rfl rfl <| Um rfl rfl <| WO.U (oBs' (cs := [_]) (rows := [[_]]) rfl rfl (by decide) rfl rfl rfl) rfl <| WO.S (oApM (f := d32) rfl rfl rfl rfl rfl (fun _ => rfl) (by decide) g0 (by show (2 * (ds.length + 1) + 256) * 4 ≤ _; omega) om) rfl <| Ua rfl rfl <| Wn <| WC.ret <| ⟨.sl 1 ((ds ++ [c]).map d32), ⟨_, rfl, hdd.snoc (by show c < 4294967296; omega), ?_, by simp; omega⟩, postRef (n := 0) _ (.inr rfl) rfl (by simp) g0 (by show (0 : Nat) ≠ 2; decide) rfl (by decide) rfl rows_d32 data_rows_d32⟩
   have hl : ds.length = us.length := by omega
   rw [val_snoc, hi, List.take_of_length_le om, List.take_of_length_le om, hs]
  refine Wn <| WC.cT rfl <| WC.skips <| WC.block <| Rg 2 rfl <| Um rfl rfl <| Ua rfl rfl <| Wn <| Rg 1 rfl <| Ua rfl rfl <| Wn <| WC.assoc <| Rg 4 rfl <| Um rfl rfl <| Um rfl rfl <| WO.U (oLenM rfl rfl) rfl <| WO.U (oLss rfl rfl) rfl <| WO.D (fun h29 => ?_) (fun h29 => ?_)
  rotate_left
  ·refine Wn <| WC.cF rfl <| WC.skips <| Rg 1 rfl <| Ua rfl rfl <| Nk [0,1,5,6,7,8,22,23] rfl ?_
   have hxl : us.getD ds.length default < 4294967296 := getD_lt hu om
   refine Rg 12 rfl <| Um rfl rfl <| Um rfl rfl <| WO.U (oIxM rfl rfl rfl rfl rfl om rfl) rfl <| WO.U (oLd rfl rfl rfl) rfl <| Um rfl rfl <| Um rfl rfl <| WO.U (oCall rfl (add32_run (us.getD ds.length default) 0 c hxl (by decide) hc) (by simp)) rfl <| Um rfl rfl <| WO.U (oEx rfl rfl) rfl <| WO.U (oEx rfl rfl) rfl <| Ua rfl rfl <| Ua rfl rfl <| Nk [0,1,5,6,9,22,23] rfl <| WC.reg1z (z := 5) rfl <| Um rfl rfl <| Um rfl rfl <| WO.U (oBs' (cs := [_]) (rows := [[_]]) rfl rfl (by decide) rfl rfl rfl) rfl <| WO.S (oApM (f := d32) rfl rfl rfl rfl rfl (fun _ => rfl) (by decide) g0 (by show (2 * (ds.length + 1) + 256) * 4 ≤ _; omega) om) rfl <| Ua rfl rfl <| Wn <| after_normal <| WC.reg1z (z := 2) rfl ?_
   refine WO.U (cI (((ds.length + 1 : Nat) : Int)) (oAdd64 rfl rfl om) om) rfl <| Um rfl rfl <| Wn <| loopR_normal <| ⟨⟨_, _, ds ++ [_]⟩, ⟨rfl, rfl, rfl, rfl, rfl, congrArg some (by simp), trivial⟩, ⟨g0, trivial⟩, ⟨by simp; omega, hdd.snoc (Nat.mod_lt _ (by decide)), om, plus_step hi rfl (getD_out om).symm⟩, by simp; omega⟩
  refine Wn <| WC.cT rfl <| Rg 5 rfl <| Um rfl rfl <| Um rfl rfl <| WO.U (oIxM rfl rfl rfl rfl rfl om rfl) rfl <| WO.U (oLd rfl rfl rfl) rfl <| Ua rfl rfl <| Nk [0,1,5,6,7,8,22,23] rfl <| Rg 1 rfl <| Ua rfl rfl <| WO.nil ?_
  have hxl : us.getD ds.length default < 4294967296 := getD_lt hu om
  have hyl : ws.getD ds.length default < 4294967296 := getD_lt hw om
  refine Rg 12 rfl <| Um rfl rfl <| Um rfl rfl <| WO.U (oIxM rfl rfl rfl rfl rfl om rfl) rfl <| WO.U (oLd rfl rfl rfl) rfl <| Um rfl rfl <| Um rfl rfl <| WO.U (oCall rfl (add32_run (us.getD ds.length default) (ws.getD ds.length default) c hxl hyl hc) (by simp)) rfl <| Um rfl rfl <| WO.U (oEx rfl rfl) rfl <| WO.U (oEx rfl rfl) rfl <| Ua rfl rfl <| Ua rfl rfl <| Nk [0,1,5,6,9,22,23] rfl <| WC.reg1z (z := 5) rfl <| Um rfl rfl <| Um rfl rfl <| WO.U (oBs' (cs := [_]) (rows := [[_]]) rfl rfl (by decide) rfl rfl rfl) rfl <| WO.S (oApM (f := d32) rfl rfl rfl rfl rfl (fun _ => rfl) (by decide) g0 (by show (2 * (ds.length + 1) + 256) * 4 ≤ _; omega) om) rfl <| Ua rfl rfl <| Wn <| after_normal <| WC.reg1z (z := 2) rfl ?_
  refine WO.U (cI (((ds.length + 1 : Nat) : Int)) (oAdd64 rfl rfl om) om) rfl <| Um rfl rfl <| Wn <| loopR_normal <| ⟨⟨_, _, ds ++ [_]⟩, ⟨rfl, rfl, rfl, rfl, rfl, congrArg some (by simp), trivial⟩, ⟨g0, trivial⟩, ⟨by simp; omega, hdd.snoc (Nat.mod_lt _ (by decide)), om, plus_step hi rfl rfl⟩, by simp; omega⟩
 refine Rg 1 rfl <| Ua rfl rfl <| Wn <| WC.assoc <| Rg 5 rfl <| Um rfl rfl <| WO.U (oLenM rfl rfl) rfl <| Um rfl rfl <| WO.U (oLenM rfl rfl) rfl <| WO.U (oLss rfl rfl) rfl <| WO.D (fun h14 => ?_) (fun h14 => ?_)
 rotate_left
 ·refine Wn <| WC.cF rfl <| WC.skips <| Ck [0,1] rfl ?_
  exact J3 _ _ xs ys hx hy om om rfl _
 refine Wn <| WC.cT rfl <| Rg 4 rfl <| Um rfl rfl <| Um rfl rfl <| Ua rfl rfl <| Ua rfl rfl <| Nk [0,1] rfl ?_
 exact J3 _ _ ys xs hy hx om om om _
theorem minus_run (k1 k2 : Nat) (xs ys : List Nat) (hx : Dg B32 xs) (hy : Dg B32 ys) (lx : xs.length < 1099511627776) (hle : ys.length ≤ xs.length) (hv : val B32 ys ≤ val B32 xs) : ∃ r, Run Tryz.prog T E0 (.call 130 [.sl k1 (xs.map d32), .sl k2 (ys.map d32)] r) ∧ ∃ ds, r = .sl 1 (ds.map d32) ∧ Dg B32 ds ∧ val B32 ds = val B32 xs - val B32 ys ∧ ds.length = xs.length := by
 refine mkcallE Tryz.func130 rfl rfl (Nat.le_of_ble_eq_true rfl) <| Rg 1 rfl <| Ua rfl rfl <| Wn <| Rg 4 rfl <| Um rfl rfl <| WO.U (oLenM rfl rfl) rfl <| WO.S (oMk (a := 0) (b := xs.length) rfl rfl rfl rfl rfl rfl (by decide) om (by show 4 * xs.length ≤ _; omega) om) rfl <| Ua rfl rfl <| Wn <| Rg 1 rfl <| Ua rfl rfl <| Wn <| WC.assoc <| Rg 3 rfl <| Um rfl rfl <| WO.U (oLenM rfl rfl) rfl <| Um rfl rfl <| Wn <| WC.block <| WC.loopV (α := Nat × Nat × (List Nat)) (fun ⟨c, q, ds⟩ => [(0, .sl k1 (xs.map d32)), (1, .sl k2 (ys.map d32)), (5, .ref q 1 0 ds.length), (6, .v (.int .u32 (c : Int))), (14, .v (.int .i64 (xs.length : Int))), (15, .v (.int .i64 (ds.length : Int)))]) (fun ⟨c, q, ds⟩ => [(q, { cells := (ds.map d32).flatten, sz := 1, elem := 145, st := 0 })]) (fun ⟨c, q, ds⟩ n => ds.length ≤ xs.length ∧ Dg B32 ds ∧ c ≤ 1 ∧ val B32 (xs.take ds.length) + B32 ^ ds.length * c = val B32 ds + val B32 (ys.take ds.length)) (fun ⟨c, q, ds⟩ => xs.length - ds.length) (0, 0 + 1 + 2, []) ⟨rfl, rfl, rfl, rfl, rfl, rfl, trivial⟩ ⟨g0, trivial⟩ ⟨Nat.zero_le _, by intro d hd; simp at hd, om, by simp [val]⟩ ?_
 rintro ⟨c, q, ds⟩ n hF
 change WC _ _ _ _ _ (_ :: _) (_ :: _) n _
 obtain ⟨hdl, hdd, hc, hi⟩ := hF
 refine Rg 1 rfl <| WO.U (oLss rfl rfl) rfl <| WO.D (fun h16 => ?_) (fun h16 => ?_)
 rotate_left
 ·refine Wn <| WC.cF rfl <| WC.exits <| loopR_exit <| after_exit rfl <| Rg 2 rfl <| Um rfl rfl <| Ua rfl rfl <| Wn <| WC.ret <| ⟨.sl 1 (ds.map d32), ⟨_, rfl, hdd, ?_, om⟩, postRef (n := 0) _ (.inr rfl) rfl (by simp) g0 (by show (0 : Nat) ≠ 2; decide) rfl (by decide) rfl rows_d32 data_rows_d32⟩
  have hl : ds.length = xs.length := by omega
  rw [List.take_of_length_le om, List.take_of_length_le om] at hi
  have hlt := val_lt (B := B32) (by decide) hdd
  rcases (show c = 0 ∨ c = 1 by omega) with rfl | rfl
  ·omega
  ·omega
 refine Wn <| WC.cT rfl <| WC.skips <| WC.block <| Rg 2 rfl <| Um rfl rfl <| Ua rfl rfl <| Wn <| Rg 1 rfl <| Ua rfl rfl <| Wn <| WC.assoc <| Rg 4 rfl <| Um rfl rfl <| Um rfl rfl <| WO.U (oLenM rfl rfl) rfl <| WO.U (oLss rfl rfl) rfl <| WO.D (fun h21 => ?_) (fun h21 => ?_)
 rotate_left
 ·refine Wn <| WC.cF rfl <| WC.skips <| Rg 1 rfl <| Ua rfl rfl <| Nk [0,1,5,6,7,8,14,15] rfl ?_
  have hxl : xs.getD ds.length default < 4294967296 := getD_lt hx om
  refine Rg 12 rfl <| Um rfl rfl <| Um rfl rfl <| WO.U (oIxM rfl rfl rfl rfl rfl om rfl) rfl <| WO.U (oLd rfl rfl rfl) rfl <| Um rfl rfl <| Um rfl rfl <| WO.U (oCall rfl (sub32_run (xs.getD ds.length default) 0 c hxl (by decide) hc) (by simp)) rfl <| Um rfl rfl <| WO.U (oEx rfl rfl) rfl <| WO.U (oEx rfl rfl) rfl <| Ua rfl rfl <| Ua rfl rfl <| Nk [0,1,5,6,9,14,15] rfl <| WC.reg1z (z := 5) rfl <| Um rfl rfl <| Um rfl rfl <| WO.U (oBs' (cs := [_]) (rows := [[_]]) rfl rfl (by decide) rfl rfl rfl) rfl <| WO.S (oApM (f := d32) rfl rfl rfl rfl rfl (fun _ => rfl) (by decide) g0 (by show (2 * (ds.length + 1) + 256) * 4 ≤ _; omega) om) rfl <| Ua rfl rfl <| Wn <| after_normal <| WC.reg1z (z := 2) rfl ?_
  refine WO.U (cI (((ds.length + 1 : Nat) : Int)) (oAdd64 rfl rfl om) om) rfl <| Um rfl rfl <| Wn <| loopR_normal <| ⟨⟨_, _, ds ++ [_]⟩, ⟨rfl, rfl, rfl, rfl, rfl, congrArg some (by simp), trivial⟩, ⟨g0, trivial⟩, ⟨by simp; omega, hdd.snoc (Nat.mod_lt _ (by decide)), by split <;> omega, minus_step hi rfl (getD_out om).symm (by show _ = _ + 4294967296 * _; split <;> omega)⟩, by simp; omega⟩
 refine Wn <| WC.cT rfl <| Rg 5 rfl <| Um rfl rfl <| Um rfl rfl <| WO.U (oIxM rfl rfl rfl rfl rfl om rfl) rfl <| WO.U (oLd rfl rfl rfl) rfl <| Ua rfl rfl <| Nk [0,1,5,6,7,8,14,15] rfl <| Rg 1 rfl <| Ua rfl rfl <| WO.nil ?_
 have hxl : xs.getD ds.length default < 4294967296 := getD_lt hx om
 have hyl : ys.getD ds.length default < 4294967296 := getD_lt hy om
 refine Rg 12 rfl <| Um rfl rfl <| Um rfl rfl <| WO.U (oIxM rfl rfl rfl rfl rfl om rfl) rfl <| WO.U (oLd rfl rfl rfl) rfl <| Um rfl rfl <| Um rfl rfl <| WO.U (oCall rfl (sub32_run (xs.getD ds.length default) (ys.getD ds.length default) c hxl hyl hc) (by simp)) rfl <| Um rfl rfl <| WO.U (oEx rfl rfl) rfl <| WO.U (oEx rfl rfl) rfl <| Ua rfl rfl <| Ua rfl rfl <| Nk [0,1,5,6,9,14,15] rfl <| WC.reg1z (z := 5) rfl <| Um rfl rfl <| Um rfl rfl <| WO.U (oBs' (cs := [_]) (rows := [[_]]) rfl rfl (by decide) rfl rfl rfl) rfl <| WO.S (oApM (f := d32) rfl rfl rfl rfl rfl (fun _ => rfl) (by decide) g0 (by show (2 * (ds.length + 1) + 256) * 4 ≤ _; omega) om) rfl <| Ua rfl rfl <| Wn <| after_normal <| WC.reg1z (z := 2) rfl ?_
 refine WO.U (cI (((ds.length + 1 : Nat) : Int)) (oAdd64 rfl rfl om) om) rfl <| Um rfl rfl <| Wn <| loopR_normal <| ⟨⟨_, _, ds ++ [_]⟩, ⟨rfl, rfl, rfl, rfl, rfl, congrArg some (by simp), trivial⟩, ⟨g0, trivial⟩, ⟨by simp; omega, hdd.snoc (Nat.mod_lt _ (by decide)), by split <;> omega, minus_step hi rfl rfl (by show _ = _ + 4294967296 * _; split <;> omega)⟩, by simp; omega⟩
theorem made_run (s : Int) (k : Nat) (ds : List Nat) (hs : s = 1 ∨ s = -1 ∨ s = 0 ∧ val B32 ds = 0) (hk : k = 1 ∨ k = 2) (hd : Dg B32 ds) (hl : ds.length < 4611686018427387904) : Run Tryz.prog T E0 (.call 127 [.v (.int .i64 s), .sl k (ds.map d32)] (lvI (s * val B32 ds))) := by
 have hkk : (if k = 0 then 0 else 1) = 1 := by rw [if_neg om]
 have htd := trim_dg hd
 have hrun := trim_run k ds om hl
 rw [hkk] at hrun
 have htl : (trim ds).length ≤ ds.length := by
  unfold trim; simpa using (List.dropWhile_sublist (· == 0) (l := ds.reverse)).length_le
 generalize hes : trim ds = es at *
 refine mkcall Tryz.func127 rfl rfl (Nat.le_of_ble_eq_true rfl) <| Rg 1 rfl <| WO.S (oAl rfl) rfl <| Wn <| Rg 3 rfl <| Um rfl rfl <| WO.U (oCall rfl (hrun) (by simp)) rfl <| Ua rfl rfl <| Wn <| WC.assoc <| Rg 3 rfl <| Um rfl rfl <| WO.U (oLenM rfl rfl) rfl <| WO.U (oLeq rfl rfl) rfl <| WO.D (fun h12 => ?_) (fun h12 => ?_)
 rotate_left
 ·refine Wn <| WC.cF rfl <| WC.skips <| Rg 4 rfl <| Um rfl rfl <| Um rfl rfl <| WO.U (oBd (cs := [_, _]) rfl rfl rfl rfl rfl) rfl <| WO.S0 (oSt (cs' := [_, _]) rfl rfl rfl rfl rfl rfl rfl rfl) <| Wn <| WC.ret <| post (n := 0) (.inr rfl) rfl ?_ (by simp)
  have hb := val_big hd (by rw [hes]; omega)
  rw [lvI_made hd (by have : val B32 ds = val 4294967296 ds := rfl; omega) hb, hes]; rfl
 refine Wn <| WC.cT rfl <| WC.assoc <| Rg 1 rfl <| Ua rfl rfl <| Wn <| WC.assoc <| WC.assoc <| Rg 3 rfl <| Um rfl rfl <| WO.U (oLenM rfl rfl) rfl <| Um rfl rfl <| Wn <| WC.block <| WC.loopV (α := Nat × Nat) (fun ⟨i, m⟩ => [(0, .v (.int .i64 s)), (1, .sl 1 (es.map d32)), (4, .ptr 0 0), (5, .v (.int .u64 (m : Int))), (13, .sl 1 (es.map d32)), (14, .v (.int .i64 (es.length : Int))), (15, .v (.int .i64 (i : Int)))]) (fun ⟨i, m⟩ => [(0, { cells := [.v (.int .i64 0), .sl 0 []], sz := 2, elem := 109, st := 0 })]) (fun ⟨i, m⟩ n => i ≤ es.length ∧ m = val B32 (es.take i)) (fun ⟨i, m⟩ => es.length - i) (0, 0) ⟨rfl, rfl, rfl, rfl, rfl, rfl, rfl, trivial⟩ ⟨rfl, trivial⟩ ⟨Nat.zero_le _, by simp [val]⟩ ?_
 rintro ⟨i, m⟩ n hF
 change WC _ _ _ _ _ (_ :: _) (_ :: _) n _
 obtain ⟨hi, hm⟩ := hF
 refine Rg 1 rfl <| WO.U (oLss rfl rfl) rfl <| WO.D (fun h16 => ?_) (fun h16 => ?_)
 ·refine Wn <| WC.cT rfl <| WC.skips <| WC.block <| Rg 5 rfl <| Um rfl rfl <| WO.U (oIxM rfl rfl rfl rfl rfl om rfl) rfl <| WO.U (oLd rfl rfl rfl) rfl <| Ua rfl rfl <| Ua rfl rfl <| WO.nil ?_
  have hxl : es.getD i default < 4294967296 := getD_lt htd om
  have hml : m < 4294967296 ^ i := by
   have := val_lt (B := 4294967296) (by decide) (htd.take i)
   rw [List.length_take, Nat.min_eq_left hi] at this
   rw [hm]; exact this
  refine WC.reg1z (z := 8) rfl <| Um rfl rfl <| Um rfl rfl <| WO.U (cI (((es.getD i default : Nat) : Int)) (oCnv rfl rfl rfl) (by rw [IntKind.wrap_u64]; omega)) rfl <| Um rfl rfl <| WO.U (cI (((32 * i : Nat) : Int)) (oMul64 rfl rfl om) om) rfl <| WO.U (cI (((es.getD i default * 4294967296 ^ i : Nat) : Int)) (oShlU (s := 32 * i) rfl rfl om) (shl_dig om hxl)) rfl <| WO.U (oBin (v := .int .u64 ((m + 4294967296 ^ i * es.getD i default : Nat) : Int)) rfl rfl (or_dig om hxl hml)) rfl <| Ua rfl rfl <| Wn <| after_normal <| Ck [0,1,4,5,13,14,15] rfl <| WC.reg1z (z := 2) rfl <| WO.U (cI (((i + 1 : Nat) : Int)) (oAdd64 rfl rfl om) om) rfl <| Um rfl rfl <| Wn <| loopR_normal <| ⟨⟨i + 1, _⟩, ⟨rfl, rfl, rfl, rfl, rfl, rfl, rfl, trivial⟩, ⟨rfl, trivial⟩, ⟨om, ?_⟩, by show es.length - (i + 1) < es.length - i; omega⟩
  rw [take_succ_val, hm]
 refine Wn <| WC.cF rfl <| WC.exits <| loopR_exit <| after_exit rfl <| WC.assoc <| Rg 2 rfl <| Um rfl rfl <| WO.U (oLss rfl rfl) rfl <| WO.D (fun h29 => ?_) (fun h29 => ?_)
 rotate_left
 ·refine Wn <| WC.cF rfl <| WC.skips <| Rg 4 rfl <| Um rfl rfl <| Um rfl rfl <| WO.U (oBd (cs := [_, _]) rfl rfl rfl rfl rfl) rfl <| WO.S0 (oSt (cs' := [_, _]) rfl rfl rfl rfl rfl rfl rfl rfl) <| Wn <| WC.ret ?_
  have hE : m = val B32 ds := by
   rw [hm, List.take_of_length_le om, ← hes, trim_val]
  refine post (n := 0) (.inr rfl) rfl ?_ (by simp)
  rw [lvI_made hd om (by show 4611686018427387904 ≤ val B32 ds; omega), hes]; rfl
 refine Wn <| WC.cT rfl <| WC.assoc <| Rg 6 rfl <| Um rfl rfl <| Um rfl rfl <| WO.U (cI ((m : Int)) (oCnv rfl rfl rfl) (by rw [IntWalk.i64_in _ om])) rfl <| WO.U (oMul64 rfl rfl (by rcases hs with rfl | rfl | ⟨rfl, _⟩ <;> omega)) rfl <| WO.U (oBd (cs := [_, _]) rfl rfl rfl rfl rfl) rfl <| WO.S0 (oSt (cs' := [_, _]) rfl rfl rfl rfl rfl rfl rfl rfl) <| Nk [4] rfl <| WC.rets ?_
 have hE : m = val B32 ds := by
  rw [hm, List.take_of_length_le om, ← hes, trim_val]
 refine post (n := 0) (.inr rfl) rfl ?_ (by simp)
 rw [lvI_small (by unfold small; rw [← hE]; rcases hs with rfl | rfl | ⟨rfl, _⟩ <;> omega), ← hE]; rfl
end Go.Proofs.YthpnlndhebcngaaGreat
set_option linter.unusedVariables false
set_option linter.unusedSimpArgs false
set_option maxRecDepth 100000
namespace Go.Proofs.YthpnlndhebcngaaGreat
open Go.Ab Go.RowKit
theorem ia0 {v : Int} (h : v.sign = 0) : v = 0 := Int.sign_eq_zero_iff_zero.1 h
theorem add_run (v w : Int) (hv : len32 v < 1099511627775) (hw : len32 w < 1099511627775) : Run Tryz.prog T E0 (.call 105 [lvI v, lvI w] (lvI (v + w))) := by
 have bv := ia_bd v
 have bw := ia_bd w
 have ev := sign_mul_abs v
 have ew := sign_mul_abs w
 have dv := dgs_val (B := B32) (by decide) v.natAbs
 have dw := dgs_val (B := B32) (by decide) w.natAbs
 have qv := dgs_dg (B := B32) (by decide) v.natAbs
 have qw := dgs_dg (B := B32) (by decide) w.natAbs
 have tv := dgs_tr (B := B32) (by decide) v.natAbs
 have tw := dgs_tr (B := B32) (by decide) w.natAbs
 have lv : (dgs B32 v.natAbs).length < 1099511627775 := hv
 have lw : (dgs B32 w.natAbs).length < 1099511627775 := hw
 refine mkcall Tryz.func105 rfl rfl (Nat.le_of_ble_eq_true rfl) <| Rg 3 rfl <| WO.S (oBx rfl rfl) rfl <| WO.S (oBx rfl rfl) rfl <| WO.S (oAl rfl) rfl <| Wn <| WC.assoc <| Rg 8 rfl <| WO.U (oFaP rfl rfl rfl rfl rfl) rfl <| WO.U (oLdP rfl rfl rfl rfl rfl) rfl <| WO.U (oNilE rfl rfl) rfl <| WO.B (fun h11 => ?_) (fun h11 => ?_)
 rotate_left
 ·refine Um rfl rfl <| K1 rfl rfl <| K1 rfl rfl <| K1 rfl rfl <| WO.U (oPkF rfl rfl) rfl <| Wn <| WC.cF rfl <| WC.skips <| Rg 7 rfl <| WO.U (oLdP (l := .agg [_, _]) rfl rfl rfl rfl rfl) rfl <| WO.U (oCall rfl (digits_run _) (by simp)) rfl <| Um rfl rfl <| WO.U (oEx rfl rfl) rfl <| WO.U (oEx rfl rfl) rfl <| Ua rfl rfl <| Ua rfl rfl <| Nk [2,3,4,5,6] rfl <| Rg 7 rfl <| WO.U (oLdP (l := .agg [_, _]) rfl rfl rfl rfl rfl) rfl <| WO.U (oCall rfl (digits_run _) (by simp)) rfl <| Um rfl rfl <| WO.U (oEx rfl rfl) rfl <| WO.U (oEx rfl rfl) rfl ?_
  refine Ua rfl rfl <| Ua rfl rfl <| Wn <| WC.block <| Rg 3 rfl <| Um rfl rfl <| WO.U (oEql rfl rfl) rfl <| WO.D (fun h35 => ?_) (fun h35 => ?_)
  ·refine Ua rfl rfl <| Nk [2,3,4,5,6,7,8,33] rfl <| WC.cT1 rfl <| Rg 2 rfl <| WO.U (oLdP (l := .agg [_, _]) rfl rfl rfl rfl rfl) rfl <| WO.S0 (oSt (cs' := [_, _]) rfl rfl rfl rfl rfl rfl rfl rfl) <| Wn <| WC.ret <| after_ret <| post (n := 0) (.inr rfl) rfl ?_ (by simp)
   rw [ia0 h35, Int.zero_add]; rfl
  refine Ua rfl rfl <| Nk [2,3,4,5,6,7,8,33] rfl <| WC.cF1 rfl <| Rg 3 rfl <| Um rfl rfl <| WO.U (oEql rfl rfl) rfl <| WO.D (fun h39 => ?_) (fun h39 => ?_)
  ·refine Ua rfl rfl <| Wn <| WC.cT1 rfl <| Rg 2 rfl <| WO.U (oLdP (l := .agg [_, _]) rfl rfl rfl rfl rfl) rfl <| WO.S0 (oSt (cs' := [_, _]) rfl rfl rfl rfl rfl rfl rfl rfl) <| Wn <| WC.ret <| after_ret <| post (n := 0) (.inr rfl) rfl ?_ (by simp)
   rw [ia0 h39, Int.add_zero]; rfl
  refine Ua rfl rfl <| Wn <| WC.cF1 rfl <| Rg 4 rfl <| Um rfl rfl <| Um rfl rfl <| WO.U (oEql rfl rfl) rfl <| WO.D (fun h44 => ?_) (fun h44 => ?_)
  ·refine Ua rfl rfl <| Nk [4,5,6,7,8,41] rfl <| WC.cT1 rfl ?_
   have hsv : v.sign = 1 ∨ v.sign = -1 := by rcases Int.sign_trichotomy v with h | h | h <;> omega
   obtain ⟨r, hr, ds, rfl, hdd, hvl, hln⟩ := plus_run 1 1 _ _ qv qw om om
   refine Rg 6 rfl <| Um rfl rfl <| Um rfl rfl <| Um rfl rfl <| WO.U (oCall rfl (hr) (by simp)) rfl <| WO.U (oCall rfl (made_run v.sign 1 ds om (.inl rfl) hdd om) (by simp)) rfl <| WO.S0 (oSt (cs' := [_, _]) rfl rfl rfl rfl rfl rfl rfl rfl) <| Wn <| WC.ret <| after_ret <| post (n := 0) (.inr rfl) rfl ?_ (by simp)
   have : v.sign * (val B32 ds : Int) = v + w := by
    rw [hvl, dv, dw]; rcases hsv with h | h <;> rw [h] at ev h44 ⊢ <;> rw [← h44] at ew <;> omega
   rw [this]; rfl
  refine Ua rfl rfl <| Nk [4,5,6,7,8,41] rfl <| WC.cF1 rfl <| Rg 5 rfl <| Um rfl rfl <| Um rfl rfl <| WO.U (oCall rfl (compare_run 1 1 _ _ qv qw tv tw om om) (by simp)) rfl <| WO.U (oGeq rfl rfl) rfl <| WO.D (fun h54 => ?_) (fun h54 => ?_)
  ·refine Ua rfl rfl <| Wn <| WC.cT1 rfl ?_
   have hsv : v.sign = 1 ∨ v.sign = -1 := by rcases Int.sign_trichotomy v with h | h | h <;> omega
   have hge : val B32 (dgs B32 w.natAbs) ≤ val B32 (dgs B32 v.natAbs) := by
    rcases Nat.lt_or_ge (val B32 (dgs B32 v.natAbs)) (val B32 (dgs B32 w.natAbs)) with h | h
    ·rw [Int.sign_eq_neg_one_of_neg om] at h54; omega
    ·exact h
   have hll : (dgs B32 w.natAbs).length ≤ (dgs B32 v.natAbs).length := by
    rcases Nat.lt_or_ge (dgs B32 v.natAbs).length (dgs B32 w.natAbs).length with h | h
    ·have := val_lt_len (by decide) qv tw h; omega
    ·exact h
   obtain ⟨r, hr, ds, rfl, hdd, hvl, hln⟩ := minus_run 1 1 _ _ qv qw om hll hge
   refine Rg 6 rfl <| Um rfl rfl <| Um rfl rfl <| Um rfl rfl <| WO.U (oCall rfl (hr) (by simp)) rfl <| WO.U (oCall rfl (made_run v.sign 1 ds om (.inl rfl) hdd om) (by simp)) rfl <| WO.S0 (oSt (cs' := [_, _]) rfl rfl rfl rfl rfl rfl rfl rfl) <| Nk [4] rfl <| WC.ret <| after_ret <| post (n := 0) (.inr rfl) rfl ?_ (by simp)
   have : v.sign * (val B32 ds : Int) = v + w := by
    rw [hvl, dv, dw] at *; rcases hsv with h | h <;> rw [h] at ev h44 ⊢ <;> rcases (show w.sign = 1 ∨ w.sign = -1 by rcases Int.sign_trichotomy w with h | h | h <;> omega) with k | k <;> rw [k] at ew h44 <;> omega
   rw [this]; rfl
  refine Ua rfl rfl <| Wn <| WC.cF1 rfl <| WC.skip <| after_normal ?_
  have hsv : w.sign = 1 ∨ w.sign = -1 := by rcases Int.sign_trichotomy w with h | h | h <;> omega
  have hge : val B32 (dgs B32 v.natAbs) ≤ val B32 (dgs B32 w.natAbs) := by
   rcases Nat.lt_or_ge (val B32 (dgs B32 w.natAbs)) (val B32 (dgs B32 v.natAbs)) with h | h
   ·rw [Int.sign_eq_one_of_pos om] at h54; omega
   ·exact h
  have hll : (dgs B32 v.natAbs).length ≤ (dgs B32 w.natAbs).length := by
   rcases Nat.lt_or_ge (dgs B32 w.natAbs).length (dgs B32 v.natAbs).length with h | h
   ·have := val_lt_len (by decide) qw tv h; omega
   ·exact h
  obtain ⟨r, hr, ds, rfl, hdd, hvl, hln⟩ := minus_run 1 1 _ _ qw qv om hll hge
  refine Rg 6 rfl <| Um rfl rfl <| Um rfl rfl <| Um rfl rfl <| WO.U (oCall rfl (hr) (by simp)) rfl <| WO.U (oCall rfl (made_run w.sign 1 ds om (.inl rfl) hdd om) (by simp)) rfl <| WO.S0 (oSt (cs' := [_, _]) rfl rfl rfl rfl rfl rfl rfl rfl) <| Nk [4] rfl <| WC.ret <| post (n := 0) (.inr rfl) rfl ?_ (by simp)
  have : w.sign * (val B32 ds : Int) = v + w := by
   rw [hvl, dv, dw] at *; rcases hsv with h | h <;> rw [h] at ew h44 ⊢ <;> rcases (show v.sign = 1 ∨ v.sign = -1 by rcases Int.sign_trichotomy v with h | h | h <;> omega) with k | k <;> rw [k] at ev h44 <;> omega
  rw [this]; rfl
 refine Um rfl rfl <| WO.Ug rfl (oFaP rfl rfl rfl rfl rfl) rfl <| WO.Ug rfl (oLdP rfl rfl rfl rfl rfl) rfl <| WO.Ug rfl (oNilE rfl rfl) rfl <| WO.B (fun h15 => ?_) (fun h15 => ?_)
 ·refine WO.U (oPkT rfl rfl) rfl <| Wn <| WC.cT rfl <| WC.assoc <| Rg 7 rfl <| WO.U (oFaP rfl rfl rfl rfl rfl) rfl <| WO.U (oLdP rfl rfl rfl rfl rfl) rfl <| WO.U (oFaP rfl rfl rfl rfl rfl) rfl <| WO.U (oLdP rfl rfl rfl rfl rfl) rfl <| WO.U (oAdd64 rfl rfl om) rfl <| WO.U (oCall rfl (of_run _ om) (by simp)) rfl <| WO.S0 (oSt (cs' := [_, _]) rfl rfl rfl rfl rfl rfl rfl rfl) <| Nk [4] rfl <| WC.rets <| post (n := 0) (.inr rfl) rfl ?_ (by simp)
  rw [ia_small (ik_eq.1 h11), ia_small (ik_eq.1 h15)]; rfl
 refine WO.U (oPkT rfl rfl) rfl <| Wn <| WC.cF rfl <| WC.skips <| Rg 7 rfl <| WO.U (oLdP (l := .agg [_, _]) rfl rfl rfl rfl rfl) rfl <| WO.U (oCall rfl (digits_run _) (by simp)) rfl <| Um rfl rfl <| WO.U (oEx rfl rfl) rfl <| WO.U (oEx rfl rfl) rfl <| Ua rfl rfl <| Ua rfl rfl <| Nk [2,3,4,5,6] rfl <| Rg 7 rfl <| WO.U (oLdP (l := .agg [_, _]) rfl rfl rfl rfl rfl) rfl <| WO.U (oCall rfl (digits_run _) (by simp)) rfl <| Um rfl rfl <| WO.U (oEx rfl rfl) rfl <| WO.U (oEx rfl rfl) rfl <| Ua rfl rfl <| Ua rfl rfl <| Wn <| WC.block ?_
 refine Rg 3 rfl <| Um rfl rfl <| WO.U (oEql rfl rfl) rfl <| WO.D (fun h35 => ?_) (fun h35 => ?_)
 ·refine Ua rfl rfl <| Nk [2,3,4,5,6,7,8,33] rfl <| WC.cT1 rfl <| Rg 2 rfl <| WO.U (oLdP (l := .agg [_, _]) rfl rfl rfl rfl rfl) rfl <| WO.S0 (oSt (cs' := [_, _]) rfl rfl rfl rfl rfl rfl rfl rfl) <| Wn <| WC.ret <| after_ret <| post (n := 0) (.inr rfl) rfl ?_ (by simp)
  rw [ia0 h35, Int.zero_add]; rfl
 refine Ua rfl rfl <| Nk [2,3,4,5,6,7,8,33] rfl <| WC.cF1 rfl <| Rg 3 rfl <| Um rfl rfl <| WO.U (oEql rfl rfl) rfl <| WO.D (fun h39 => ?_) (fun h39 => ?_)
 ·refine Ua rfl rfl <| Wn <| WC.cT1 rfl <| Rg 2 rfl <| WO.U (oLdP (l := .agg [_, _]) rfl rfl rfl rfl rfl) rfl <| WO.S0 (oSt (cs' := [_, _]) rfl rfl rfl rfl rfl rfl rfl rfl) <| Wn <| WC.ret <| after_ret <| post (n := 0) (.inr rfl) rfl ?_ (by simp)
  rw [ia0 h39, Int.add_zero]; rfl
 refine Ua rfl rfl <| Wn <| WC.cF1 rfl <| Rg 4 rfl <| Um rfl rfl <| Um rfl rfl <| WO.U (oEql rfl rfl) rfl <| WO.D (fun h44 => ?_) (fun h44 => ?_)
 ·refine Ua rfl rfl <| Nk [4,5,6,7,8,41] rfl <| WC.cT1 rfl ?_
  have hsv : v.sign = 1 ∨ v.sign = -1 := by rcases Int.sign_trichotomy v with h | h | h <;> omega
  obtain ⟨r, hr, ds, rfl, hdd, hvl, hln⟩ := plus_run 1 1 _ _ qv qw om om
  refine Rg 6 rfl <| Um rfl rfl <| Um rfl rfl <| Um rfl rfl <| WO.U (oCall rfl (hr) (by simp)) rfl <| WO.U (oCall rfl (made_run v.sign 1 ds om (.inl rfl) hdd om) (by simp)) rfl <| WO.S0 (oSt (cs' := [_, _]) rfl rfl rfl rfl rfl rfl rfl rfl) <| Wn <| WC.ret <| after_ret <| post (n := 0) (.inr rfl) rfl ?_ (by simp)
  have : v.sign * (val B32 ds : Int) = v + w := by
   rw [hvl, dv, dw]; rcases hsv with h | h <;> rw [h] at ev h44 ⊢ <;> rw [← h44] at ew <;> omega
  rw [this]; rfl
 refine Ua rfl rfl <| Nk [4,5,6,7,8,41] rfl <| WC.cF1 rfl <| Rg 5 rfl <| Um rfl rfl <| Um rfl rfl <| WO.U (oCall rfl (compare_run 1 1 _ _ qv qw tv tw om om) (by simp)) rfl <| WO.U (oGeq rfl rfl) rfl <| WO.D (fun h54 => ?_) (fun h54 => ?_)
 ·refine Ua rfl rfl <| Wn <| WC.cT1 rfl ?_
  have hsv : v.sign = 1 ∨ v.sign = -1 := by rcases Int.sign_trichotomy v with h | h | h <;> omega
  have hge : val B32 (dgs B32 w.natAbs) ≤ val B32 (dgs B32 v.natAbs) := by
   rcases Nat.lt_or_ge (val B32 (dgs B32 v.natAbs)) (val B32 (dgs B32 w.natAbs)) with h | h
   ·rw [Int.sign_eq_neg_one_of_neg om] at h54; omega
   ·exact h
  have hll : (dgs B32 w.natAbs).length ≤ (dgs B32 v.natAbs).length := by
   rcases Nat.lt_or_ge (dgs B32 v.natAbs).length (dgs B32 w.natAbs).length with h | h
   ·have := val_lt_len (by decide) qv tw h; omega
   ·exact h
  obtain ⟨r, hr, ds, rfl, hdd, hvl, hln⟩ := minus_run 1 1 _ _ qv qw om hll hge
  refine Rg 6 rfl <| Um rfl rfl <| Um rfl rfl <| Um rfl rfl <| WO.U (oCall rfl (hr) (by simp)) rfl <| WO.U (oCall rfl (made_run v.sign 1 ds om (.inl rfl) hdd om) (by simp)) rfl <| WO.S0 (oSt (cs' := [_, _]) rfl rfl rfl rfl rfl rfl rfl rfl) <| Nk [4] rfl <| WC.ret <| after_ret <| post (n := 0) (.inr rfl) rfl ?_ (by simp)
  have : v.sign * (val B32 ds : Int) = v + w := by
   rw [hvl, dv, dw] at *; rcases hsv with h | h <;> rw [h] at ev h44 ⊢ <;> rcases (show w.sign = 1 ∨ w.sign = -1 by rcases Int.sign_trichotomy w with h | h | h <;> omega) with k | k <;> rw [k] at ew h44 <;> omega
  rw [this]; rfl
 refine Ua rfl rfl <| Wn <| WC.cF1 rfl <| WC.skip <| after_normal ?_
 have hsv : w.sign = 1 ∨ w.sign = -1 := by rcases Int.sign_trichotomy w with h | h | h <;> omega
 have hge : val B32 (dgs B32 v.natAbs) ≤ val B32 (dgs B32 w.natAbs) := by
  rcases Nat.lt_or_ge (val B32 (dgs B32 w.natAbs)) (val B32 (dgs B32 v.natAbs)) with h | h
  ·rw [Int.sign_eq_one_of_pos om] at h54; omega
  ·exact h
 have hll : (dgs B32 v.natAbs).length ≤ (dgs B32 w.natAbs).length := by
  rcases Nat.lt_or_ge (dgs B32 w.natAbs).length (dgs B32 v.natAbs).length with h | h
  ·have := val_lt_len (by decide) qw tv h; omega
  ·exact h
 obtain ⟨r, hr, ds, rfl, hdd, hvl, hln⟩ := minus_run 1 1 _ _ qw qv om hll hge
 refine Rg 6 rfl <| Um rfl rfl <| Um rfl rfl <| Um rfl rfl <| WO.U (oCall rfl (hr) (by simp)) rfl <| WO.U (oCall rfl (made_run w.sign 1 ds om (.inl rfl) hdd om) (by simp)) rfl <| WO.S0 (oSt (cs' := [_, _]) rfl rfl rfl rfl rfl rfl rfl rfl) <| Nk [4] rfl <| WC.ret <| post (n := 0) (.inr rfl) rfl ?_ (by simp)
 have : w.sign * (val B32 ds : Int) = v + w := by
  rw [hvl, dv, dw] at *; rcases hsv with h | h <;> rw [h] at ew h44 ⊢ <;> rcases (show v.sign = 1 ∨ v.sign = -1 by rcases Int.sign_trichotomy v with h | h | h <;> omega) with k | k <;> rw [k] at ev h44 <;> omega
 rw [this]; rfl
end Go.Proofs.YthpnlndhebcngaaGreat
set_option linter.unusedVariables false
set_option linter.unusedSimpArgs false
set_option maxRecDepth 100000
namespace Go.Proofs.YthpnlndhebcngaaGreat
open Go.Ab Go.RowKit
theorem mul64_run (x y : Nat) (hx : x < 18446744073709551616) (hy : y < 18446744073709551616) : Run Tryz.prog T E0 (.call 132 [.v (.int .u64 (x : Int)), .v (.int .u64 (y : Int))] (.tup [.v (.int .u64 ((x * y / 18446744073709551616 : Nat) : Int)), .v (.int .u64 ((x * y % 18446744073709551616 : Nat) : Int))])) := by
 obtain ⟨p00, h00⟩ : ∃ p, p = (x % 4294967296) * (y % 4294967296) := ⟨_, rfl⟩
 obtain ⟨p10, h10⟩ : ∃ p, p = (x / 4294967296) * (y % 4294967296) := ⟨_, rfl⟩
 obtain ⟨p01, h01⟩ : ∃ p, p = (x % 4294967296) * (y / 4294967296) := ⟨_, rfl⟩
 obtain ⟨p11, h11⟩ : ∃ p, p = (x / 4294967296) * (y / 4294967296) := ⟨_, rfl⟩
 have b00 := mul_dig (a := x % 4294967296) (b := y % 4294967296) om om
 have b10 := mul_dig (a := x / 4294967296) (b := y % 4294967296) om om
 have b01 := mul_dig (a := x % 4294967296) (b := y / 4294967296) om om
 have b11 := mul_dig (a := x / 4294967296) (b := y / 4294967296) om om
 have hxy := mul_words h00 h10 h01 h11
 rw [← h00] at b00
 rw [← h10] at b10
 rw [← h01] at b01
 rw [← h11] at b11
 refine mkcall Tryz.func132 rfl rfl (Nat.le_of_ble_eq_true rfl) <| Rg 2 rfl <| Ua rfl rfl <| Ua rfl rfl <| Wn <| Rg 3 rfl <| Um rfl rfl <| WO.U (oBin (v := .int .u64 ((x % 4294967296 : Nat) : Int)) rfl rfl (mask32 hx)) rfl <| Ua rfl rfl <| Wn <| Rg 3 rfl <| Um rfl rfl <| WO.U (cI (((x / 4294967296 : Nat) : Int)) (oShrU (s := 32) rfl rfl om) om) rfl <| Ua rfl rfl <| Wn <| Rg 3 rfl <| Um rfl rfl <| WO.U (oBin (v := .int .u64 ((y % 4294967296 : Nat) : Int)) rfl rfl (mask32 hy)) rfl <| Ua rfl rfl <| Wn <| Rg 3 rfl <| Um rfl rfl <| WO.U (cI (((y / 4294967296 : Nat) : Int)) (oShrU (s := 32) rfl rfl om) om) rfl <| Ua rfl rfl ?_
 refine Nk [0,1,6,7,8,9] rfl <| Rg 4 rfl <| Um rfl rfl <| Um rfl rfl <| WO.U (cI ((p00 : Int)) (oMulU rfl rfl) (by rw [← Int.natCast_mul, ← h00]; omega)) rfl <| Ua rfl rfl <| Wn <| Rg 7 rfl <| Um rfl rfl <| Um rfl rfl <| WO.U (cI ((p10 : Int)) (oMulU rfl rfl) (by rw [← Int.natCast_mul, ← h10]; omega)) rfl <| Um rfl rfl <| WO.U (cI (((p00 / 4294967296 : Nat) : Int)) (oShrU (s := 32) rfl rfl om) om) rfl <| WO.U (cI (((p10 + p00 / 4294967296 : Nat) : Int)) (oAddU rfl rfl) om) rfl <| Ua rfl rfl <| Nk [0,1,6,7,9,11] rfl <| Rg 3 rfl <| Um rfl rfl <| WO.U (oBin (v := .int .u64 (((p10 + p00 / 4294967296) % 4294967296 : Nat) : Int)) rfl rfl (mask32 om)) rfl <| Ua rfl rfl <| Wn <| Rg 3 rfl ?_
 refine Um rfl rfl <| WO.U (cI ((((p10 + p00 / 4294967296) / 4294967296 : Nat) : Int)) (oShrU (s := 32) rfl rfl om) om) rfl <| Ua rfl rfl <| Wn <| Rg 6 rfl <| Um rfl rfl <| Um rfl rfl <| Um rfl rfl <| WO.U (cI ((p01 : Int)) (oMulU rfl rfl) (by rw [← Int.natCast_mul, ← h01]; omega)) rfl <| WO.U (cI ((((p10 + p00 / 4294967296) % 4294967296 + p01 : Nat) : Int)) (oAddU rfl rfl) om) rfl <| Ua rfl rfl <| Nk [0,1,7,9,12,13] rfl <| Rg 9 rfl <| Um rfl rfl <| Um rfl rfl <| WO.U (cI ((p11 : Int)) (oMulU rfl rfl) (by rw [← Int.natCast_mul, ← h11]; omega)) rfl <| Um rfl rfl <| WO.U (cI (((p11 + (p10 + p00 / 4294967296) / 4294967296 : Nat) : Int)) (oAddU rfl rfl) om) rfl <| Um rfl rfl <| WO.U (cI (((((p10 + p00 / 4294967296) % 4294967296 + p01) / 4294967296 : Nat) : Int)) (oShrU (s := 32) rfl rfl om) om) rfl <| WO.U (cI (((x * y / 18446744073709551616 : Nat) : Int)) (oAddU rfl rfl) (by rw [hxy]; omega)) rfl <| Ua rfl rfl <| WO.nil ?_
 refine Ck [0,1,4] rfl <| Rg 4 rfl <| Um rfl rfl <| Um rfl rfl <| WO.U (cI (((x * y % 18446744073709551616 : Nat) : Int)) (oMulU rfl rfl) (by rw [← Int.natCast_mul]; rfl)) rfl <| Ua rfl rfl <| Wn <| WC.ret ?_
 exact post (n := 0) (.inr rfl) rfl rfl (by simp)
theorem mul_run (v w : Int) (hv : len32 v < 549755813888) (hw : len32 w < 549755813888) : Run Tryz.prog T E0 (.call 107 [lvI v, lvI w] (lvI (v * w))) := by
 have bv := ia_bd v
 have bw := ia_bd w
 have ev := sign_mul_abs v
 have ew := sign_mul_abs w
 have evw : v * w = v.sign * w.sign * ((v.natAbs * w.natAbs : Nat) : Int) := by
  rw [Int.natCast_mul]; grind
 obtain ⟨σ, hσ⟩ : ∃ σ, σ = v.sign * w.sign := ⟨_, rfl⟩
 have hs3 : σ = 1 ∨ σ = -1 ∨ σ = 0 ∧ v.natAbs * w.natAbs = 0 := by
  rcases Int.sign_trichotomy v with h | h | h <;> rcases Int.sign_trichotomy w with k | k | k <;> rw [h, k] at hσ <;> simp at hσ <;> first | exact .inl hσ | exact .inr (.inl hσ) | skip
  all_goals (refine .inr (.inr ⟨hσ, ?_⟩); first | (rw [ia0 h]; simp; done) | (rw [ia0 k]; simp))
 rw [← hσ] at evw
 obtain ⟨xs, hxs⟩ : ∃ xs, xs = dgs B32 v.natAbs := ⟨_, rfl⟩
 obtain ⟨ys, hys⟩ : ∃ ys, ys = dgs B32 w.natAbs := ⟨_, rfl⟩
 have dv : val B32 xs = v.natAbs := by rw [hxs]; exact dgs_val (by decide) _
 have dw : val B32 ys = w.natAbs := by rw [hys]; exact dgs_val (by decide) _
 have qv : Dg B32 xs := by rw [hxs]; exact dgs_dg (by decide) _
 have qw : Dg B32 ys := by rw [hys]; exact dgs_dg (by decide) _
 have lv : xs.length < 549755813888 := by rw [hxs]; exact hv
 have lw : ys.length < 549755813888 := by rw [hys]; exact hw
 refine mkcall Tryz.func107 rfl rfl (Nat.le_of_ble_eq_true rfl) ?_
 have J5 : ∀  (n : Nat) (hn : 3 ≤ n), WC Tryz.prog T E0 Tryz.f107.ntmps (codeR (codeR (codeOf Tryz.f107))) [(2, .ptr 0 0), (3, .ptr 1 0), (4, .ptr 2 0)] [(2, { cells := [.v (.int .i64 0), .sl 0 []], sz := 2, elem := 109, st := 0 }), (1, { cells := (lvI w).cells, sz := (lvI w).cells.length, elem := 109, st := 0 }), (0, { cells := (lvI v).cells, sz := (lvI v).cells.length, elem := 109, st := 0 })] n (Post T Tryz.f107.results.toList (lvI (v * w))) := by
  intro  n hn
  refine Rg 7 rfl <| WO.U (oLdP (l := .agg [_, _]) rfl rfl rfl rfl rfl) rfl <| WO.U (oCall rfl ((hxs ▸ digits_run v)) (by simp)) rfl <| Um rfl rfl <| WO.U (oEx rfl rfl) rfl <| WO.U (oEx rfl rfl) rfl <| Ua rfl rfl <| Ua rfl rfl <| Wn <| Rg 7 rfl <| WO.U (oLdP (l := .agg [_, _]) rfl rfl rfl rfl rfl) rfl <| WO.U (oCall rfl ((hys ▸ digits_run w)) (by simp)) rfl <| Um rfl rfl <| WO.U (oEx rfl rfl) rfl <| WO.U (oEx rfl rfl) rfl <| Ua rfl rfl <| Ua rfl rfl <| Nk [4,7,8,9,10] rfl <| Rg 7 rfl <| Um rfl rfl <| WO.U (oLenM rfl rfl) rfl <| Um rfl rfl <| WO.U (oLenM rfl rfl) rfl ?_
  refine WO.U (oAdd64 rfl rfl om) rfl <| WO.S (oMk (a := xs.length + ys.length) (b := xs.length + ys.length) rfl rfl rfl rfl om om (by decide) om (by show 4 * (xs.length + ys.length) ≤ _; omega) om) rfl <| Ua rfl rfl <| Wn <| WC.assoc <| Rg 3 rfl <| Um rfl rfl <| WO.U (oLenM rfl rfl) rfl <| Um rfl rfl <| Nk [4,7,9,10,11,74,75,76] rfl <| WC.block <| WC.loopV (α := Nat × Nat × (List Nat)) (fun ⟨i, q, us⟩ => [(4, .ptr 2 0), (7, .v (.int .i64 v.sign)), (9, .v (.int .i64 w.sign)), (10, .sl 1 (ys.map d32)), (11, .ref q 1 0 us.length), (74, .sl 1 (xs.map d32)), (75, .v (.int .i64 (xs.length : Int))), (76, .v (.int .i64 (i : Int)))]) (fun ⟨i, q, us⟩ => [(q, { cells := (us.map d32).flatten, sz := 1, elem := 145, st := 0 }), (2, { cells := [.v (.int .i64 0), .sl 0 []], sz := 2, elem := 109, st := 0 })]) (fun ⟨i, q, us⟩ n => i ≤ xs.length ∧ us.length = xs.length + ys.length ∧ Dg B32 us ∧ val B32 us = val B32 (xs.take i) * val B32 ys ∧ (∀ j, i + ys.length ≤ j → us.getD j default = 0) ∧ 2 < q) (fun ⟨i, q, us⟩ => xs.length - i) (0, n + 7 + 7 + 5, List.replicate (xs.length + ys.length) 0) ⟨rfl, rfl, rfl, rfl, congrArg some (by rw [List.length_replicate]; rfl), rfl, rfl, rfl, trivial⟩ ⟨g0.trans (by rw [List.map_replicate]; rfl), g1 om rfl, trivial⟩ ⟨Nat.zero_le _, by simp, by intro d hd; simp at hd; rw [hd.2]; decide, by rw [val_zeros]; simp [val], by intro j _; exact getD_zeros _ _, om⟩ ?_
  rintro ⟨i, q, us⟩ n hF
  change WC _ _ _ _ _ (_ :: _) (_ :: _) n _
  obtain ⟨hi, hul, hud, huv, huz, hq⟩ := hF
  refine Rg 1 rfl <| WO.U (oLss rfl rfl) rfl <| WO.D (fun h77 => ?_) (fun h77 => ?_)
  rotate_left
  ·refine Wn <| WC.cF rfl <| WC.exits <| loopR_exit <| after_exit rfl ?_
   have hE : val B32 us = v.natAbs * w.natAbs := by
    rw [huv, List.take_of_length_le om, dv, dw]
   refine Rg 6 rfl <| Um rfl rfl <| Um rfl rfl <| WO.U (cI σ (oMul64 rfl rfl (by rw [← hσ]; omega)) hσ.symm) rfl <| Um rfl rfl <| WO.S (oCallF [.v (.int .i64 σ), .sl 1 (us.map d32)] [(q, { cells := (us.map d32).flatten, sz := 1, elem := 145, st := 1 })] rfl (made_run σ 1 us (by rw [hE]; exact hs3) (.inl rfl) hud om) (.data (by simp) (.own _ (by simp) g0 (by show (0 : Nat) ≠ 2; decide) rfl (by decide) (by simp [keys]) rfl rows_d32 data_rows_d32 .nil)) (by intro p hp; simp at hp; subst hp; exact ⟨_, g0, by show (0 : Nat) ≠ 2; decide, rfl⟩)) rfl <| WO.S0 (oSt (cs' := [_, _]) rfl rfl rfl (g1 om (g1 om rfl)) rfl rfl rfl rfl) <| Wn <| WC.ret <| post (n := 0) (.inr rfl) rfl ?_ (by simp)
   rw [evw, ← hE]; rfl
  refine Wn <| WC.cT rfl <| WC.skips <| WC.block <| Rg 5 rfl <| Um rfl rfl <| WO.U (oIxM rfl rfl rfl rfl rfl om rfl) rfl <| WO.U (oLd rfl rfl rfl) rfl <| Ua rfl rfl <| Ua rfl rfl <| Wn <| Rg 1 rfl <| Ua rfl rfl <| Nk [4,7,9,10,11,12,13,14,74,75,76] rfl <| WC.assoc <| Rg 3 rfl <| Um rfl rfl <| WO.U (oLenM rfl rfl) rfl <| Um rfl rfl <| Wn <| WC.block <| WC.loopV (α := Nat × Nat × (List Nat)) (fun ⟨k, c, us1⟩ => [(4, .ptr 2 0), (7, .v (.int .i64 v.sign)), (9, .v (.int .i64 w.sign)), (10, .sl 1 (ys.map d32)), (11, .ref q 1 0 us1.length), (12, .v (.int .i64 (i : Int))), (13, .v (.int .u32 (xs.getD i default : Int))), (14, .v (.int .u64 (c : Int))), (74, .sl 1 (xs.map d32)), (75, .v (.int .i64 (xs.length : Int))), (76, .v (.int .i64 (i : Int))), (81, .sl 1 (ys.map d32)), (82, .v (.int .i64 (ys.length : Int))), (83, .v (.int .i64 (k : Int)))]) (fun ⟨k, c, us1⟩ => [(q, { cells := (us1.map d32).flatten, sz := 1, elem := 145, st := 0 }), (2, { cells := [.v (.int .i64 0), .sl 0 []], sz := 2, elem := 109, st := 0 })]) (fun ⟨k, c, us1⟩ n => k ≤ ys.length ∧ us1.length = us.length ∧ Dg B32 us1 ∧ c < 4294967296 ∧ val B32 us1 + B32 ^ (i + k) * c = val B32 us + B32 ^ i * (xs.getD i default * val B32 (ys.take k)) ∧ (∀ j, i + k ≤ j → us1.getD j default = us.getD j default)) (fun ⟨k, c, us1⟩ => ys.length - k) (0, 0, us) ⟨rfl, rfl, rfl, rfl, rfl, rfl, rfl, rfl, rfl, rfl, rfl, rfl, rfl, rfl, trivial⟩ ⟨g0, g1 om rfl, trivial⟩ ⟨Nat.zero_le _, rfl, hud, by decide, by simp [val], fun _ _ => rfl⟩ ?_
  rintro ⟨k, c, us1⟩ n hG
  change WC _ _ _ _ _ (_ :: _) (_ :: _) n _
  obtain ⟨hk, hl1, hd1, hc1, hv1, hz1⟩ := hG
  refine Rg 1 rfl <| WO.U (oLss rfl rfl) rfl <| WO.D (fun h84 => ?_) (fun h84 => ?_)
  rotate_left
  ·refine Nk [4,7,9,10,11,12,13,14,74,75,76,81,82,83,84] rfl <| WC.cF rfl <| WC.exits <| loopR_exit <| after_exit rfl <| Ck [4,7,9,10,11,12,14,74,75,76] rfl <| WC.reg1z (z := 9) rfl <| Um rfl rfl <| Um rfl rfl <| Um rfl rfl <| WO.U (oLenM rfl rfl) rfl <| WO.U (cI (((i + ys.length : Nat) : Int)) (oAdd64 rfl rfl om) om) rfl <| Um rfl rfl <| WO.U (cI ((c : Int)) (oCnv rfl rfl rfl) (by rw [IntKind.wrap_u32]; omega)) rfl <| WO.U (oIxR rfl rfl rfl rfl rfl om rfl) rfl <| WO.S0 (oStO (f := d32) (us := us1) c rfl rfl rfl g0 (fun _ => rfl) rfl rfl om rfl) <| Wn <| after_normal <| Ck [4,7,9,10,11,74,75,76] rfl <| WC.reg1z (z := 2) rfl <| WO.U (cI (((i + 1 : Nat) : Int)) (oAdd64 rfl rfl om) om) rfl <| Um rfl rfl <| WO.nil ?_
   refine loopR_normal <| ⟨⟨i + 1, q, us1.set (i + ys.length) c⟩, ⟨rfl, rfl, rfl, rfl, congrArg some (by rw [List.length_set]), rfl, rfl, rfl, trivial⟩, ⟨g0, g1 om (g1 om rfl), trivial⟩, ⟨om, by rw [List.length_set]; omega, hd1.set _ hc1, ?_, ?_, hq⟩, by show xs.length - (i + 1) < xs.length - i; omega⟩
   ·have hk' : k = ys.length := by omega
    subst hk'
    have h1 := val_set (B := B32) us1 (i + ys.length) c om
    rw [hz1 _ (Nat.le_refl _), huz _ (Nat.le_refl _), Nat.mul_zero, Nat.add_zero] at h1
    rw [h1, hv1, huv, take_succ_val, List.take_of_length_le (Nat.le_refl _), Nat.add_mul, Nat.mul_assoc]
   ·intro j hj
    rw [lgetD_set om, hz1 j om]; exact huz j om
  refine Nk [4,7,9,10,11,12,13,14,74,75,76,81,82,83,84] rfl <| WC.cT rfl <| WC.skips <| WC.block <| Rg 5 rfl <| Um rfl rfl <| WO.U (oIxM rfl rfl rfl rfl rfl om rfl) rfl <| WO.U (oLd rfl rfl rfl) rfl <| Ua rfl rfl <| Ua rfl rfl <| Nk [4,7,9,10,11,12,13,14,15,16,74,75,76,81,82,83] rfl ?_
  have hp : xs.getD i default < 4294967296 := getD_lt qv om
  have hqk : ys.getD k default < 4294967296 := getD_lt qw om
  have ho : us1.getD (i + k) default < 4294967296 := getD_lt hd1 om
  have hpq := mul_dig hp hqk
  refine Rg 16 rfl <| Um rfl rfl <| Um rfl rfl <| WO.U (cI ((xs.getD i default : Int)) (oCnv rfl rfl rfl) (by rw [IntKind.wrap_u64]; omega)) rfl <| Um rfl rfl <| WO.U (cI ((ys.getD k default : Int)) (oCnv rfl rfl rfl) (by rw [IntKind.wrap_u64]; omega)) rfl <| WO.U (cI (((xs.getD i default * ys.getD k default : Nat) : Int)) (oMulU rfl rfl) (by rw [← Int.natCast_mul]; omega)) rfl <| Um rfl rfl <| Um rfl rfl <| Um rfl rfl <| WO.U (cI (((i + k : Nat) : Int)) (oAdd64 rfl rfl om) om) rfl <| WO.U (oIxR rfl rfl rfl rfl rfl om rfl) rfl <| WO.U (oLdO (f := d32) (us := us1) (j := i + k) rfl rfl g0 (fun _ => rfl) rfl (by decide) om rfl) rfl <| WO.U (cI ((us1.getD (i + k) default : Int)) (oCnv rfl rfl rfl) (by rw [IntKind.wrap_u64]; omega)) rfl <| WO.U (cI (((xs.getD i default * ys.getD k default + us1.getD (i + k) default : Nat) : Int)) (oAddU rfl rfl) om) rfl <| WO.U (cI ((((c + (xs.getD i default * ys.getD k default + us1.getD (i + k) default)) : Nat) : Int)) (oAddU rfl rfl) om) rfl <| Ua rfl rfl <| Nk [4,7,9,10,11,12,13,14,15,74,75,76,81,82,83] rfl <| Rg 8 rfl <| Um rfl rfl <| Um rfl rfl <| Um rfl rfl <| WO.U (cI (((i + k : Nat) : Int)) (oAdd64 rfl rfl om) om) rfl ?_
  refine Um rfl rfl <| WO.U (cI ((((c + (xs.getD i default * ys.getD k default + us1.getD (i + k) default)) % 4294967296 : Nat) : Int)) (oCnv rfl rfl rfl) (by rw [IntKind.wrap_u32]; omega)) rfl <| WO.U (oIxR rfl rfl rfl rfl rfl om rfl) rfl <| WO.S0 (oStO (f := d32) (us := us1) ((c + (xs.getD i default * ys.getD k default + us1.getD (i + k) default)) % 4294967296) rfl rfl rfl g0 (fun _ => rfl) rfl rfl om rfl) <| Nk [4,7,9,10,11,12,13,14,74,75,76,81,82,83] rfl <| WC.reg1z (z := 3) rfl <| Um rfl rfl <| WO.U (cI ((((c + (xs.getD i default * ys.getD k default + us1.getD (i + k) default)) / 4294967296 : Nat) : Int)) (oShrU (s := 32) rfl rfl om) om) rfl <| Ua rfl rfl <| Wn <| after_normal <| Ck [4,7,9,10,11,12,13,14,74,75,76,81,82,83] rfl <| WC.reg1z (z := 2) rfl <| WO.U (cI (((k + 1 : Nat) : Int)) (oAdd64 rfl rfl om) om) rfl <| Um rfl rfl <| Wn <| loopR_normal <| ⟨⟨k + 1, (c + (xs.getD i default * ys.getD k default + us1.getD (i + k) default)) / 4294967296, us1.set (i + k) ((c + (xs.getD i default * ys.getD k default + us1.getD (i + k) default)) % 4294967296)⟩, ⟨rfl, rfl, rfl, rfl, congrArg some (by rw [List.length_set]), rfl, rfl, rfl, rfl, rfl, rfl, rfl, rfl, rfl, trivial⟩, ⟨g0, g1 om (g1 om rfl), trivial⟩, ⟨om, by rw [List.length_set]; exact hl1, hd1.set _ (Nat.mod_lt _ (by decide)), om, mul_step hv1 om, ?_⟩, by show ys.length - (k + 1) < ys.length - k; omega⟩
  intro j hj
  rw [lgetD_set om]; exact hz1 j om
 refine Rg 3 rfl <| WO.S (oBx rfl rfl) rfl <| WO.S (oBx rfl rfl) rfl <| WO.S (oAl rfl) rfl <| Wn <| WC.assoc <| Rg 8 rfl <| WO.U (oFaP rfl rfl rfl rfl rfl) rfl <| WO.U (oLdP rfl rfl rfl rfl rfl) rfl <| WO.U (oNilE rfl rfl) rfl <| WO.B (fun h19 => ?_) (fun h19 => ?_)
 rotate_left
 ·refine Um rfl rfl <| K1 rfl rfl <| K1 rfl rfl <| K1 rfl rfl <| WO.U (oPkF rfl rfl) rfl <| Wn <| WC.cF rfl <| WC.skips <| Ck [2,3,4] rfl ?_
  exact J5 _ om
 refine Um rfl rfl <| WO.Ug rfl (oFaP rfl rfl rfl rfl rfl) rfl <| WO.Ug rfl (oLdP rfl rfl rfl rfl rfl) rfl <| WO.Ug rfl (oNilE rfl rfl) rfl <| WO.B (fun h23 => ?_) (fun h23 => ?_)
 rotate_left
 ·refine WO.U (oPkT rfl rfl) rfl <| Wn <| WC.cF rfl <| WC.skips <| Ck [2,3,4] rfl ?_
  exact J5 _ om
 refine WO.U (oPkT rfl rfl) rfl <| Wn <| WC.cT rfl <| WC.assoc ?_
 have hia := ia_small (ik_eq.1 h19)
 have hiw := ia_small (ik_eq.1 h23)
 refine Rg 20 rfl <| WO.U (oFaP rfl rfl rfl rfl rfl) rfl <| WO.U (oLdP rfl rfl rfl rfl rfl) rfl <| WO.U (oFaP rfl rfl rfl rfl rfl) rfl <| WO.U (oLdP rfl rfl rfl rfl rfl) rfl <| WO.U (oNeg64 rfl om) rfl <| WO.U (cI (((v.natAbs : Nat) : Int)) (oMax rfl rfl) (by rw [hia]; split <;> omega)) rfl <| WO.U (cI (((v.natAbs : Nat) : Int)) (oCnv rfl rfl rfl) (by rw [IntKind.wrap_u64]; omega)) rfl <| WO.U (oFaP rfl rfl rfl rfl rfl) rfl <| WO.U (oLdP rfl rfl rfl rfl rfl) rfl <| WO.U (oFaP rfl rfl rfl rfl rfl) rfl <| WO.U (oLdP rfl rfl rfl rfl rfl) rfl <| WO.U (oNeg64 rfl om) rfl <| WO.U (cI (((w.natAbs : Nat) : Int)) (oMax rfl rfl) (by rw [hiw]; split <;> omega)) rfl <| WO.U (cI (((w.natAbs : Nat) : Int)) (oCnv rfl rfl rfl) (by rw [IntKind.wrap_u64]; omega)) rfl <| WO.U (oCall rfl (mul64_run v.natAbs w.natAbs om om) (by simp)) rfl <| Um rfl rfl <| WO.U (oEx rfl rfl) rfl <| WO.U (oEx rfl rfl) rfl <| Ua rfl rfl <| Ua rfl rfl <| Nk [2,3,4,5,6] rfl <| WC.assoc ?_
 refine Rg 6 rfl <| Um rfl rfl <| WO.U (oEql rfl rfl) rfl <| WO.D (fun h44 => ?_) (fun h44 => ?_)
 rotate_left
 ·refine Um rfl rfl <| K1 rfl rfl <| K1 rfl rfl <| WO.U (oPkF rfl rfl) rfl <| Wn <| WC.cF rfl <| WC.skips <| Ck [2,3,4] rfl ?_
  exact J5 _ om
 refine Um rfl rfl <| WO.Ug rfl (oMv rfl) rfl <| WO.Ug rfl (oLss rfl rfl) rfl <| WO.D (fun h47 => ?_) (fun h47 => ?_)
 rotate_left
 ·refine WO.U (oPkT rfl rfl) rfl <| Wn <| WC.cF rfl <| WC.skips <| Ck [2,3,4] rfl ?_
  exact J5 _ om
 refine WO.U (oPkT rfl rfl) rfl <| Wn <| WC.cT rfl <| WC.assoc <| WC.draw (z := 10) rfl (by kernel_rfl) <| WD.U (oLdP (l := .agg [_, _]) rfl rfl rfl rfl rfl) rfl <| WD.U (oCall rfl (sign_run _) (by simp)) rfl <| WD.U (oLdP (l := .agg [_, _]) rfl rfl rfl rfl rfl) rfl <| WD.U (oCall rfl (sign_run _) (by simp)) rfl <| WD.U (cI σ (oMul64 rfl rfl (by rw [← hσ]; omega)) hσ.symm) rfl <| Dm rfl rfl <| WD.U (cI (((v.natAbs * w.natAbs : Nat) : Int)) (oCnv rfl rfl rfl) (by rw [IntWalk.i64_in _ om]; omega)) rfl <| WD.U (oMul64 rfl rfl (by rcases hs3 with h | h | ⟨h, _⟩ <;> rw [h] <;> omega)) rfl <| WD.U (oBd (cs := [_, _]) rfl rfl rfl rfl rfl) rfl <| WD.S0 (oSt (cs' := [_, _]) rfl rfl rfl rfl rfl rfl rfl rfl) <| WD.nil (drawOk_of (by kernel_rfl)) rfl <| Ck [4] rfl <| WC.rets <| post (n := 0) (.inr rfl) rfl ?_ (by simp)
 rw [evw, lvI_small (by unfold small; rcases hs3 with h | h | ⟨h, _⟩ <;> rw [h] <;> omega)]; rfl
end Go.Proofs.YthpnlndhebcngaaGreat
set_option linter.unusedVariables false
set_option linter.unusedSimpArgs false
set_option maxRecDepth 100000
namespace Go.Proofs.YthpnlndhebcngaaGreat
open Go.Ab Go.RowKit
theorem div32_run (hi lo y : Nat) (hh : hi < y) (hl : lo < 4294967296) (hy : y < 4294967296) : Run Tryz.prog T E0 (.call 144 [.v (.int .u32 (hi : Int)), .v (.int .u32 (lo : Int)), .v (.int .u32 (y : Int))] (.tup [.v (.int .u32 (((hi * 4294967296 + lo) / y : Nat) : Int)), .v (.int .u32 (((hi * 4294967296 + lo) % y : Nat) : Int))])) := by
 have hq : (hi * 4294967296 + lo) / y < 4294967296 := by
  rw [Nat.div_lt_iff_lt_mul om]; have := Nat.mul_le_mul_left 4294967296 (show hi + 1 ≤ y from hh); omega
 have hr : (hi * 4294967296 + lo) % y < y := Nat.mod_lt _ om
 obtain ⟨Q, hQ⟩ : ∃ Q, Q = (hi * 4294967296 + lo) / y := ⟨_, rfl⟩
 obtain ⟨R, hR⟩ : ∃ R, R = (hi * 4294967296 + lo) % y := ⟨_, rfl⟩
 rw [← hQ] at hq
 rw [← hR] at hr
 refine mkcall Tryz.func144 rfl rfl (Nat.le_of_ble_eq_true rfl) <| Rg 2 rfl <| Ua rfl rfl <| Ua rfl rfl <| Wn <| WC.assoc <| Rg 7 rfl <| Um rfl rfl <| WO.U (oNeq rfl rfl) rfl <| WO.D (fun h10 => ?_) (fun h10 => ?_)
 rotate_left
 ·omega
 refine Um rfl rfl <| WO.Ug rfl (oMv rfl) rfl <| WO.Ug rfl (oMv rfl) rfl <| WO.Ug rfl (oLeq rfl rfl) rfl <| WO.D (fun h14 => ?_) (fun h14 => ?_)
 ·omega
 refine WO.U (oPkT rfl rfl) rfl <| Wn <| WC.cF rfl <| WC.skips <| Rg 7 rfl <| Um rfl rfl <| WO.U (cI ((hi : Int)) (oCnv rfl rfl rfl) (by rw [IntKind.wrap_u64]; omega)) rfl <| WO.U (cI (((hi * 4294967296 : Nat) : Int)) (oShlU (s := 32) rfl rfl om) om) rfl <| Um rfl rfl <| WO.U (cI ((lo : Int)) (oCnv rfl rfl rfl) (by rw [IntKind.wrap_u64]; omega)) rfl <| WO.U (oBin (v := .int .u64 (((hi * 4294967296 + lo) : Nat) : Int)) rfl rfl (or_hi om hl)) rfl <| Ua rfl rfl <| Nk [2,8] rfl <| WC.draw (z := 12) rfl (by kernel_rfl) <| Dm rfl rfl <| Dm rfl rfl <| WD.U (cI ((y : Int)) (oCnv rfl rfl rfl) (by rw [IntKind.wrap_u64]; omega)) rfl <| WD.U (cI ((Q : Int)) (oQuoU rfl rfl om om) (by rw [hQ])) rfl <| WD.U (cI ((Q : Int)) (oCnv rfl rfl rfl) (by rw [IntKind.wrap_u32]; omega)) rfl <| Dm rfl rfl <| Dm rfl rfl <| WD.U (cI ((y : Int)) (oCnv rfl rfl rfl) (by rw [IntKind.wrap_u64]; omega)) rfl <| WD.U (cI ((R : Int)) (oRemU rfl rfl om) (by rw [hR])) rfl ?_
 refine WD.U (cI ((R : Int)) (oCnv rfl rfl rfl) (by rw [IntKind.wrap_u32]; omega)) rfl <| WD.U (oAs rfl) rfl <| WD.U (oAs rfl) rfl <| WD.nil (drawOk_of (by kernel_rfl)) rfl <| WC.ret ?_
 exact post (n := 0) (.inr rfl) rfl (by rw [← hQ, ← hR]; rfl) (by simp)
theorem short_run (k0 : Nat) (xs : List Nat) (y : Nat) (hx : Dg B32 xs) (hy : 0 < y) (hy2 : y < 4294967296) (lx : xs.length < 1099511627776) : ∃ r, Run Tryz.prog T E0 (.call 136 [.sl k0 (xs.map d32), .v (.int .u32 (y : Int))] r) ∧ ∃ ds rest, r = .tup [.sl 1 (ds.map d32), .v (.int .u32 ((rest : Nat) : Int))] ∧ Dg B32 ds ∧ rest < y ∧ val B32 ds * y + rest = val B32 xs ∧ ds.length = xs.length := by
 refine mkcallE Tryz.func136 rfl rfl (Nat.le_of_ble_eq_true rfl) <| Rg 2 rfl <| Ua rfl rfl <| Ua rfl rfl <| Wn <| Rg 4 rfl <| Um rfl rfl <| WO.U (oLenM rfl rfl) rfl <| WO.S (oMk (a := xs.length) (b := xs.length) rfl rfl rfl rfl om om (by decide) om (by show 4 * xs.length ≤ _; omega) om) rfl <| Ua rfl rfl <| Wn <| Rg 1 rfl <| Ua rfl rfl <| Wn <| WC.assoc <| Rg 4 rfl <| Um rfl rfl <| WO.U (oLenM rfl rfl) rfl <| WO.U (oSub64 rfl rfl om) rfl <| Ua rfl rfl <| Wn <| WC.block <| WC.loopV (α := Nat × Nat × (List Nat)) (fun ⟨k, rest, us⟩ => [(0, .sl k0 (xs.map d32)), (1, .v (.int .u32 (y : Int))), (6, .ref (0 + 2 + 2) 1 0 us.length), (7, .v (.int .u32 (rest : Int))), (8, .v (.int .i64 ((k : Int) - 1)))]) (fun ⟨k, rest, us⟩ => [(0 + 2 + 2, { cells := (us.map d32).flatten, sz := 1, elem := 145, st := 0 })]) (fun ⟨k, rest, us⟩ n => k ≤ xs.length ∧ us.length = xs.length ∧ Dg B32 us ∧ rest < y ∧ val B32 (us.drop k) * y + rest = val B32 (xs.drop k)) (fun ⟨k, rest, us⟩ => k) (xs.length, 0, List.replicate xs.length 0) ⟨rfl, rfl, congrArg some (by rw [List.length_replicate]; rfl), rfl, rfl, trivial⟩ ⟨g0.trans (by rw [List.map_replicate]; rfl), trivial⟩ ⟨Nat.le_refl _, by simp, by intro d hd; simp at hd; rw [hd.2]; decide, hy, by simp [val]⟩ ?_
 rintro ⟨k, rest, us⟩ n hF
 change WC _ _ _ _ _ (_ :: _) (_ :: _) n _
 obtain ⟨hk, hul, hud, hrest, huv⟩ := hF
 refine WC.assoc <| Rg 2 rfl <| Um rfl rfl <| WO.U (oGeq rfl rfl) rfl <| WO.D (fun h16 => ?_) (fun h16 => ?_)
 rotate_left
 ·refine Wn <| WC.cF rfl <| WC.exits <| loopR_exit <| after_exit rfl <| Rg 4 rfl <| Um rfl rfl <| Um rfl rfl <| Ua rfl rfl <| Ua rfl rfl <| Wn <| WC.ret <| ⟨.tup [.sl 1 (us.map d32), .v (.int .u32 (rest : Int))], ⟨us, rest, rfl, hud, hrest, ?_, hul⟩, postA (n := 0) [(0 + 2 + 2, { cells := (us.map d32).flatten, sz := 1, elem := 145, st := 1 })] (.inr rfl) rfl (.own _ (by simp) rfl (by show (0 : Nat) ≠ 2; decide) rfl (by decide) (by simp [keys]) rfl rows_d32 data_rows_d32 (.data (by simp) .nil)) (by intro p hp; simp at hp; subst hp; exact ⟨_, rfl, by show (0 : Nat) ≠ 2; decide, rfl⟩)⟩
  have h0 : k = 0 := by omega
  subst h0
  simpa using huv
 refine Wn <| WC.cT rfl <| WC.skips <| WC.block ?_
 have hxl : xs.getD (k - 1) default < 4294967296 := getD_lt hx om
 have hq : (rest * 4294967296 + xs.getD (k - 1) default) / y < 4294967296 := by
  rw [Nat.div_lt_iff_lt_mul hy]; have := Nat.mul_le_mul_left 4294967296 (show rest + 1 ≤ y from hrest); omega
 refine WC.reg1z (z := 15) rfl <| Um rfl rfl <| Um rfl rfl <| Um rfl rfl <| Um rfl rfl <| Um rfl rfl <| WO.U (oIxM (j := k - 1) rfl rfl rfl rfl om om rfl) rfl <| WO.U (oLd rfl rfl rfl) rfl <| Um rfl rfl <| WO.U (oCall rfl (div32_run rest (xs.getD (k - 1) default) y hrest hxl hy2) (by simp)) rfl <| Um rfl rfl <| WO.U (oEx rfl rfl) rfl <| WO.U (oEx rfl rfl) rfl <| WO.U (oIxR (j := k - 1) rfl rfl rfl rfl om om rfl) rfl <| WO.S0 (oStO (f := d32) (us := us) ((rest * 4294967296 + xs.getD (k - 1) default) / y) rfl rfl rfl g0 (fun _ => rfl) rfl rfl om rfl) <| Ua rfl rfl <| Wn <| after_normal <| Ck [0,1,6,7,8] rfl <| WC.reg1z (z := 3) rfl <| Um rfl rfl <| WO.U (cI (((k - 1 : Nat) : Int) - 1) (oSub64 rfl rfl om) om) rfl <| Ua rfl rfl <| WO.nil ?_
 refine loopR_normal ?_
 have hj : k - 1 + 1 = k := by omega
 refine ⟨⟨k - 1, (rest * 4294967296 + xs.getD (k - 1) default) % y, us.set (k - 1) ((rest * 4294967296 + xs.getD (k - 1) default) / y)⟩, ⟨rfl, rfl, congrArg some (by rw [List.length_set]), rfl, rfl, trivial⟩, ⟨g0, trivial⟩, ⟨om, by rw [List.length_set]; exact hul, hud.set _ hq, Nat.mod_lt _ hy, ?_⟩, by show k - 1 < k; omega⟩
 exact short_step hy (by rw [hj]; exact huv) om om
end Go.Proofs.YthpnlndhebcngaaGreat
set_option linter.unusedVariables false
set_option linter.unusedSimpArgs false
set_option maxRecDepth 100000
namespace Go.Proofs.YthpnlndhebcngaaGreat
open Go.Ab Go.RowKit
theorem shifted_run (k0 : Nat) (xs : List Nat) (sh : Nat) (hx : Dg B32 xs) (hn : sh < 32) (lx : xs.length < 1099511627776) : ∃ sz len ob, Run Tryz.prog T E0 (.callO 146 [.sl k0 (xs.map d32), .v (.int .i64 (sh : Int))] (.ref 0 sz 0 len) ob) ∧ ∃ ds, sz = 1 ∧ len = ds.length ∧ ob = { cells := (ds.map d32).flatten, sz := 1, elem := 145, st := 0 } ∧ Dg B32 ds ∧ val B32 ds = val B32 xs * 2 ^ sh ∧ ds.length = xs.length + 1 := by
 have hp : (2 : Nat) ^ sh ≤ 2 ^ 31 := Nat.pow_le_pow_right (by decide) om
 have hp0 : 0 < (2 : Nat) ^ sh := Nat.pow_pos (by decide)
 refine mkcallO Tryz.func146 rfl rfl (Nat.le_of_ble_eq_true rfl) <| Rg 1 rfl <| Ua rfl rfl <| Wn <| Rg 5 rfl <| Um rfl rfl <| WO.U (oLenM rfl rfl) rfl <| WO.U (oAdd64 rfl rfl om) rfl <| WO.S (oMk (a := xs.length + 1) (b := xs.length + 1) rfl rfl rfl rfl om om (by decide) om (by show 4 * (xs.length + 1) ≤ _; omega) om) rfl <| Ua rfl rfl <| Wn <| WC.assoc <| Rg 3 rfl <| Um rfl rfl <| WO.U (oLenM rfl rfl) rfl <| Um rfl rfl <| Wn <| WC.block <| WC.loopV (α := Nat × (List Nat)) (fun ⟨i, us⟩ => [(1, .v (.int .i64 (sh : Int))), (5, .ref (0 + 1 + 3) 1 0 us.length), (13, .sl k0 (xs.map d32)), (14, .v (.int .i64 (xs.length : Int))), (15, .v (.int .i64 (i : Int)))]) (fun ⟨i, us⟩ => [(0 + 1 + 3, { cells := (us.map d32).flatten, sz := 1, elem := 145, st := 0 })]) (fun ⟨i, us⟩ n => i ≤ xs.length ∧ us.length = xs.length + 1 ∧ Dg B32 us ∧ val B32 us = val B32 (xs.take i) * 2 ^ sh ∧ (∀ j, i < j → us.getD j default = 0) ∧ us.getD i default < 2 ^ sh) (fun ⟨i, us⟩ => xs.length - i) (0, List.replicate (xs.length + 1) 0) ⟨rfl, congrArg some (by rw [List.length_replicate]; rfl), rfl, rfl, rfl, trivial⟩ ⟨g0.trans (by rw [List.map_replicate]; rfl), trivial⟩ ⟨Nat.zero_le _, by simp, by intro d hd; simp at hd; rw [hd]; decide, by rw [val_zeros]; simp [val], fun j _ => getD_zeros _ _, by rw [getD_zeros]; exact hp0⟩ ?_
 rintro ⟨i, us⟩ n hF
 change WC _ _ _ _ _ (_ :: _) (_ :: _) n _
 obtain ⟨hi, hul, hud, huv, huz, hlo⟩ := hF
 refine Rg 1 rfl <| WO.U (oLss rfl rfl) rfl <| WO.D (fun h16 => ?_) (fun h16 => ?_)
 rotate_left
 ·refine Wn <| WC.cF rfl <| WC.exits <| loopR_exit <| after_exit rfl <| Rg 2 rfl <| Um rfl rfl <| Ua rfl rfl <| Wn <| WC.ret <| ⟨1, us.length, _, ⟨us, rfl, rfl, rfl, hud, ?_, hul⟩, .inr rfl, _, rfl, rfl, rfl, rfl, by intro c hc; obtain ⟨row, hr, hc⟩ := List.mem_flatten.1 hc; exact data_rows_d32 row hr c hc⟩
  rw [huv, List.take_of_length_le om]
 refine Wn <| WC.cT rfl <| WC.skips <| WC.block <| Rg 5 rfl <| Um rfl rfl <| WO.U (oIxM rfl rfl rfl rfl rfl om rfl) rfl <| WO.U (oLd rfl rfl rfl) rfl <| Ua rfl rfl <| Ua rfl rfl <| WO.nil ?_
 have hxl : xs.getD i default < 4294967296 := getD_lt hx om
 have hw : (xs.getD i default * 2 ^ sh) < 9223372036854775808 := by
  have := Nat.mul_lt_mul_of_lt_of_le hxl hp (by decide); omega
 have hor := shift_or hn hlo hxl
 have hhi := shift_hi (n := sh) hxl
 have hol : us.getD i default < 4294967296 := by omega
 refine Rg 5 rfl <| Um rfl rfl <| WO.U (cI ((xs.getD i default : Int)) (oCnv rfl rfl rfl) (by rw [IntKind.wrap_u64]; omega)) rfl <| Um rfl rfl <| WO.U (cI ((((xs.getD i default * 2 ^ sh) : Nat) : Int)) (oShlU (s := sh) rfl rfl om) (by rw [show ((xs.getD i default : Nat) : Int) * 2 ^ sh = (((xs.getD i default * 2 ^ sh) : Nat) : Int) by simp]; omega)) rfl <| Ua rfl rfl <| Nk [1,5,6,8,13,14,15] rfl <| Rg 9 rfl <| Um rfl rfl <| Um rfl rfl <| WO.U (oIxR rfl rfl rfl rfl rfl om rfl) rfl <| WO.U (oLdO (f := d32) (us := us) (j := i) rfl rfl g0 (fun _ => rfl) rfl (by decide) om rfl) rfl <| Um rfl rfl <| WO.U (cI ((((xs.getD i default * 2 ^ sh) % 4294967296 : Nat) : Int)) (oCnv rfl rfl rfl) (by rw [IntKind.wrap_u32]; omega)) rfl <| WO.U (oBin (v := .int .u32 (((us.getD i default + (xs.getD i default * 2 ^ sh) % 4294967296) : Nat) : Int)) rfl rfl ((or32 hol om).trans (by rw [hor.1]))) rfl <| WO.U (oIxR rfl rfl rfl rfl rfl om rfl) rfl <| WO.S0 (oStO (f := d32) (us := us) (us.getD i default + (xs.getD i default * 2 ^ sh) % 4294967296) rfl rfl rfl g0 (fun _ => rfl) rfl rfl om rfl) <| Nk [1,5,6,8,13,14,15] rfl <| WC.reg1z (z := 8) rfl <| Um rfl rfl <| Um rfl rfl <| WO.U (cI (((i + 1 : Nat) : Int)) (oAdd64 rfl rfl om) om) rfl ?_
 refine Um rfl rfl <| WO.U (cI ((((xs.getD i default * 2 ^ sh) / 4294967296 : Nat) : Int)) (oShrU (s := 32) rfl rfl om) om) rfl <| WO.U (cI ((((xs.getD i default * 2 ^ sh) / 4294967296 : Nat) : Int)) (oCnv rfl rfl rfl) (by rw [IntKind.wrap_u32]; omega)) rfl <| WO.U (oIxR rfl rfl rfl rfl rfl om rfl) rfl <| WO.S0 (oStO (f := d32) (us := us.set i (us.getD i default + (xs.getD i default * 2 ^ sh) % 4294967296)) ((xs.getD i default * 2 ^ sh) / 4294967296) rfl rfl rfl g0 (fun _ => rfl) rfl rfl (by rw [List.length_set]; omega) rfl) <| Wn <| after_normal <| WC.reg1z (z := 2) rfl <| WO.U (cI (((i + 1 : Nat) : Int)) (oAdd64 rfl rfl om) om) rfl <| Um rfl rfl <| Wn <| loopR_normal <| ⟨⟨i + 1, (us.set i (us.getD i default + (xs.getD i default * 2 ^ sh) % 4294967296)).set (i + 1) ((xs.getD i default * 2 ^ sh) / 4294967296)⟩, ⟨rfl, congrArg some (by rw [List.length_set, List.length_set]), rfl, rfl, rfl, trivial⟩, ⟨g0, trivial⟩, ⟨om, by rw [List.length_set, List.length_set]; exact hul, (hud.set _ hor.2).set _ (by show _ < 4294967296; omega), shift_step (by decide) huv om (huz _ om), ?_, ?_⟩, by show xs.length - (i + 1) < xs.length - i; omega⟩
 ·intro j hj
  rw [lgetD_set om, lgetD_set om]; exact huz j om
 ·have : ((us.set i (us.getD i default + (xs.getD i default * 2 ^ sh) % 4294967296)).set (i + 1) ((xs.getD i default * 2 ^ sh) / 4294967296)).getD (i + 1) default = (xs.getD i default * 2 ^ sh) / 4294967296 := by
   rw [List.getD_eq_getElem?_getD, List.getElem?_set_self (by simp; omega)]; rfl
  rw [this]; exact hhi
theorem len32_run (x : Nat) (hx : x < 4294967296) : Run Tryz.prog T E0 (.call 147 [.v (.int .u32 (x : Int))] (.v (.int .i64 ((blen x : Nat) : Int)))) := by
 refine mkcall Tryz.func147 rfl rfl (Nat.le_of_ble_eq_true rfl) ?_
 have J7 : ∀ (y k : Nat) (hy : y < 256) (hk : k ≤ 24) (he : blen x = blen y + k) (n : Nat) , WC Tryz.prog T E0 Tryz.f147.ntmps (codeR (codeR (codeR (codeOf Tryz.f147)))) [(0, .v (.int .u32 (y : Int))), (2, .v (.int .i64 (k : Int)))] [] n (Post T Tryz.f147.results.toList (.v (.int .i64 ((blen x : Nat) : Int)))) := by
  intro y k hy hk he n
  have hyb := blen_le (n := 8) hy
  refine Rg 7 rfl <| Um rfl rfl <| Um rfl rfl <| WO.U (cI ((y : Int)) (oCnv rfl rfl rfl) (by rw [IntKind.wrap_u8]; omega)) rfl <| WO.U (cI (((blen y : Nat) : Int)) (oIxS (bs := tab8) (n := (y : Int)) rfl (by kernel_rfl) rfl om (tab8_get hy)) (congrArg Int.ofNat (tab8_val hy))) rfl <| WO.U (cI (((blen y : Nat) : Int)) (oCnv rfl rfl rfl) (by rw [IntWalk.i64_in _ om])) rfl <| WO.U (oAdd64 rfl rfl om) rfl <| Ua rfl rfl <| Wn <| WC.ret ?_
  exact post (n := 0) (.inr rfl) rfl (congrArg (fun z => LV.v (.int .i64 z)) om) (by simp)
 refine Rg 1 rfl <| Ua rfl rfl <| Wn <| WC.assoc <| Rg 2 rfl <| Um rfl rfl <| WO.U (oGeq rfl rfl) rfl <| WO.D (fun h4 => ?_) (fun h4 => ?_)
 rotate_left
 ·refine Wn <| WC.cF rfl <| WC.skips <| WC.assoc <| Rg 2 rfl <| Um rfl rfl <| WO.U (oGeq rfl rfl) rfl <| WO.D (fun h8 => ?_) (fun h8 => ?_)
  rotate_left
  ·refine Wn <| WC.cF rfl <| WC.skips <| Ck [0,2] rfl ?_
   first | exact J7 (x / 65536) 16 om om (blen_div (x := x) (k := 16) om) _ | exact J7 x 0 om om rfl _
  refine Wn <| WC.cT rfl <| WC.assoc <| Rg 3 rfl <| Um rfl rfl <| WO.U (cI (((x / 256 : Nat) : Int)) (oShr32 (s := 8) rfl rfl om) om) rfl <| Ua rfl rfl <| Wn <| Rg 3 rfl <| Um rfl rfl <| WO.U (oAdd64 rfl rfl om) rfl <| Ua rfl rfl <| Nk [0,2] rfl ?_
  first | exact J7 (x / 65536 / 256) 24 om om (by rw [blen_div (x := x) (k := 16) om, blen_div (x := x / 2 ^ 16) (k := 8) om]) _ | exact J7 (x / 256) 8 om om (blen_div (x := x) (k := 8) om) _
 refine Wn <| WC.cT rfl <| WC.assoc <| Rg 3 rfl <| Um rfl rfl <| WO.U (cI (((x / 65536 : Nat) : Int)) (oShr32 (s := 16) rfl rfl om) om) rfl <| Ua rfl rfl <| Wn <| Rg 1 rfl <| Ua rfl rfl <| Wn <| WC.assoc <| Rg 2 rfl <| Um rfl rfl <| WO.U (oGeq rfl rfl) rfl <| WO.D (fun h8 => ?_) (fun h8 => ?_)
 rotate_left
 ·refine Wn <| WC.cF rfl <| WC.skips <| Ck [0,2] rfl ?_
  first | exact J7 (x / 65536) 16 om om (blen_div (x := x) (k := 16) om) _ | exact J7 x 0 om om rfl _
 refine Wn <| WC.cT rfl <| WC.assoc <| Rg 3 rfl <| Um rfl rfl <| WO.U (cI (((x / 65536 / 256 : Nat) : Int)) (oShr32 (s := 8) rfl rfl om) om) rfl <| Ua rfl rfl <| Wn <| Rg 3 rfl <| Um rfl rfl <| WO.U (oAdd64 rfl rfl om) rfl <| Ua rfl rfl <| Nk [0,2] rfl ?_
 first | exact J7 (x / 65536 / 256) 24 om om (by rw [blen_div (x := x) (k := 16) om, blen_div (x := x / 2 ^ 16) (k := 8) om]) _ | exact J7 (x / 256) 8 om om (blen_div (x := x) (k := 8) om) _
theorem zeros32_run (x : Nat) (hx : x < 4294967296) : Run Tryz.prog T E0 (.call 145 [.v (.int .u32 (x : Int))] (.v (.int .i64 ((32 - blen x : Nat) : Int)))) := by
 have hb := blen_le (n := 32) hx
 refine mkcall Tryz.func145 rfl rfl (Nat.le_of_ble_eq_true rfl) <| Rg 1 rfl <| Ua rfl rfl <| Wn <| Rg 4 rfl <| Um rfl rfl <| WO.U (oCall rfl (len32_run x hx) (by simp)) rfl <| WO.U (oSub64 rfl rfl om) rfl <| Ua rfl rfl <| Wn <| WC.ret ?_
 exact post (n := 0) (.inr rfl) rfl (congrArg (fun z => LV.v (.int .i64 z)) om) (by simp)
end Go.Proofs.YthpnlndhebcngaaGreat
