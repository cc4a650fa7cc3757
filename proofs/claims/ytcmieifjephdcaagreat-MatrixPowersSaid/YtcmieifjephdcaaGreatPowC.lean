/- Part C of the proof of matrixPowers_holds: what it rests on. No condition. -/
import Derived.Test.YtcmieifjephdcaaGreatPowB
import Derived.Test.YtcmieifjephdcaaGreatProg
set_option linter.unusedVariables false
set_option linter.unusedSimpArgs false
namespace Go.Ab
open Go.RowKit
def dotn (a b : List Rat) : Nat → Rat
  | 0 => 0
  | i + 1 => dotn a b i + a.getD i default * b.getD i default
def dotR (a b : List Rat) : Rat := dotn a b a.length
theorem dotn_skip {a b : List Rat} {i : Nat} (h : a.getD i default = 0 ∨ b.getD i default = 0) : dotn a b (i + 1) = dotn a b i := by
  rw [dotn]
  rcases h with h | h <;> rw [h]
  · rw [Rat.zero_mul, Rat.add_zero]
  · rw [Rat.mul_zero, Rat.add_zero]
theorem dotn_bd {a b : List Rat} {n m : Nat} (ha : ∀ x, x ∈ a → Bd n x) (hb : ∀ x, x ∈ b → Bd m x) (hl : a.length ≤ b.length) : ∀ i, i ≤ a.length → Bd (1 + i * (n + m + 1)) (dotn a b i)
  | 0, _ => Bd0 (by omega)
  | i + 1, hi => by
    rw [dotn]
    refine ((dotn_bd ha hb hl i (by omega)).add ((ha _ (getD_mem (by omega))).mul (hb _ (getD_mem (by omega))))).mono ?_
    rw [Nat.succ_mul]; omega
def colR (B : List (List Rat)) (k : Nat) : List Rat := B.map fun s => s.getD k default
def prodR (A B : List (List Rat)) (w : Nat) : List (List Rat) := A.map fun r => (List.range w).map fun k => dotR r (colR B k)
def appR (A : List (List Rat)) (x : List Rat) : List Rat := A.map fun r => dotR r x
theorem bd_mul {i l c : Nat} (h : i ≤ l) : i * c ≤ l * c := Nat.mul_le_mul_right c h
section
variable {P : Program} {T : TT} {E : TypeId → Bool} {N : Nat} {e : Env} {h : Hp} {K : Env → Hp → Prop}
variable {dst : Option Tmp} {ty : TypeId} {pos : String} {af : Array Edge} {g : Option (Nat × Bool)} {id : Nat}
theorem Fz.same (a : Env) (b : Hp) (hs : subs a e) (hb : Hp.le b h) (k : K a b) : Fz N e h K := fun s m hf hm => by
  have hb' : FitsM b m := fun t l hg => hm t l (hb t l hg)
  refine ⟨s, m, [], by intro p hp; simp at hp, ⟨rfl, fun i l l' hl hl' => .inl ?_⟩, fun r => ?_, a, b, hf.weak hs, hb', k⟩
  · rw [hl] at hl'; exact (Option.some.inj hl').symm
  · cases hr : m r with
    | none => exact .inl ⟨hr, rfl⟩
    | some o => exact .inr ⟨o, o.cells, hr, rfl, rfl, fun i c c2 hc hc2 => .inl (by rw [hc] at hc2; exact (Option.some.inj hc2).symm)⟩
theorem Fz.env {q sz el t : Nat} {us : List (List LV)} (a : Env) (hs : subs a e) (ht : e.get t = some (outV q sz us)) (hq : us ≠ [] → ∀ r o, getH h r = some o → r ≠ q) (h0 : 0 < sz) (hl : ∀ row, row ∈ us → row.length = sz) (hd : ∀ row, row ∈ us → ∀ c, c ∈ row → Data c)
    (k : K ((t, .sl (kd us.length) us) :: a) h) : Fz N e (outH q sz el us h) K := by
  cases us with
  | nil => exact Fz.same ((t, .sl 0 []) :: a) h ⟨ht, hs⟩ (fun _ _ h => h) k
  | cons u us =>
    refine Fz.one (u :: us) ((t, .sl 1 (u :: us)) :: a) h (ob := { cells := (u :: us).flatten, sz := sz, elem := el, st := 0 }) g0 (by show (0 : Nat) ≠ 2; decide) rfl h0 rfl hl hd (fun t' l2 h2 => ?_) (fun r o2 hr => ?_) k
    · by_cases e1 : t = t'
      · subst e1
        have h3 : (Env.get ((t, LV.sl 1 (u :: us)) :: a) t) = some (LV.sl 1 (u :: us)) := by simp [Env.get]
        rw [h3] at h2; cases h2
        exact ⟨_, ht, .inr ⟨rfl, rfl⟩⟩
      · have h3 : (Env.get ((t, LV.sl 1 (u :: us)) :: a) t') = Env.get a t' := by
          have e3 : Nat.beq t t' = false := Bool.eq_false_iff.2 fun h => e1 (Nat.eq_of_beq_eq_true h)
          simp [Env.get, e3]
        rw [h3] at h2
        exact ⟨l2, hs.get t' l2 h2, .inl rfl⟩
    · have hne := hq (by simp) r o2 hr
      exact ⟨hne, o2, (g1 (Ne.symm hne) rfl).trans hr, rfl, rfl, fun i c c2 hc hc2 => .inl (by rw [hc] at hc2; exact (Option.some.inj hc2).symm)⟩
def one1 (l : LV) : List LV := [l]
theorem flat_one (cs : List LV) : (cs.map one1).flatten = cs := by
  induction cs with
  | nil => rfl
  | cons c cs ih => simp [one1] at ih ⊢; exact ih
theorem Fz.cell {q sz el el2 C z j : Nat} {us : List (List LV)} {cs : List LV} (a : Env) (hs : subs a e) (hj : j < cs.length) (hc : cs.getD j default = outV q sz us) (hqC : q ≠ C) (h0 : 0 < sz) (hl : ∀ row, row ∈ us → row.length = sz) (hd : ∀ row, row ∈ us → ∀ c, c ∈ row → Data c)
    (k : K a [(C, { cells := ((cs.set j (outR us)).map one1).flatten, sz := z, elem := el2, st := 0 })]) : Fz N e (outH q sz el us [(C, { cells := (cs.map one1).flatten, sz := z, elem := el2, st := 0 })]) K := by
  have hc' : cs[j]? = some (outV q sz us) := by
    rw [List.getElem?_eq_getElem hj]
    simpa [List.getD_eq_getElem?_getD, List.getElem?_eq_getElem hj] using hc
  rw [flat_one] at k ⊢
  cases us with
  | nil =>
    have : cs.set j (outR []) = cs := by
      refine List.ext_getElem? fun i => ?_
      rw [List.getElem?_set]
      by_cases e1 : j = i
      · subst e1; rw [if_pos rfl, if_pos hj, hc']; rfl
      · rw [if_neg e1]
    rw [this] at k
    exact Fz.same a _ hs (fun _ _ h => h) k
  | cons u us =>
    refine Fz.one (u :: us) a _ (ob := { cells := (u :: us).flatten, sz := sz, elem := el, st := 0 }) g0 (by show (0 : Nat) ≠ 2; decide) rfl h0 rfl hl hd (fun t' l2 h2 => ⟨l2, hs.get t' l2 h2, .inl rfl⟩) (fun r o2 hr => ?_) k
    by_cases e1 : C = r
    · subst e1
      rw [g0] at hr; cases hr
      refine ⟨Ne.symm hqC, _, g1 hqC g0, rfl, by simp, fun i c c2 h1 h2 => ?_⟩
      simp only [List.getElem?_set] at h2
      by_cases e2 : j = i
      · subst e2
        rw [if_pos rfl, if_pos hj] at h2; cases h2
        have h1 : cs[j]? = some c := h1
        rw [hc'] at h1; cases h1
        exact .inr ⟨rfl, rfl⟩
      · rw [if_neg e2] at h2
        have h1 : cs[i]? = some c := h1
        rw [h1] at h2; exact .inl (Option.some.inj h2).symm
    · rw [g1 e1 rfl] at hr; simp [getH] at hr
end
theorem outH_dom {q sz el C r : Nat} {us : List (List LV)} {o o' : Ob} (hr : getH (outH q sz el us [(C, o)]) r = some o') : r = q ∨ r = C := by
  by_cases h1 : q = r
  · exact .inl h1.symm
  · rw [outH_get h1 rfl] at hr
    by_cases h2 : C = r
    · exact .inr h2.symm
    · rw [g1 h2 rfl] at hr; simp [getH] at hr
theorem subsM_oo {a b c sa sb ea eb : Nat} {us vs : List (List LV)} {o : Ob} (h1 : a ≠ b) (h2 : a ≠ c) (h3 : b ≠ c) : subsM (outH a sa ea us (outH b sb eb vs [(c, o)])) (outH a sa ea us (outH b sb eb vs [(c, o)])) := by
  cases us <;> cases vs
  · exact ⟨g0, trivial⟩
  · exact ⟨g0, g1 h3 g0, trivial⟩
  · exact ⟨g0, g1 h2 g0, trivial⟩
  · exact ⟨g0, g1 h1 g0, g1 h2 (g1 h3 g0), trivial⟩
def wdx (bl : List X1) : Nat := if bl.length = 0 then 0 else (bl.getD 0 default).2.length
def xcol (bl : List X1) (j : Nat) : List X := bl.map fun r => r.2.getD j default
theorem xcol_v (bl : List X1) (j : Nat) : (xcol bl j).map (·.1) = colR (vX bl) j := by
  unfold xcol colR vX
  rw [List.map_map, List.map_map]
  refine List.map_congr_left fun r _ => ?_
  simp only [Function.comp]
  rw [gmap_getD (f := fun x : X => x.1) rfl]
theorem xcol_len (bl : List X1) (j : Nat) : (xcol bl j).length = bl.length := by simp [xcol]
theorem xcol_get {bl : List X1} {i j : Nat} (hi : i < bl.length) : (xcol bl j).getD i default = (bl.getD i default).2.getD j default := mapD (f := fun r : X1 => r.2.getD j default) hi
theorem vX_app (a b : List X1) : vX (a ++ b) = vX a ++ vX b := by simp [vX]
def mulO (a b : List M1) : Option (List (List NM)) := (prodR (vM a) (vM b) (wd b)).mapM fun r => r.mapM outN
def mulOk (a b : List M1) : Bool := VM a && VM b && !(decide (0 < a.length) && decide (wd a ≠ b.length))
def mul1 (a b : List M1) : List M1 := if mulOk a b = true then ((mulO a b).getD []).map kM else []
def mule (a b : List M1) : Int := if (VM a && VM b) = false then 1 else if 0 < a.length ∧ wd a ≠ b.length then 2 else if (mulO a b).isSome = true then 0 else 3
def lvMul (a b : List M1) : LV := .tup [.sl (kd (mul1 a b).length) ((mul1 a b).map fM), .v (.int .i64 (mule a b))]
instance {a b : List M1} : DC (lvMul a b) := ⟨.tup _ (by intro c hc; simp only [List.mem_cons, List.not_mem_nil, or_false] at hc; rcases hc with rfl | rfl; exact dsl dfM _ _; exact .v _)⟩
def appO (a : List M1) (x : List NM) : Option (List NM) := (appR (vM a) (x.map nq)).mapM outN
def appOk (a : List M1) (x : List NM) : Bool := VM a && VV x && !(decide (0 < a.length) && decide (wd a ≠ x.length))
def app1 (a : List M1) (x : List NM) : List NM := if appOk a x = true then (appO a x).getD [] else []
def appe (a : List M1) (x : List NM) : Int := if (VM a && VV x) = false then 1 else if 0 < a.length ∧ wd a ≠ x.length then 2 else if (appO a x).isSome = true then 0 else 3
def lvApp (a : List M1) (x : List NM) : LV := .tup [.sl (kd (app1 a x).length) ((app1 a x).map mc), .v (.int .i64 (appe a x))]
instance {a : List M1} {x : List NM} : DC (lvApp a x) := ⟨.tup _ (by intro c hc; simp only [List.mem_cons, List.not_mem_nil, or_false] at hc; rcases hc with rfl | rfl; exact dsl dmc _ _; exact .v _)⟩
theorem subsM_q {a q sz el : Nat} {us : List (List LV)} {o : Ob} {H : Hp} (ha : getH H a = some o) (hq : us ≠ [] → getH H q = some { cells := us.flatten, sz := sz, elem := el, st := 0 }) : subsM ((a, o) :: outH q sz el us []) H := by
  cases us
  · exact ⟨ha, trivial⟩
  · exact ⟨ha, hq (by simp), trivial⟩
theorem qo_some {us : List (Option Rat)} {w : Nat} {xs : List Rat} (hl : us.length = w) (hx : xs.length = w) (h : ∀ c, c < w → us.getD c default = some (xs.getD c default)) : (us.map qo).flatten = (xs.map qc).flatten := by
  have : us = xs.map some := by
    refine List.ext_getElem (by simp [hl, hx]) fun i h1 h2 => ?_
    have := h i (by omega)
    simpa [List.getD_eq_getElem?_getD, List.getElem?_eq_getElem h1, List.getElem?_eq_getElem (show i < xs.length by omega)] using this
  rw [this, List.map_map]; rfl
theorem prodR_len (A B : List (List Rat)) (w : Nat) : (prodR A B w).length = A.length := by simp [prodR]
end Go.Ab
set_option linter.unusedVariables false
set_option linter.unusedSimpArgs false
namespace Go.Ab
open Go.RowKit
section
variable {P : Program} {T : TT} {E : TypeId → Bool}
variable {dst : Option Tmp} {ty : TypeId} {pos : String} {af : Array Edge} {g : Option (Nat × Bool)} {id : Nat} {e : Env} {h : Hp}
end
theorem Hp_dup {a : Nat} {o o' : Ob} {h : Hp} : Hp.le ((a, o) :: h) ((a, o) :: (a, o') :: h) := by
  intro t x ht
  by_cases e : a = t
  · subst e; rw [g0] at ht ⊢; exact ht
  · rw [g1 e rfl] at ht; rw [g1 e rfl, g1 e rfl]; exact ht
def uR (n i : Nat) : List Rat := (List.replicate n 0).set i 1
def uX (n i : Nat) : List X := (List.replicate n x0).set i (xint 1)
def wU (A : List (List Rat)) : List (List Rat) := (List.range A.length).map fun i => A.getD i default ++ uR A.length i
theorem uX_v (n i : Nat) : (uX n i).map (·.1) = uR n i := by unfold uX uR; rw [List.map_set, List.map_replicate]; rfl
theorem uX_len (n i : Nat) : (uX n i).length = n := by simp [uX]
theorem uR_len (n i : Nat) : (uR n i).length = n := by simp [uR]
structure Low (A : List (List Rat)) (k : Nat) (R : List (List Rat)) : Prop where
  len : R.length = A.length
  led : (gjn A k).2.length = k
  row : ∀ j, k ≤ j → j < A.length → R.getD j default = (gjn A k).1.getD j default
theorem Low.init (A : List (List Rat)) : Low A 0 A := ⟨rfl, rfl, fun _ _ _ => rfl⟩
theorem Low.ent {A R : List (List Rat)} {k j : Nat} (h : Low A k R) (hk : k ≤ j) (hj : j < A.length) (c : Nat) : Ab.ent R j c = Ab.ent (gjn A k).1 j c := by
  unfold Ab.ent; rw [h.row j hk hj]
theorem Low.pivot {A R : List (List Rat)} {k a : Nat} (h : Low A k R) (h1 : k ≤ a) (h2 : a ≤ A.length) (h3 : ∀ i, k ≤ i → i < a → Ab.ent R i k = 0) (h4 : a = A.length ∨ Ab.ent R a k ≠ 0) : Ab.pivot (gjn A k).1 (gjn A k).2.length k = a := by
  rw [h.led]
  refine pivot_eq h1 (by rw [gjn_len]; exact h2) (fun i hi hia => by rw [← h.ent hi (by omega)]; exact h3 i hi hia) ?_
  rcases h4 with h4 | h4
  · left; rw [gjn_len]; exact h4
  · by_cases e : a = A.length
    · left; rw [gjn_len]; exact e
    · right; rw [← h.ent h1 (by omega)]; exact h4
theorem rank_le (A : List (List Rat)) (k : Nat) : ∀ m, (gjn A (k + m)).2.length ≤ (gjn A k).2.length + m
  | 0 => Nat.le_refl _
  | m + 1 => by
    have := rank_le A k m
    rw [← Nat.add_assoc, gjn, gjs]
    split
    · omega
    · simp; omega
theorem Low.none {A R : List (List Rat)} {k n : Nat} (h : Low A k R) (hk : k < n) (hp : Ab.pivot (gjn A k).1 (gjn A k).2.length k = A.length) : (gjn A n).2.length < n := by
  have h1 : gjn A (k + 1) = gjn A k := by rw [gjn, gjs, gjn_len, if_pos hp]
  have h2 := rank_le A (k + 1) (n - (k + 1))
  rw [h1, h.led, show k + 1 + (n - (k + 1)) = n by omega] at h2
  omega
theorem rsc_rsc (a b : Rat) (x : List Rat) : rsc a (rsc b x) = rsc (a * b) x := by
  unfold rsc
  rw [List.map_map]
  exact List.map_congr_left fun y _ => (Rat.mul_assoc a b y).symm
theorem rad_zero (x y : List Rat) : rad x (rsc 0 y) = x := by
  refine list_eq (rad_len _ _) fun i hi => ?_
  rw [rad_len] at hi
  rw [rad_getD hi, rsc_getD, Rat.zero_mul, Rat.add_zero]
theorem Low.step {A R R2 R3 : List (List Rat)} {k a : Nat} (h : Low A k R) (ha : k ≤ a) (haA : a < A.length) (hp : Ab.pivot (gjn A k).1 (gjn A k).2.length k = a) (h2 : R2 = sw R a k) (hl3 : R3.length = A.length)
    (h3 : ∀ j, k < j → j < A.length → R3.getD j default = rad (R2.getD j default) (rsc (-(Ab.ent R2 j k / Ab.ent R2 k k)) (R2.getD k default))) : Low A (k + 1) R3 := by
  have hS : gjn A (k + 1) = (elim (mid (gjn A k).1 a k k) k k, (gjn A k).2 ++ [k]) := by rw [gjn, gjs, gjn_len, if_neg (by omega), hp, h.led]
  have hsw : ∀ j, k ≤ j → j < A.length → R2.getD j default = (sw (gjn A k).1 a k).getD j default := by
    intro j hj hjA
    subst h2
    unfold sw
    rw [gset_getD (by rw [List.length_set, h.len]; omega), gset_getD (by rw [h.len]; omega), gset_getD (by rw [List.length_set, gjn_len]; omega), gset_getD (by rw [gjn_len]; omega), h.row j hj hjA, h.row a ha haA, h.row k (Nat.le_refl _) (by omega)]
  refine ⟨hl3, by rw [hS]; simp [h.led], fun j hj hjA => ?_⟩
  rw [h3 j (by omega) hjA, hS]
  rw [elim_getD (by rw [mid_len, gjn_len]; exact hjA)]
  have hmj : (mid (gjn A k).1 a k k).getD j default = R2.getD j default := by
    unfold mid; rw [gset_getD (by rw [sw_len, gjn_len]; exact hjA), if_neg (by omega), hsw j (by omega) hjA]
  have hmk : (mid (gjn A k).1 a k k).getD k default = rsc (1 / Ab.ent R2 k k) (R2.getD k default) := by
    unfold mid; rw [gset_getD (by rw [sw_len, gjn_len]; omega), if_pos rfl]
    unfold Ab.ent; rw [hsw k (Nat.le_refl _) (by omega)]
  have hej : Ab.ent (mid (gjn A k).1 a k k) j k = Ab.ent R2 j k := by unfold Ab.ent; rw [hmj]
  unfold elr
  rw [hej, hmj, hmk]
  by_cases h0 : Ab.ent R2 j k = 0
  · rw [if_neg (by rintro ⟨_, h1⟩; exact h1 h0), h0, Rat.div_def, Rat.zero_mul, Rat.neg_zero, rad_zero]
  · rw [if_pos ⟨by omega, h0⟩, rsc_rsc]
    congr 2
    rw [Rat.neg_mul, Rat.div_def, Rat.div_def, Rat.one_mul]
def detV (a : List M1) : Rat := if (gjn (vM a) a.length).2.length < a.length then 0 else gjd (vM a) a.length
def sqb (a : List M1) : Bool := decide (a.length = 0) || decide (wd a = a.length)
def detn (a : List M1) : NM := if (VM a && sqb a) = true then (outN (detV a)).getD (0, 0) else (0, 0)
def dete (a : List M1) : Int := if VM a = false then 1 else if sqb a = false then 2 else if (outN (detV a)).isSome = true then 0 else 3
def lvDet (a : List M1) : LV := .tup [lvM (detn a), .v (.int .i64 (dete a))]
instance {a : List M1} : DC (lvDet a) := ⟨.tup _ (by intro c hc; simp only [List.mem_cons, List.not_mem_nil, or_false] at hc; rcases hc with rfl | rfl; exact data_lvM _; exact .v _)⟩
def invS (a : List M1) : GS := gjn (wU (vM a)) a.length
def invO (a : List M1) : Option (List (List NM)) := ((invS a).1.map fun r => r.drop a.length).mapM fun r => r.mapM outN
def invOk (a : List M1) : Bool := VM a && sqb a && !decide ((invS a).2.length < a.length)
def inv1 (a : List M1) : List M1 := if invOk a = true then ((invO a).getD []).map kM else []
def inve (a : List M1) : Int := if VM a = false then 1 else if sqb a = false then 2 else if (invS a).2.length < a.length then 5 else if (invO a).isSome = true then 0 else 3
def lvInv (a : List M1) : LV := .tup [.sl (kd (inv1 a).length) ((inv1 a).map fM), .v (.int .i64 (inve a))]
instance {a : List M1} : DC (lvInv a) := ⟨.tup _ (by intro c hc; simp only [List.mem_cons, List.not_mem_nil, or_false] at hc; rcases hc with rfl | rfl; exact dsl dfM _ _; exact .v _)⟩
theorem sqb_wd {a : List M1} (h : sqb a = true) : wd a = a.length := by
  unfold sqb at h
  rw [Bool.or_eq_true] at h
  rcases h with h | h
  · have := of_decide_eq_true h
    unfold wd; rw [if_pos this, this]
  · exact of_decide_eq_true h
theorem unit_cells {us : List (Option Rat)} {m i j : Nat} (hl : us.length = m) (hj : ¬ (j : Int) < m) (hus : ∀ c, c < j → us.getD c default = some 0) : ∀ c, c < m → (us.set i (some 1)).getD c default = some ((uR m i).getD c default) := by
  intro c hc
  unfold uR
  rw [gset_getD (by omega), gset_getD (by simp; omega)]
  by_cases e : i = c
  · rw [if_pos e, if_pos e]
  · rw [if_neg e, if_neg e, hus c (by omega)]; simp [List.getD_eq_getElem?_getD, hc]
end Go.Ab
set_option linter.unusedVariables false
set_option linter.unusedSimpArgs false
namespace Go.Ab
open Go.RowKit
def lst (R : List (List Rat)) (k i : Nat) : List Rat := rad (R.getD i default) (rsc (-(ent R i k / ent R k k)) (R.getD k default))
structure LowJ (r1 : List Q1) (k j : Nat) (r2 : List Q1) : Prop where
  len : r2.length = r1.length
  st : ∀ i, k < i → i < j → (vQ r2).getD i default = lst (vQ r1) k i
  eq : ∀ i, i ≤ k ∨ j ≤ i → r2.getD i default = r1.getD i default
theorem LowJ.init (r1 : List Q1) (k : Nat) : LowJ r1 k (k + 1) r1 := ⟨rfl, fun i h1 h2 => by omega, fun _ _ => rfl⟩
theorem LowJ.next {r1 r2 : List Q1} {k j : Nat} (h : LowJ r1 k j r2) (hk : k < j) (hj : j < r1.length) (x : Nat) : LowJ r1 k (j + 1) (r2.set j (x, rad (r2.getD j default).2 (rsc (-((r2.getD j default).2.getD k default / (r2.getD k default).2.getD k default)) (r2.getD k default).2))) := by
  have hl := h.len
  refine ⟨by rw [List.length_set, h.len], fun i h1 h2 => ?_, fun i hi => ?_⟩
  · rw [vQ_getD, gset_getD (by omega)]
    by_cases e : j = i
    · subst e
      rw [if_pos rfl, h.eq j (.inr (Nat.le_refl _)), h.eq k (.inl (Nat.le_refl _))]
      unfold lst
      rw [← vQ_getD, ← vQ_getD]; rfl
    · rw [if_neg e, ← vQ_getD]; exact h.st i h1 (by omega)
  · rw [← h.eq i (by omega)]
    exact getDs_ne (by omega)
end Go.Ab
set_option linter.unusedVariables false
set_option linter.unusedSimpArgs false
namespace Go.Ab
open Go.RowKit
def sm (f : Nat → Rat) : Nat → Rat
  | 0 => 0
  | i + 1 => sm f i + f i
theorem sm_congr {f g : Nat → Rat} : ∀ n, (∀ i, i < n → f i = g i) → sm f n = sm g n
  | 0, _ => rfl
  | n + 1, h => by rw [sm, sm, sm_congr n (fun i hi => h i (by omega)), h n (by omega)]
theorem sm_zero : ∀ n, sm (fun _ => 0) n = 0
  | 0 => rfl
  | n + 1 => by rw [sm, sm_zero n, Rat.add_zero]
theorem sm_add (f g : Nat → Rat) : ∀ n, sm (fun i => f i + g i) n = sm f n + sm g n
  | 0 => (Rat.add_zero 0).symm
  | n + 1 => by
    rw [sm, sm, sm, sm_add f g n, Rat.add_assoc, Rat.add_assoc]
    congr 1
    rw [← Rat.add_assoc, ← Rat.add_assoc, Rat.add_comm (sm g n)]
theorem sm_mulr (f : Nat → Rat) (c : Rat) : ∀ n, sm f n * c = sm (fun i => f i * c) n
  | 0 => Rat.zero_mul c
  | n + 1 => by rw [sm, sm, Rat.add_mul, sm_mulr f c n]
theorem sm_mull (f : Nat → Rat) (c : Rat) : ∀ n, c * sm f n = sm (fun i => c * f i) n
  | 0 => Rat.mul_zero c
  | n + 1 => by rw [sm, sm, Rat.mul_add, sm_mull f c n]
theorem sm_swap (f : Nat → Nat → Rat) (m : Nat) : ∀ n, sm (fun i => sm (f i) m) n = sm (fun j => sm (fun i => f i j) n) m
  | 0 => (sm_zero m).symm
  | n + 1 => by
    rw [sm, sm_swap f m n, ← sm_add]
    exact sm_congr m fun j _ => rfl
theorem dotn_sm (a b : List Rat) : ∀ i, dotn a b i = sm (fun t => a.getD t default * b.getD t default) i
  | 0 => rfl
  | i + 1 => by rw [dotn, sm, dotn_sm a b i]
theorem dotR_sm (a b : List Rat) : dotR a b = sm (fun t => a.getD t default * b.getD t default) a.length := dotn_sm a b _
theorem colR_getD (Y : List (List Rat)) (k i : Nat) : (colR Y k).getD i default = (Y.getD i default).getD k default := gmap_getD (f := fun s : List Rat => s.getD k default) rfl _ _
theorem prodR_assoc {X Y Z : List (List Rat)} {p : Nat} (w : Nat) (hX : Wid Y.length X) (hY : Wid p Y) : prodR (prodR X Y p) Z w = prodR X (prodR Y Z w) w := by
  unfold prodR
  rw [List.map_map]
  refine List.map_congr_left fun r hr => ?_
  refine List.map_congr_left fun j hj => ?_
  have hj := List.mem_range.1 hj
  show dotR ((List.range p).map fun k => dotR r (colR Y k)) (colR Z j) = dotR r (colR (Y.map fun r => (List.range w).map fun k => dotR r (colR Z k)) j)
  rw [dotR_sm, dotR_sm, List.length_map, List.length_range, hX r hr]
  have h1 : ∀ t, t < p → ((List.range p).map fun k => dotR r (colR Y k)).getD t default * (colR Z j).getD t default = sm (fun i => r.getD i default * (Y.getD i default).getD t default * (Z.getD t default).getD j default) Y.length := by
    intro t ht
    rw [range_getD ht, dotR_sm, sm_mulr, hX r hr, colR_getD]
    exact sm_congr _ fun i _ => by rw [colR_getD]
  have h2 : ∀ i, i < Y.length → r.getD i default * (colR (Y.map fun r => (List.range w).map fun k => dotR r (colR Z k)) j).getD i default = sm (fun t => r.getD i default * (Y.getD i default).getD t default * (Z.getD t default).getD j default) p := by
    intro i hi
    rw [colR_getD, mapD (f := fun r => (List.range w).map fun k => dotR r (colR Z k)) hi, range_getD hj, dotR_sm, sm_mull, hY _ (getD_mem hi)]
    exact sm_congr _ fun t _ => by rw [colR_getD, Rat.mul_assoc]
  rw [sm_congr _ h1, sm_congr _ h2, sm_swap]
def unitR (n : Nat) : List (List Rat) := (List.range n).map (uR n)
def pw (A : List (List Rat)) (n : Nat) : Nat → List (List Rat)
  | 0 => unitR n
  | k + 1 => prodR (pw A n k) A n
def sqm (A : List (List Rat)) (n : Nat) : Nat → List (List Rat)
  | 0 => A
  | i + 1 => prodR (sqm A n i) (sqm A n i) n
theorem prodR_wid (X Y : List (List Rat)) (w : Nat) : Wid w (prodR X Y w) := by
  intro r hr
  obtain ⟨s, _, rfl⟩ := List.mem_map.1 hr
  simp
theorem pw_len (A : List (List Rat)) (n : Nat) : ∀ k, (pw A n k).length = n
  | 0 => by simp [pw, unitR]
  | k + 1 => by rw [pw, prodR_len, pw_len A n k]
theorem pw_wid (A : List (List Rat)) (n : Nat) : ∀ k, Wid n (pw A n k)
  | 0 => by
    intro r hr
    obtain ⟨i, _, rfl⟩ := List.mem_map.1 hr
    exact uR_len n i
  | k + 1 => prodR_wid _ _ _
theorem sqm_len {A : List (List Rat)} {n : Nat} (h : A.length = n) : ∀ i, (sqm A n i).length = n
  | 0 => h
  | i + 1 => by rw [sqm, prodR_len, sqm_len h i]
theorem sqm_wid {A : List (List Rat)} {n : Nat} (h : Wid n A) : ∀ i, Wid n (sqm A n i)
  | 0 => h
  | i + 1 => prodR_wid _ _ _
theorem pw_sq {A : List (List Rat)} {n : Nat} (hl : A.length = n) (hw : Wid n A) : ∀ i m, prodR (pw A n m) (sqm A n i) n = pw A n (m + 2 ^ i)
  | 0, m => rfl
  | i + 1, m => by
    rw [sqm, ← prodR_assoc (p := n) n (by rw [sqm_len hl]; exact pw_wid A n m) (sqm_wid hw i), pw_sq hl hw i m, pw_sq hl hw i, Nat.pow_succ]
    congr 1; omega
def QB (D C s k : Nat) (x : Rat) : Prop := ∃ z : Int, x * ((D : Rat) ^ k) = (z : Rat) ∧ z.natAbs * 8 ≤ s * C ^ k
def QBL (D C s k : Nat) (R : List (List Rat)) : Prop := ∀ r, r ∈ R → ∀ x, x ∈ r → QB D C s k x
theorem rpow_add (D : Rat) (k : Nat) : ∀ l, D ^ (k + l) = D ^ k * D ^ l
  | 0 => by rw [Nat.add_zero, Rat.pow_zero, Rat.mul_one]
  | l + 1 => by rw [← Nat.add_assoc, Rat.pow_succ, rpow_add D k l, Rat.pow_succ, Rat.mul_assoc]
theorem QB.dot {D C s k l : Nat} {a b : List Rat} (ha : ∀ x, x ∈ a → QB D C s k x) (hb : ∀ x, x ∈ b → QB D C 1 l x) (hl : a.length ≤ b.length) : ∀ i, i ≤ a.length → ∃ z : Int, dotn a b i * (D : Rat) ^ (k + l) = (z : Rat) ∧ z.natAbs * 64 ≤ i * (s * C ^ (k + l))
  | 0, _ => ⟨0, by rw [dotn, Rat.zero_mul]; rfl, by simp⟩
  | i + 1, hi => by
    obtain ⟨z, h1, h2⟩ := QB.dot ha hb hl i (by omega)
    obtain ⟨p, h3, h4⟩ := ha _ (getD_mem (us := a) (i := i) (by omega))
    obtain ⟨q, h5, h6⟩ := hb _ (getD_mem (us := b) (i := i) (by omega))
    refine ⟨z + p * q, ?_, ?_⟩
    · rw [dotn, Rat.add_mul, h1, rpow_add, Rat.intCast_add, Rat.intCast_mul, ← h3, ← h5]
      congr 1
      rw [Rat.mul_assoc, Rat.mul_assoc]
      congr 1
      rw [← Rat.mul_assoc, ← Rat.mul_assoc, Rat.mul_comm (b.getD i default)]
    · have h7 := Int.natAbs_add_le z (p * q)
      rw [Int.natAbs_mul] at h7
      have h8 : (p.natAbs * 8) * (q.natAbs * 8) ≤ (s * C ^ k) * (1 * C ^ l) := Nat.mul_le_mul h4 h6
      have h9 : (p.natAbs * 8) * (q.natAbs * 8) = p.natAbs * q.natAbs * 64 := by
        rw [Nat.mul_mul_mul_comm]
      have h10 : (s * C ^ k) * (1 * C ^ l) = s * C ^ (k + l) := by rw [Nat.one_mul, Nat.pow_add, Nat.mul_assoc]
      rw [h9, h10] at h8
      rw [Nat.succ_mul]
      omega
theorem QBL.prod {D C s k l w : Nat} {A B : List (List Rat)} (hA : QBL D C s k A) (hB : QBL D C 1 l B) (hw : Wid B.length A) (hb : Wid w B) (h8 : B.length ≤ 8) : QBL D C s (k + l) (prodR A B w) := by
  intro r hr x hx
  obtain ⟨t, ht, rfl⟩ := List.mem_map.1 hr
  obtain ⟨j, hj, rfl⟩ := List.mem_map.1 hx
  have hj := List.mem_range.1 hj
  have htl := hw t ht
  have hcl : (colR B j).length = B.length := by simp [colR]
  obtain ⟨z, h1, h2⟩ := QB.dot (D := D) (C := C) (s := s) (k := k) (l := l) (a := t) (b := colR B j) (hA t ht) (fun y hy => by
    obtain ⟨u, hu, rfl⟩ := List.mem_map.1 hy
    exact hB u hu _ (getD_mem (by rw [hb u hu]; exact hj))) (by omega) t.length (Nat.le_refl _)
  refine ⟨z, h1, ?_⟩
  have : t.length * (s * C ^ (k + l)) ≤ 8 * (s * C ^ (k + l)) := Nat.mul_le_mul_right _ (by omega)
  omega
theorem QB.bd {D C s k d : Nat} {x : Rat} (h : QB D C s k x) (hD : 0 < D) (hDb : D ≤ 4294967296 ^ d) (hC : C ≤ 4294967296 ^ d) (hs : s ≤ 8) : Bd (d * k + 1) x := by
  obtain ⟨z, h1, h2⟩ := h
  have hDk : 0 < D ^ k := Nat.pow_pos hD
  have hcast : (((D ^ k : Nat) : Int) : Rat) = (D : Rat) ^ k := by rw [Rat.intCast_natCast, Rat.natCast_pow]
  have hne : (((D ^ k : Nat) : Int) : Rat) ≠ 0 := by
    intro h0
    have : ((D ^ k : Nat) : Int) = 0 := by exact_mod_cast h0
    omega
  have hx : x = Rat.divInt z ((D ^ k : Nat) : Int) := by
    rw [Rat.divInt_eq_div, ← h1, ← hcast, Rat.mul_div_cancel hne]
  have hpos : 0 < 4294967296 ^ (d * k) := Nat.pow_pos (by decide)
  have e1 : 4294967296 ^ (d * k + 1) = 4294967296 ^ (d * k) * 4294967296 := Nat.pow_succ ..
  have e2 : D ^ k ≤ 4294967296 ^ (d * k) := by rw [Nat.pow_mul]; exact Nat.pow_le_pow_left hDb k
  have e3 : C ^ k ≤ 4294967296 ^ (d * k) := by rw [Nat.pow_mul]; exact Nat.pow_le_pow_left hC k
  have e4 : s * C ^ k ≤ 8 * C ^ k := Nat.mul_le_mul_right _ hs
  rw [hx]
  refine Bd.raw (by omega) (len32_of (by omega)) (len32_of ?_)
  rw [Int.natAbs_natCast]; omega
def dd : List Rat → Nat
  | [] => 1
  | x :: l => x.den * dd l
theorem dd_pos : ∀ l, 0 < dd l
  | [] => by decide
  | x :: l => Nat.mul_pos x.den_pos (dd_pos l)
theorem dd_dvd {x : Rat} : ∀ {l : List Rat}, x ∈ l → x.den ∣ dd l
  | y :: l, h => by
    rcases List.mem_cons.1 h with rfl | h
    · exact ⟨dd l, rfl⟩
    · exact Nat.dvd_trans (dd_dvd h) ⟨y.den, Nat.mul_comm _ _⟩
theorem dd_le {b : Nat} : ∀ {l : List Rat}, (∀ x, x ∈ l → x.den ≤ b) → dd l ≤ b ^ l.length
  | [], _ => Nat.le_refl _
  | y :: l, h => by
    rw [dd, List.length_cons, Nat.pow_succ, Nat.mul_comm]
    exact Nat.mul_le_mul (dd_le fun x hx => h x (by simp [hx])) (h y (by simp))
theorem flat_len {w : Nat} : ∀ {A : List (List Rat)}, Wid w A → A.flatten.length = A.length * w
  | [], _ => by simp
  | r :: A, h => by
    rw [List.flatten_cons, List.length_append, flat_len (fun s hs => h s (by simp [hs])), h r (by simp), List.length_cons, Nat.succ_mul]; omega
theorem Bd.abs {n : Nat} {x : Rat} (h : Bd n x) : x.num.natAbs < 4294967296 ^ n ∧ x.den < 4294967296 ^ n := by
  have h1 := lt_len32 x.num
  have h2 := lt_len32 (x.den : Int)
  rw [Int.natAbs_natCast] at h2
  exact ⟨Nat.lt_of_lt_of_le h1 (Nat.pow_le_pow_right (by decide) h.1), Nat.lt_of_lt_of_le h2 (Nat.pow_le_pow_right (by decide) h.2)⟩
theorem QBL.base {A : List (List Rat)} {n : Nat} (h : BdL 2 A) (hw : Wid n A) (hl : A.length = n) (h8 : n ≤ 8) : ∃ D C, 0 < D ∧ D ≤ 4294967296 ^ 131 ∧ C ≤ 4294967296 ^ 131 ∧ QBL D C 1 1 A := by
  have hfl : ∀ x, x ∈ A.flatten → Bd 2 x := fun x hx => by
    obtain ⟨r, hr, hx⟩ := List.mem_flatten.1 hx
    exact h r hr x hx
  have hlen : A.flatten.length ≤ 64 := by
    rw [flat_len hw, hl]; exact Nat.mul_le_mul h8 h8
  have hD : dd A.flatten ≤ 4294967296 ^ 128 := by
    refine Nat.le_trans (dd_le (b := 4294967296 ^ 2) fun x hx => Nat.le_of_lt (hfl x hx).abs.2) ?_
    rw [← Nat.pow_mul]
    exact Nat.pow_le_pow_right (by decide) (by omega)
  refine ⟨dd A.flatten, 8 * (4294967296 ^ 2 * dd A.flatten), dd_pos _, Nat.le_trans hD (Nat.pow_le_pow_right (by decide) (by decide)), ?_, ?_⟩
  · have e : 4294967296 ^ 131 = 4294967296 * (4294967296 ^ 2 * 4294967296 ^ 128) := by decide +kernel
    rw [e]
    exact Nat.mul_le_mul (by decide) (Nat.mul_le_mul_left _ hD)
  · intro r hr x hx
    have hxf := List.mem_flatten.2 ⟨r, hr, hx⟩
    obtain ⟨q, hq⟩ := dd_dvd hxf
    have hb := (hfl x hxf).abs.1
    have hdq : q ≤ dd A.flatten := by
      have := x.den_pos
      rw [hq]; exact Nat.le_mul_of_pos_left q this
    have hxd : x * (x.den : Rat) = (x.num : Rat) := by
      have h1 : x = (x.num : Rat) / ((x.den : Int) : Rat) := by rw [← Rat.divInt_eq_div, Rat.num_divInt_den]
      have h2 : ((x.den : Int) : Rat) ≠ 0 := by
        intro h0
        have : (x.den : Int) = 0 := by exact_mod_cast h0
        have := x.den_pos
        omega
      rw [← Rat.intCast_natCast]
      conv => lhs; lhs; rw [h1]
      exact Rat.div_mul_cancel h2
    refine ⟨x.num * (q : Int), ?_, ?_⟩
    · rw [Rat.pow_succ, Rat.pow_zero, Rat.one_mul, hq, Rat.natCast_mul, ← Rat.mul_assoc, hxd, Rat.intCast_mul, Rat.intCast_natCast]
    · rw [Int.natAbs_mul, Int.natAbs_natCast, Nat.pow_one, Nat.one_mul, Nat.mul_comm _ 8]
      exact Nat.mul_le_mul_left 8 (Nat.mul_le_mul (Nat.le_of_lt hb) hdq)
theorem QBL.pw {D C n : Nat} {A : List (List Rat)} (h : QBL D C 1 1 A) (hl : A.length = n) (hw : Wid n A) (h8 : n ≤ 8) : ∀ k, QBL D C 8 k (pw A n k)
  | 0 => by
    intro r hr x hx
    obtain ⟨i, _, rfl⟩ := List.mem_map.1 hr
    rcases List.mem_or_eq_of_mem_set hx with h | h
    · rw [(List.mem_replicate.1 h).2]
      exact ⟨0, Rat.zero_mul _, by simp⟩
    · rw [h]
      exact ⟨1, by rw [Rat.pow_zero, Rat.one_mul]; rfl, by simp⟩
  | k + 1 => QBL.prod (QBL.pw h hl hw h8 k) h (by rw [hl]; exact pw_wid A n k) hw (by omega)
theorem QBL.sq {D C n : Nat} {A : List (List Rat)} (h : QBL D C 1 1 A) (hl : A.length = n) (hw : Wid n A) (h8 : n ≤ 8) : ∀ i, QBL D C 1 (2 ^ i) (sqm A n i)
  | 0 => h
  | i + 1 => by
    have h1 := QBL.sq h hl hw h8 i
    rw [Nat.pow_succ, show 2 ^ i * 2 = 2 ^ i + 2 ^ i by omega]
    exact h1.prod h1 (by rw [sqm_len hl]; exact sqm_wid hw i) (sqm_wid hw i) (by rw [sqm_len hl]; exact h8)
theorem pw_bd {n : Nat} {A : List (List Rat)} (h : BdL 2 A) (hl : A.length = n) (hw : Wid n A) (h8 : n ≤ 8) : (∀ k, k ≤ 1000 → BdL 131001 (pw A n k)) ∧ ∀ i, i ≤ 9 → BdL 131001 (sqm A n i) := by
  obtain ⟨D, C, h1, h2, h3, h4⟩ := QBL.base h hw hl h8
  refine ⟨fun k hk r hr x hx => ((QBL.pw h4 hl hw h8 k r hr x hx).bd h1 h2 h3 (by decide)).mono (by omega), fun i hi r hr x hx => ((QBL.sq h4 hl hw h8 i r hr x hx).bd h1 h2 h3 (by decide)).mono ?_⟩
  have : 2 ^ i ≤ 2 ^ 9 := Nat.pow_le_pow_right (by decide) hi
  omega
end Go.Ab
set_option linter.unusedVariables false
set_option linter.unusedSimpArgs false
namespace Go.Ab
open Go.RowKit
section
variable {P : Program} {T : TT} {E : TypeId → Bool} {dst : Option Tmp} {ty : TypeId} {pos : String} {af : Array Edge} {g : Option (Nat × Bool)} {id : Nat} {e : Env} {h : Hp} {x y : Operand} {bt yt : TypeId}
theorem and1I {m : Nat} (hm : m < 9223372036854775808) : intBin .and .i64 (m : Int) 1 = some (.int .i64 ((m % 2 : Nat) : Int)) := by
  show some (Value.int .i64 (IntKind.i64.wrap ((BitVec.ofInt 64 (m : Int) &&& BitVec.ofInt 64 ((1 : Nat) : Int)).toNat : Int))) = _
  rw [ofInt_nat, ofInt_nat, BitVec.toNat_and, BitVec.toNat_ofNat, BitVec.toNat_ofNat, Nat.mod_eq_of_lt (show m < 2 ^ 64 by omega), Nat.mod_eq_of_lt (show 1 < 2 ^ 64 by decide), Nat.and_one_is_mod, IntWalk.i64_in _ (by omega)]
theorem oShrI {m s : Nat} {k' : IntKind} (hx : evE e x = some (.v (.int .i64 (m : Int)))) (hy : evE e y = some (.v (.int k' (s : Int)))) (hs : s ≤ 64) : OP P T E ⟨dst, .binOp .shr bt x y yt, ty, pos, af, g⟩ id e h (.v (.int .i64 ((m / 2 ^ s : Nat) : Int))) [] [] := oShift hx hy (.inr rfl) (by
  have h1 : ¬ ((s : Int) < 0) := by omega
  have h2 : min (s : Int).toNat IntKind.i64.bits = s := by simp [IntKind.bits]; omega
  simp only [shiftBin, if_neg h1, h2]
  rw [Int.fdiv_eq_ediv_of_nonneg _ (Int.pow_nonneg (by decide))]
  congr 2)
end
theorem mod_step (n i : Nat) : n % 2 ^ (i + 1) = n % 2 ^ i + 2 ^ i * (n / 2 ^ i % 2) := Nat.mod_pow_succ
theorem more_bits {n i : Nat} (h : i + 1 < blen n) : 0 < n / 2 ^ (i + 1) := by
  have h0 : n ≠ 0 := by rintro rfl; simp [blen] at h
  have h1 := (blen_bounds h0).1
  have h2 : 2 ^ (i + 1) ≤ 2 ^ (blen n - 1) := Nat.pow_le_pow_right (by decide) (by omega)
  exact Nat.div_pos (Nat.le_trans h2 h1) (Nat.pow_pos (by decide))
theorem blen_lt (n : Nat) : n < 2 ^ blen n := by
  by_cases h : n = 0
  · subst h; decide
  · exact (blen_bounds h).2
def powO (a : List M1) (n : Int) : Option (List (List NM)) := (pw (vM a) a.length n.toNat).mapM fun r => r.mapM outN
def powOk (a : List M1) (n : Int) : Bool := VM a && sqb a && (decide (0 ≤ n) && decide (n ≤ 1000))
def pow1 (a : List M1) (n : Int) : List M1 := if powOk a n = true then ((powO a n).getD []).map kM else []
def powe (a : List M1) (n : Int) : Int := if VM a = false then 1 else if sqb a = false then 2 else if (decide (0 ≤ n) && decide (n ≤ 1000)) = false then 6 else if (powO a n).isSome = true then 0 else 3
def lvPow (a : List M1) (n : Int) : LV := .tup [.sl (kd (pow1 a n).length) ((pow1 a n).map fM), .v (.int .i64 (powe a n))]
instance {a : List M1} {n : Int} : DC (lvPow a n) := ⟨.tup _ (by intro c hc; simp only [List.mem_cons, List.not_mem_nil, or_false] at hc; rcases hc with rfl | rfl; exact dsl dfM _ _; exact .v _)⟩
theorem lvPow_ok {a : List M1} {n : Int} (h1 : VM a = true) (h2 : sqb a = true) (h3 : 0 ≤ n) (h4 : n ≤ 1000) : lvPow a n = lvOM (powO a n) := by
  unfold lvPow pow1 powe powOk lvOM
  simp [h1, h2, h3, h4]
theorem lvPow_no1 {a : List M1} {n : Int} (h1 : VM a = false) : lvPow a n = .tup [.sl 0 [], .v (.int .i64 1)] := by unfold lvPow pow1 powe powOk; simp [h1, kd]
theorem lvPow_no2 {a : List M1} {n : Int} (h1 : VM a = true) (h2 : sqb a = false) : lvPow a n = .tup [.sl 0 [], .v (.int .i64 2)] := by unfold lvPow pow1 powe powOk; simp [h1, h2, kd]
theorem lvPow_no3 {a : List M1} {n : Int} (h1 : VM a = true) (h2 : sqb a = true) (h3 : n < 0 ∨ 1000 < n) : lvPow a n = .tup [.sl 0 [], .v (.int .i64 6)] := by
  have h4 : (decide (0 ≤ n) && decide (n ≤ 1000)) = false := by
    rcases h3 with h3 | h3
    · rw [decide_eq_false (by omega)]; rfl
    · rw [decide_eq_false (show ¬ n ≤ 1000 by omega), Bool.and_false]
  unfold lvPow pow1 powe powOk
  rw [h1, h2, h4]; rfl
theorem pow1_len {a : List M1} (hf : Few8 a) (n : Int) : (pow1 a n).length ≤ 70 ∧ ∀ r, r ∈ pow1 a n → r.2.length ≤ 70 := by
  unfold pow1
  split
  · cases ho : powO a n with
    | none => simp
    | some M =>
      obtain ⟨k1, k2⟩ := mapM_len ho
      rw [pw_len] at k1
      have hl := hf.ln
      refine ⟨by simp; omega, fun r hr => ?_⟩
      obtain ⟨m, hm, rfl⟩ := List.mem_map.1 (by simpa using hr)
      obtain ⟨x, hx, hxm⟩ := k2 m hm
      have h3 := (mapM_len hxm).1
      have h4 := pw_wid (vM a) a.length n.toNat x hx
      show m.length ≤ 70
      omega
  · simp
theorem wdx_of {rows : List X1} {n : Nat} (hl : rows.length = n) (hw : ∀ r, r ∈ rows → r.2.length = n) : wdx rows = n := by
  unfold wdx
  split
  · omega
  · exact hw _ (getD_mem (by omega))
end Go.Ab
set_option linter.unusedVariables false
set_option linter.unusedSimpArgs false
set_option maxRecDepth 100000
namespace Go.Proofs.YtcmieifjephdcaaGreat
open Go.Ab Go.RowKit
def ti1 : TI := ⟨1, 8, [.nilFunc], .func⟩
def ti2 : TI := ⟨1, 8, [.int .i64 0], (.int .i64)⟩
def ti3 : TI := ⟨1, 8, [.int .i64 0], (.int .i64)⟩
def ti4 : TI := ⟨1, 1, [.bool false], .bool⟩
def ti5 : TI := ⟨1, 1, [.int .u8 0], (.int .u8)⟩
def ti6 : TI := ⟨1, 1, [.int .u8 0], (.int .u8)⟩
def ti7 : TI := ⟨4, 24, [.int .i64 0, .int .i64 0, .bool false, .int .u8 0], (.st [(0, 2), (1, 3), (2, 4), (3, 6)])⟩
def ti8 : TI := ⟨4, 24, [.int .i64 0, .int .i64 0, .bool false, .int .u8 0], (.st [(0, 2), (1, 3), (2, 4), (3, 6)])⟩
def ti9 : TI := ⟨1, 16, [.string ⟨#[]⟩], .str⟩
def ti10 : TI := ⟨1, 16, [.string ⟨#[]⟩], .str⟩
def ti11 : TI := ⟨1, 16, [.string ⟨#[]⟩], .str⟩
def ti12 : TI := ⟨1, 8, [.int .u64 0], (.int .u64)⟩
def ti13 : TI := ⟨2, 24, [.string ⟨#[]⟩, .int .u64 0], (.st [(0, 9), (1, 12)])⟩
def ti14 : TI := ⟨2, 24, [.string ⟨#[]⟩, .int .u64 0], (.st [(0, 9), (1, 12)])⟩
def ti21 : TI := ⟨1, 4, [.int .i32 0], (.int .i32)⟩
def ti22 : TI := ⟨1, 24, [.slice none 0 0], (.sl 23)⟩
def ti23 : TI := ⟨1, 24, [.slice none 0 0], (.sl 38)⟩
def ti24 : TI := ⟨1, 8, [.nilFunc], .func⟩
def ti25 : TI := ⟨1, 8, [.nilFunc], .func⟩
def ti26 : TI := ⟨1, 8, [.int .i64 0], (.int .i64)⟩
def ti28 : TI := ⟨1, 8, [.nilFunc], .func⟩
def ti29 : TI := ⟨1, 8, [.nilFunc], .func⟩
def ti30 : TI := ⟨1, 8, [.nilFunc], .func⟩
def ti32 : TI := ⟨1, 8, [.nilFunc], .func⟩
def ti34 : TI := ⟨1, 8, [.nilFunc], .func⟩
def ti35 : TI := ⟨1, 8, [.nilFunc], .func⟩
def ti36 : TI := ⟨1, 8, [.nilFunc], .func⟩
def ti37 : TI := ⟨2, 16, [.int .i64 0, .int .i64 0], (.st [(0, 3), (1, 3)])⟩
def ti38 : TI := ⟨2, 16, [.int .i64 0, .int .i64 0], (.st [(0, 3), (1, 3)])⟩
def ti40 : TI := ⟨1, 8, [.nilFunc], .func⟩
def ti41 : TI := ⟨1, 8, [.nilFunc], .func⟩
def ti43 : TI := ⟨1, 8, [.nilFunc], .func⟩
def ti44 : TI := ⟨1, 8, [.nilFunc], .func⟩
def ti45 : TI := ⟨1, 8, [.nilFunc], .func⟩
def ti46 : TI := ⟨1, 8, [.nilFunc], .func⟩
def ti47 : TI := ⟨1, 8, [.nilFunc], .func⟩
def ti48 : TI := ⟨1, 8, [.nilFunc], .func⟩
def ti49 : TI := ⟨1, 8, [.nilFunc], .func⟩
def ti50 : TI := ⟨1, 8, [.nilFunc], .func⟩
def ti51 : TI := ⟨1, 24, [.slice none 0 0], (.sl 22)⟩
def ti52 : TI := ⟨1, 8, [.nilFunc], .func⟩
def ti53 : TI := ⟨1, 8, [.nilFunc], .func⟩
def ti54 : TI := ⟨1, 24, [.slice none 0 0], (.sl 85)⟩
def ti56 : TI := ⟨1, 8, [.nilFunc], .func⟩
def ti57 : TI := ⟨1, 24, [.slice none 0 0], (.sl 54)⟩
def ti58 : TI := ⟨1, 8, [.nilFunc], .func⟩
def ti59 : TI := ⟨1, 8, [.nilFunc], .func⟩
def ti60 : TI := ⟨1, 8, [.nilFunc], .func⟩
def ti61 : TI := ⟨1, 8, [.nilFunc], .func⟩
def ti62 : TI := ⟨1, 24, [.slice none 0 0], (.sl 77)⟩
def ti64 : TI := ⟨1, 8, [.nilFunc], .func⟩
def ti65 : TI := ⟨1, 24, [.slice none 0 0], (.sl 62)⟩
def ti66 : TI := ⟨1, 8, [.nilFunc], .func⟩
def ti67 : TI := ⟨1, 8, [.nilFunc], .func⟩
def ti68 : TI := ⟨1, 8, [.nilFunc], .func⟩
def ti69 : TI := ⟨1, 24, [.slice none 0 0], (.sl 3)⟩
def ti71 : TI := ⟨1, 8, [.nilFunc], .func⟩
def ti72 : TI := ⟨1, 8, [.nilFunc], .func⟩
def ti73 : TI := ⟨1, 24, [.slice none 0 0], (.sl 125)⟩
def ti74 : TI := ⟨2, 32, [.int .i64 0, .slice none 0 0], (.st [(0, 3), (1, 73)])⟩
def ti75 : TI := ⟨2, 32, [.int .i64 0, .slice none 0 0], (.st [(0, 3), (1, 73)])⟩
def ti76 : TI := ⟨4, 64, [.int .i64 0, .slice none 0 0, .int .i64 0, .slice none 0 0], (.st [(0, 75), (2, 75)])⟩
def ti77 : TI := ⟨4, 64, [.int .i64 0, .slice none 0 0, .int .i64 0, .slice none 0 0], (.st [(0, 75), (2, 75)])⟩
def ti79 : TI := ⟨1, 8, [.nilFunc], .func⟩
def ti80 : TI := ⟨1, 8, [.nilFunc], .func⟩
def ti81 : TI := ⟨1, 8, [.nilFunc], .func⟩
def ti82 : TI := ⟨3, 40, [.int .i64 0, .bool false, .slice none 0 0], (.st [(0, 3), (1, 4), (2, 69)])⟩
def ti83 : TI := ⟨3, 40, [.int .i64 0, .bool false, .slice none 0 0], (.st [(0, 3), (1, 4), (2, 69)])⟩
def ti84 : TI := ⟨6, 80, [.int .i64 0, .bool false, .slice none 0 0, .int .i64 0, .bool false, .slice none 0 0], (.st [(0, 83), (3, 83)])⟩
def ti85 : TI := ⟨6, 80, [.int .i64 0, .bool false, .slice none 0 0, .int .i64 0, .bool false, .slice none 0 0], (.st [(0, 83), (3, 83)])⟩
def ti86 : TI := ⟨1, 8, [.nilFunc], .func⟩
def ti87 : TI := ⟨1, 8, [.nilFunc], .func⟩
def ti88 : TI := ⟨1, 8, [.nilFunc], .func⟩
def ti89 : TI := ⟨1, 8, [.nilFunc], .func⟩
def ti90 : TI := ⟨1, 8, [.nilFunc], .func⟩
def ti91 : TI := ⟨1, 8, [.nilFunc], .func⟩
def ti92 : TI := ⟨1, 8, [.nilFunc], .func⟩
def ti93 : TI := ⟨1, 8, [.nilFunc], .func⟩
def ti94 : TI := ⟨1, 8, [.nilFunc], .func⟩
def ti95 : TI := ⟨1, 8, [.nilFunc], .func⟩
def ti96 : TI := ⟨1, 8, [.nilFunc], .func⟩
def ti97 : TI := ⟨1, 8, [.nilFunc], .func⟩
def ti98 : TI := ⟨1, 8, [.int .u64 0], (.int .u64)⟩
def ti99 : TI := ⟨1, 8, [.nilFunc], .func⟩
def ti100 : TI := ⟨1, 8, [.nilFunc], .func⟩
def ti101 : TI := ⟨1, 8, [.nilFunc], .func⟩
def ti102 : TI := ⟨1, 8, [.nilFunc], .func⟩
def ti104 : TI := ⟨1, 8, [.nilFunc], .func⟩
def ti105 : TI := ⟨1, 8, [.nilFunc], .func⟩
def ti106 : TI := ⟨1, 8, [.nilFunc], .func⟩
def ti107 : TI := ⟨1, 8, [.nilFunc], .func⟩
def ti108 : TI := ⟨1, 8, [.nilFunc], .func⟩
def ti109 : TI := ⟨1, 8, [.nilFunc], .func⟩
def ti110 : TI := ⟨1, 8, [.nilFunc], .func⟩
def ti111 : TI := ⟨1, 8, [.nilFunc], .func⟩
def ti112 : TI := ⟨1, 8, [.nilFunc], .func⟩
def ti113 : TI := ⟨1, 8, [.nilFunc], .func⟩
def ti114 : TI := ⟨1, 8, [.nilFunc], .func⟩
def ti115 : TI := ⟨1, 8, [.nilFunc], .func⟩
def ti116 : TI := ⟨1, 8, [.nilFunc], .func⟩
def ti117 : TI := ⟨1, 8, [.nilFunc], .func⟩
def ti118 : TI := ⟨1, 8, [.nilFunc], .func⟩
def ti120 : TI := ⟨1, 8, [.nilFunc], .func⟩
def ti121 : TI := ⟨1, 8, [.nilFunc], .func⟩
def ti122 : TI := ⟨1, 8, [.nilFunc], .func⟩
def ti123 : TI := ⟨1, 8, [.nilFunc], .func⟩
def ti124 : TI := ⟨1, 8, [.nilFunc], .func⟩
def ti125 : TI := ⟨1, 4, [.int .u32 0], (.int .u32)⟩
def ti126 : TI := ⟨1, 8, [.nilFunc], .func⟩
def ti127 : TI := ⟨1, 8, [.int .u64 0], (.int .u64)⟩
def ti128 : TI := ⟨1, 8, [.nilFunc], .func⟩
def ti129 : TI := ⟨1, 8, [.nilFunc], .func⟩
def ti130 : TI := ⟨1, 8, [.nilFunc], .func⟩
def ti131 : TI := ⟨1, 8, [.nilFunc], .func⟩
def ti132 : TI := ⟨1, 8, [.nilFunc], .func⟩
def ti133 : TI := ⟨1, 8, [.nilFunc], .func⟩
def ti134 : TI := ⟨1, 8, [.nilFunc], .func⟩
def ti135 : TI := ⟨1, 8, [.nilFunc], .func⟩
def ti136 : TI := ⟨1, 8, [.nilFunc], .func⟩
def ti137 : TI := ⟨1, 8, [.nilFunc], .func⟩
def ti138 : TI := ⟨1, 8, [.nilFunc], .func⟩
def ti139 : TI := ⟨1, 8, [.nilFunc], .func⟩
def ti140 : TI := ⟨1, 8, [.nilFunc], .func⟩
def ti142 : TI := ⟨1, 8, [.nilFunc], .func⟩
def ti144 : TI := ⟨1, 8, [.nilFunc], .func⟩
def ti145 : TI := ⟨1, 8, [.nilFunc], .func⟩
def ti146 : TI := ⟨1, 8, [.nilFunc], .func⟩
def ti148 : TI := ⟨1, 8, [.nilFunc], .func⟩
def ti150 : TI := ⟨1, 8, [.nilFunc], .func⟩
def ti151 : TI := ⟨1, 8, [.nilFunc], .func⟩
def ti152 : TI := ⟨1, 8, [.nilFunc], .func⟩
def ti153 : TI := ⟨1, 8, [.nilFunc], .func⟩
def ti154 : TI := ⟨1, 8, [.nilFunc], .func⟩
def ti155 : TI := ⟨1, 8, [.nilFunc], .func⟩
def ti157 : TI := ⟨1, 8, [.nilFunc], .func⟩
def ti159 : TI := ⟨1, 8, [.nilFunc], .func⟩
def ti161 : TI := ⟨1, 8, [.nilFunc], .func⟩
def ti162 : TI := ⟨1, 8, [.nilFunc], .func⟩
def ti164 : TI := ⟨1, 8, [.nilFunc], .func⟩
def ti165 : TI := ⟨1, 8, [.nilFunc], .func⟩
def ti167 : TI := ⟨1, 8, [.nilFunc], .func⟩
def ti168 : TI := ⟨1, 8, [.nilFunc], .func⟩
def ti169 : TI := ⟨1, 8, [.nilFunc], .func⟩
def ti173 : TI := ⟨1, 8, [.nilFunc], .func⟩
def ti179 : TI := ⟨1, 1, [.int .u8 0], (.int .u8)⟩
def ti180 : TI := ⟨1, 1, [.int .u8 0], (.int .u8)⟩
def ti181 : TI := ⟨1, 8, [.nilFunc], .func⟩
def ti183 : TI := ⟨1, 4, [.int .i32 0], (.int .i32)⟩
def ti184 : TI := ⟨1, 4, [.int .i32 0], (.int .i32)⟩
def ti187 : TI := ⟨1, 16, [.string ⟨#[]⟩], (.st [(0, 9)])⟩
def ti188 : TI := ⟨1, 16, [.string ⟨#[]⟩], (.st [(0, 9)])⟩
theorem tok1 : TypeOk Tryz.prog 1 ti1 := typeOk_of (z := (.nilFunc)) (by kernel_rfl) rfl Tryz.underlying1 ⟨_, _, _, rfl⟩ rfl (by decide)
theorem tok2 : TypeOk Tryz.prog 2 ti2 := typeOk_of (z := (.int .i64 0)) (by kernel_rfl) rfl Tryz.underlying2 rfl rfl (by decide)
theorem tok3 : TypeOk Tryz.prog 3 ti3 := typeOk_of (z := (.int .i64 0)) (by kernel_rfl) rfl Tryz.underlying3 rfl rfl (by decide)
theorem tok4 : TypeOk Tryz.prog 4 ti4 := typeOk_of (z := (.bool false)) (by kernel_rfl) rfl Tryz.underlying4 rfl rfl (by decide)
theorem tok5 : TypeOk Tryz.prog 5 ti5 := typeOk_of (z := (.int .u8 0)) (by kernel_rfl) rfl Tryz.underlying5 rfl rfl (by decide)
theorem tok6 : TypeOk Tryz.prog 6 ti6 := typeOk_of (z := (.int .u8 0)) (by kernel_rfl) rfl Tryz.underlying6 rfl rfl (by decide)
theorem tok7 : TypeOk Tryz.prog 7 ti7 := typeOk_of (z := (.agg #[.int .i64 0, .int .i64 0, .bool false, .int .u8 0])) (by kernel_rfl) rfl Tryz.underlying7 ⟨_, rfl, rfl⟩ rfl (by decide)
theorem tok8 : TypeOk Tryz.prog 8 ti8 := typeOk_of (z := (.agg #[.int .i64 0, .int .i64 0, .bool false, .int .u8 0])) (by kernel_rfl) rfl Tryz.underlying8 ⟨_, rfl, rfl⟩ rfl (by decide)
theorem tok9 : TypeOk Tryz.prog 9 ti9 := typeOk_of (z := (.string ⟨#[]⟩)) (by kernel_rfl) rfl Tryz.underlying9 rfl rfl (by decide)
theorem tok10 : TypeOk Tryz.prog 10 ti10 := typeOk_of (z := (.string ⟨#[]⟩)) (by kernel_rfl) rfl Tryz.underlying10 rfl rfl (by decide)
theorem tok11 : TypeOk Tryz.prog 11 ti11 := typeOk_of (z := (.string ⟨#[]⟩)) (by kernel_rfl) rfl Tryz.underlying11 rfl rfl (by decide)
theorem tok12 : TypeOk Tryz.prog 12 ti12 := typeOk_of (z := (.int .u64 0)) (by kernel_rfl) rfl Tryz.underlying12 rfl rfl (by decide)
theorem tok13 : TypeOk Tryz.prog 13 ti13 := typeOk_of (z := (.agg #[.string ⟨#[]⟩, .int .u64 0])) (by kernel_rfl) rfl Tryz.underlying13 ⟨_, rfl, rfl⟩ rfl (by decide)
theorem tok14 : TypeOk Tryz.prog 14 ti14 := typeOk_of (z := (.agg #[.string ⟨#[]⟩, .int .u64 0])) (by kernel_rfl) rfl Tryz.underlying14 ⟨_, rfl, rfl⟩ rfl (by decide)
theorem tok21 : TypeOk Tryz.prog 21 ti21 := typeOk_of (z := (.int .i32 0)) (by kernel_rfl) rfl Tryz.underlying21 rfl rfl (by decide)
theorem tok22 : TypeOk Tryz.prog 22 ti22 := typeOk_of (z := (.slice none 0 0)) (by kernel_rfl) rfl Tryz.underlying22 rfl rfl (by decide)
theorem tok23 : TypeOk Tryz.prog 23 ti23 := typeOk_of (z := (.slice none 0 0)) (by kernel_rfl) rfl Tryz.underlying23 rfl rfl (by decide)
theorem tok24 : TypeOk Tryz.prog 24 ti24 := typeOk_of (z := (.nilFunc)) (by kernel_rfl) rfl Tryz.underlying24 ⟨_, _, _, rfl⟩ rfl (by decide)
theorem tok25 : TypeOk Tryz.prog 25 ti25 := typeOk_of (z := (.nilFunc)) (by kernel_rfl) rfl Tryz.underlying25 ⟨_, _, _, rfl⟩ rfl (by decide)
theorem tok26 : TypeOk Tryz.prog 26 ti26 := typeOk_of (z := (.int .i64 0)) (by kernel_rfl) rfl Tryz.underlying26 rfl rfl (by decide)
theorem tok28 : TypeOk Tryz.prog 28 ti28 := typeOk_of (z := (.nilFunc)) (by kernel_rfl) rfl Tryz.underlying28 ⟨_, _, _, rfl⟩ rfl (by decide)
theorem tok29 : TypeOk Tryz.prog 29 ti29 := typeOk_of (z := (.nilFunc)) (by kernel_rfl) rfl Tryz.underlying29 ⟨_, _, _, rfl⟩ rfl (by decide)
theorem tok30 : TypeOk Tryz.prog 30 ti30 := typeOk_of (z := (.nilFunc)) (by kernel_rfl) rfl Tryz.underlying30 ⟨_, _, _, rfl⟩ rfl (by decide)
theorem tok32 : TypeOk Tryz.prog 32 ti32 := typeOk_of (z := (.nilFunc)) (by kernel_rfl) rfl Tryz.underlying32 ⟨_, _, _, rfl⟩ rfl (by decide)
theorem tok34 : TypeOk Tryz.prog 34 ti34 := typeOk_of (z := (.nilFunc)) (by kernel_rfl) rfl Tryz.underlying34 ⟨_, _, _, rfl⟩ rfl (by decide)
theorem tok35 : TypeOk Tryz.prog 35 ti35 := typeOk_of (z := (.nilFunc)) (by kernel_rfl) rfl Tryz.underlying35 ⟨_, _, _, rfl⟩ rfl (by decide)
theorem tok36 : TypeOk Tryz.prog 36 ti36 := typeOk_of (z := (.nilFunc)) (by kernel_rfl) rfl Tryz.underlying36 ⟨_, _, _, rfl⟩ rfl (by decide)
theorem tok37 : TypeOk Tryz.prog 37 ti37 := typeOk_of (z := (.agg #[.int .i64 0, .int .i64 0])) (by kernel_rfl) rfl Tryz.underlying37 ⟨_, rfl, rfl⟩ rfl (by decide)
theorem tok38 : TypeOk Tryz.prog 38 ti38 := typeOk_of (z := (.agg #[.int .i64 0, .int .i64 0])) (by kernel_rfl) rfl Tryz.underlying38 ⟨_, rfl, rfl⟩ rfl (by decide)
theorem tok40 : TypeOk Tryz.prog 40 ti40 := typeOk_of (z := (.nilFunc)) (by kernel_rfl) rfl Tryz.underlying40 ⟨_, _, _, rfl⟩ rfl (by decide)
theorem tok41 : TypeOk Tryz.prog 41 ti41 := typeOk_of (z := (.nilFunc)) (by kernel_rfl) rfl Tryz.underlying41 ⟨_, _, _, rfl⟩ rfl (by decide)
theorem tok43 : TypeOk Tryz.prog 43 ti43 := typeOk_of (z := (.nilFunc)) (by kernel_rfl) rfl Tryz.underlying43 ⟨_, _, _, rfl⟩ rfl (by decide)
theorem tok44 : TypeOk Tryz.prog 44 ti44 := typeOk_of (z := (.nilFunc)) (by kernel_rfl) rfl Tryz.underlying44 ⟨_, _, _, rfl⟩ rfl (by decide)
theorem tok45 : TypeOk Tryz.prog 45 ti45 := typeOk_of (z := (.nilFunc)) (by kernel_rfl) rfl Tryz.underlying45 ⟨_, _, _, rfl⟩ rfl (by decide)
theorem tok46 : TypeOk Tryz.prog 46 ti46 := typeOk_of (z := (.nilFunc)) (by kernel_rfl) rfl Tryz.underlying46 ⟨_, _, _, rfl⟩ rfl (by decide)
theorem tok47 : TypeOk Tryz.prog 47 ti47 := typeOk_of (z := (.nilFunc)) (by kernel_rfl) rfl Tryz.underlying47 ⟨_, _, _, rfl⟩ rfl (by decide)
theorem tok48 : TypeOk Tryz.prog 48 ti48 := typeOk_of (z := (.nilFunc)) (by kernel_rfl) rfl Tryz.underlying48 ⟨_, _, _, rfl⟩ rfl (by decide)
theorem tok49 : TypeOk Tryz.prog 49 ti49 := typeOk_of (z := (.nilFunc)) (by kernel_rfl) rfl Tryz.underlying49 ⟨_, _, _, rfl⟩ rfl (by decide)
theorem tok50 : TypeOk Tryz.prog 50 ti50 := typeOk_of (z := (.nilFunc)) (by kernel_rfl) rfl Tryz.underlying50 ⟨_, _, _, rfl⟩ rfl (by decide)
theorem tok51 : TypeOk Tryz.prog 51 ti51 := typeOk_of (z := (.slice none 0 0)) (by kernel_rfl) rfl Tryz.underlying51 rfl rfl (by decide)
theorem tok52 : TypeOk Tryz.prog 52 ti52 := typeOk_of (z := (.nilFunc)) (by kernel_rfl) rfl Tryz.underlying52 ⟨_, _, _, rfl⟩ rfl (by decide)
theorem tok53 : TypeOk Tryz.prog 53 ti53 := typeOk_of (z := (.nilFunc)) (by kernel_rfl) rfl Tryz.underlying53 ⟨_, _, _, rfl⟩ rfl (by decide)
theorem tok54 : TypeOk Tryz.prog 54 ti54 := typeOk_of (z := (.slice none 0 0)) (by kernel_rfl) rfl Tryz.underlying54 rfl rfl (by decide)
theorem tok56 : TypeOk Tryz.prog 56 ti56 := typeOk_of (z := (.nilFunc)) (by kernel_rfl) rfl Tryz.underlying56 ⟨_, _, _, rfl⟩ rfl (by decide)
theorem tok57 : TypeOk Tryz.prog 57 ti57 := typeOk_of (z := (.slice none 0 0)) (by kernel_rfl) rfl Tryz.underlying57 rfl rfl (by decide)
theorem tok58 : TypeOk Tryz.prog 58 ti58 := typeOk_of (z := (.nilFunc)) (by kernel_rfl) rfl Tryz.underlying58 ⟨_, _, _, rfl⟩ rfl (by decide)
theorem tok59 : TypeOk Tryz.prog 59 ti59 := typeOk_of (z := (.nilFunc)) (by kernel_rfl) rfl Tryz.underlying59 ⟨_, _, _, rfl⟩ rfl (by decide)
theorem tok60 : TypeOk Tryz.prog 60 ti60 := typeOk_of (z := (.nilFunc)) (by kernel_rfl) rfl Tryz.underlying60 ⟨_, _, _, rfl⟩ rfl (by decide)
theorem tok61 : TypeOk Tryz.prog 61 ti61 := typeOk_of (z := (.nilFunc)) (by kernel_rfl) rfl Tryz.underlying61 ⟨_, _, _, rfl⟩ rfl (by decide)
theorem tok62 : TypeOk Tryz.prog 62 ti62 := typeOk_of (z := (.slice none 0 0)) (by kernel_rfl) rfl Tryz.underlying62 rfl rfl (by decide)
theorem tok64 : TypeOk Tryz.prog 64 ti64 := typeOk_of (z := (.nilFunc)) (by kernel_rfl) rfl Tryz.underlying64 ⟨_, _, _, rfl⟩ rfl (by decide)
theorem tok65 : TypeOk Tryz.prog 65 ti65 := typeOk_of (z := (.slice none 0 0)) (by kernel_rfl) rfl Tryz.underlying65 rfl rfl (by decide)
theorem tok66 : TypeOk Tryz.prog 66 ti66 := typeOk_of (z := (.nilFunc)) (by kernel_rfl) rfl Tryz.underlying66 ⟨_, _, _, rfl⟩ rfl (by decide)
theorem tok67 : TypeOk Tryz.prog 67 ti67 := typeOk_of (z := (.nilFunc)) (by kernel_rfl) rfl Tryz.underlying67 ⟨_, _, _, rfl⟩ rfl (by decide)
theorem tok68 : TypeOk Tryz.prog 68 ti68 := typeOk_of (z := (.nilFunc)) (by kernel_rfl) rfl Tryz.underlying68 ⟨_, _, _, rfl⟩ rfl (by decide)
theorem tok69 : TypeOk Tryz.prog 69 ti69 := typeOk_of (z := (.slice none 0 0)) (by kernel_rfl) rfl Tryz.underlying69 rfl rfl (by decide)
theorem tok71 : TypeOk Tryz.prog 71 ti71 := typeOk_of (z := (.nilFunc)) (by kernel_rfl) rfl Tryz.underlying71 ⟨_, _, _, rfl⟩ rfl (by decide)
theorem tok72 : TypeOk Tryz.prog 72 ti72 := typeOk_of (z := (.nilFunc)) (by kernel_rfl) rfl Tryz.underlying72 ⟨_, _, _, rfl⟩ rfl (by decide)
theorem tok73 : TypeOk Tryz.prog 73 ti73 := typeOk_of (z := (.slice none 0 0)) (by kernel_rfl) rfl Tryz.underlying73 rfl rfl (by decide)
theorem tok74 : TypeOk Tryz.prog 74 ti74 := typeOk_of (z := (.agg #[.int .i64 0, .slice none 0 0])) (by kernel_rfl) rfl Tryz.underlying74 ⟨_, rfl, rfl⟩ rfl (by decide)
theorem tok75 : TypeOk Tryz.prog 75 ti75 := typeOk_of (z := (.agg #[.int .i64 0, .slice none 0 0])) (by kernel_rfl) rfl Tryz.underlying75 ⟨_, rfl, rfl⟩ rfl (by decide)
theorem tok76 : TypeOk Tryz.prog 76 ti76 := typeOk_of (z := (.agg #[.int .i64 0, .slice none 0 0, .int .i64 0, .slice none 0 0])) (by kernel_rfl) rfl Tryz.underlying76 ⟨_, rfl, rfl⟩ rfl (by decide)
theorem tok77 : TypeOk Tryz.prog 77 ti77 := typeOk_of (z := (.agg #[.int .i64 0, .slice none 0 0, .int .i64 0, .slice none 0 0])) (by kernel_rfl) rfl Tryz.underlying77 ⟨_, rfl, rfl⟩ rfl (by decide)
theorem tok79 : TypeOk Tryz.prog 79 ti79 := typeOk_of (z := (.nilFunc)) (by kernel_rfl) rfl Tryz.underlying79 ⟨_, _, _, rfl⟩ rfl (by decide)
theorem tok80 : TypeOk Tryz.prog 80 ti80 := typeOk_of (z := (.nilFunc)) (by kernel_rfl) rfl Tryz.underlying80 ⟨_, _, _, rfl⟩ rfl (by decide)
theorem tok81 : TypeOk Tryz.prog 81 ti81 := typeOk_of (z := (.nilFunc)) (by kernel_rfl) rfl Tryz.underlying81 ⟨_, _, _, rfl⟩ rfl (by decide)
theorem tok82 : TypeOk Tryz.prog 82 ti82 := typeOk_of (z := (.agg #[.int .i64 0, .bool false, .slice none 0 0])) (by kernel_rfl) rfl Tryz.underlying82 ⟨_, rfl, rfl⟩ rfl (by decide)
theorem tok83 : TypeOk Tryz.prog 83 ti83 := typeOk_of (z := (.agg #[.int .i64 0, .bool false, .slice none 0 0])) (by kernel_rfl) rfl Tryz.underlying83 ⟨_, rfl, rfl⟩ rfl (by decide)
theorem tok84 : TypeOk Tryz.prog 84 ti84 := typeOk_of (z := (.agg #[.int .i64 0, .bool false, .slice none 0 0, .int .i64 0, .bool false, .slice none 0 0])) (by kernel_rfl) rfl Tryz.underlying84 ⟨_, rfl, rfl⟩ rfl (by decide)
theorem tok85 : TypeOk Tryz.prog 85 ti85 := typeOk_of (z := (.agg #[.int .i64 0, .bool false, .slice none 0 0, .int .i64 0, .bool false, .slice none 0 0])) (by kernel_rfl) rfl Tryz.underlying85 ⟨_, rfl, rfl⟩ rfl (by decide)
theorem tok86 : TypeOk Tryz.prog 86 ti86 := typeOk_of (z := (.nilFunc)) (by kernel_rfl) rfl Tryz.underlying86 ⟨_, _, _, rfl⟩ rfl (by decide)
theorem tok87 : TypeOk Tryz.prog 87 ti87 := typeOk_of (z := (.nilFunc)) (by kernel_rfl) rfl Tryz.underlying87 ⟨_, _, _, rfl⟩ rfl (by decide)
theorem tok88 : TypeOk Tryz.prog 88 ti88 := typeOk_of (z := (.nilFunc)) (by kernel_rfl) rfl Tryz.underlying88 ⟨_, _, _, rfl⟩ rfl (by decide)
theorem tok89 : TypeOk Tryz.prog 89 ti89 := typeOk_of (z := (.nilFunc)) (by kernel_rfl) rfl Tryz.underlying89 ⟨_, _, _, rfl⟩ rfl (by decide)
theorem tok90 : TypeOk Tryz.prog 90 ti90 := typeOk_of (z := (.nilFunc)) (by kernel_rfl) rfl Tryz.underlying90 ⟨_, _, _, rfl⟩ rfl (by decide)
theorem tok91 : TypeOk Tryz.prog 91 ti91 := typeOk_of (z := (.nilFunc)) (by kernel_rfl) rfl Tryz.underlying91 ⟨_, _, _, rfl⟩ rfl (by decide)
theorem tok92 : TypeOk Tryz.prog 92 ti92 := typeOk_of (z := (.nilFunc)) (by kernel_rfl) rfl Tryz.underlying92 ⟨_, _, _, rfl⟩ rfl (by decide)
theorem tok93 : TypeOk Tryz.prog 93 ti93 := typeOk_of (z := (.nilFunc)) (by kernel_rfl) rfl Tryz.underlying93 ⟨_, _, _, rfl⟩ rfl (by decide)
theorem tok94 : TypeOk Tryz.prog 94 ti94 := typeOk_of (z := (.nilFunc)) (by kernel_rfl) rfl Tryz.underlying94 ⟨_, _, _, rfl⟩ rfl (by decide)
theorem tok95 : TypeOk Tryz.prog 95 ti95 := typeOk_of (z := (.nilFunc)) (by kernel_rfl) rfl Tryz.underlying95 ⟨_, _, _, rfl⟩ rfl (by decide)
theorem tok96 : TypeOk Tryz.prog 96 ti96 := typeOk_of (z := (.nilFunc)) (by kernel_rfl) rfl Tryz.underlying96 ⟨_, _, _, rfl⟩ rfl (by decide)
theorem tok97 : TypeOk Tryz.prog 97 ti97 := typeOk_of (z := (.nilFunc)) (by kernel_rfl) rfl Tryz.underlying97 ⟨_, _, _, rfl⟩ rfl (by decide)
theorem tok98 : TypeOk Tryz.prog 98 ti98 := typeOk_of (z := (.int .u64 0)) (by kernel_rfl) rfl Tryz.underlying98 rfl rfl (by decide)
theorem tok99 : TypeOk Tryz.prog 99 ti99 := typeOk_of (z := (.nilFunc)) (by kernel_rfl) rfl Tryz.underlying99 ⟨_, _, _, rfl⟩ rfl (by decide)
theorem tok100 : TypeOk Tryz.prog 100 ti100 := typeOk_of (z := (.nilFunc)) (by kernel_rfl) rfl Tryz.underlying100 ⟨_, _, _, rfl⟩ rfl (by decide)
theorem tok101 : TypeOk Tryz.prog 101 ti101 := typeOk_of (z := (.nilFunc)) (by kernel_rfl) rfl Tryz.underlying101 ⟨_, _, _, rfl⟩ rfl (by decide)
theorem tok102 : TypeOk Tryz.prog 102 ti102 := typeOk_of (z := (.nilFunc)) (by kernel_rfl) rfl Tryz.underlying102 ⟨_, _, _, rfl⟩ rfl (by decide)
theorem tok104 : TypeOk Tryz.prog 104 ti104 := typeOk_of (z := (.nilFunc)) (by kernel_rfl) rfl Tryz.underlying104 ⟨_, _, _, rfl⟩ rfl (by decide)
theorem tok105 : TypeOk Tryz.prog 105 ti105 := typeOk_of (z := (.nilFunc)) (by kernel_rfl) rfl Tryz.underlying105 ⟨_, _, _, rfl⟩ rfl (by decide)
theorem tok106 : TypeOk Tryz.prog 106 ti106 := typeOk_of (z := (.nilFunc)) (by kernel_rfl) rfl Tryz.underlying106 ⟨_, _, _, rfl⟩ rfl (by decide)
theorem tok107 : TypeOk Tryz.prog 107 ti107 := typeOk_of (z := (.nilFunc)) (by kernel_rfl) rfl Tryz.underlying107 ⟨_, _, _, rfl⟩ rfl (by decide)
theorem tok108 : TypeOk Tryz.prog 108 ti108 := typeOk_of (z := (.nilFunc)) (by kernel_rfl) rfl Tryz.underlying108 ⟨_, _, _, rfl⟩ rfl (by decide)
theorem tok109 : TypeOk Tryz.prog 109 ti109 := typeOk_of (z := (.nilFunc)) (by kernel_rfl) rfl Tryz.underlying109 ⟨_, _, _, rfl⟩ rfl (by decide)
theorem tok110 : TypeOk Tryz.prog 110 ti110 := typeOk_of (z := (.nilFunc)) (by kernel_rfl) rfl Tryz.underlying110 ⟨_, _, _, rfl⟩ rfl (by decide)
theorem tok111 : TypeOk Tryz.prog 111 ti111 := typeOk_of (z := (.nilFunc)) (by kernel_rfl) rfl Tryz.underlying111 ⟨_, _, _, rfl⟩ rfl (by decide)
theorem tok112 : TypeOk Tryz.prog 112 ti112 := typeOk_of (z := (.nilFunc)) (by kernel_rfl) rfl Tryz.underlying112 ⟨_, _, _, rfl⟩ rfl (by decide)
theorem tok113 : TypeOk Tryz.prog 113 ti113 := typeOk_of (z := (.nilFunc)) (by kernel_rfl) rfl Tryz.underlying113 ⟨_, _, _, rfl⟩ rfl (by decide)
theorem tok114 : TypeOk Tryz.prog 114 ti114 := typeOk_of (z := (.nilFunc)) (by kernel_rfl) rfl Tryz.underlying114 ⟨_, _, _, rfl⟩ rfl (by decide)
theorem tok115 : TypeOk Tryz.prog 115 ti115 := typeOk_of (z := (.nilFunc)) (by kernel_rfl) rfl Tryz.underlying115 ⟨_, _, _, rfl⟩ rfl (by decide)
theorem tok116 : TypeOk Tryz.prog 116 ti116 := typeOk_of (z := (.nilFunc)) (by kernel_rfl) rfl Tryz.underlying116 ⟨_, _, _, rfl⟩ rfl (by decide)
theorem tok117 : TypeOk Tryz.prog 117 ti117 := typeOk_of (z := (.nilFunc)) (by kernel_rfl) rfl Tryz.underlying117 ⟨_, _, _, rfl⟩ rfl (by decide)
theorem tok118 : TypeOk Tryz.prog 118 ti118 := typeOk_of (z := (.nilFunc)) (by kernel_rfl) rfl Tryz.underlying118 ⟨_, _, _, rfl⟩ rfl (by decide)
theorem tok120 : TypeOk Tryz.prog 120 ti120 := typeOk_of (z := (.nilFunc)) (by kernel_rfl) rfl Tryz.underlying120 ⟨_, _, _, rfl⟩ rfl (by decide)
theorem tok121 : TypeOk Tryz.prog 121 ti121 := typeOk_of (z := (.nilFunc)) (by kernel_rfl) rfl Tryz.underlying121 ⟨_, _, _, rfl⟩ rfl (by decide)
theorem tok122 : TypeOk Tryz.prog 122 ti122 := typeOk_of (z := (.nilFunc)) (by kernel_rfl) rfl Tryz.underlying122 ⟨_, _, _, rfl⟩ rfl (by decide)
theorem tok123 : TypeOk Tryz.prog 123 ti123 := typeOk_of (z := (.nilFunc)) (by kernel_rfl) rfl Tryz.underlying123 ⟨_, _, _, rfl⟩ rfl (by decide)
theorem tok124 : TypeOk Tryz.prog 124 ti124 := typeOk_of (z := (.nilFunc)) (by kernel_rfl) rfl Tryz.underlying124 ⟨_, _, _, rfl⟩ rfl (by decide)
theorem tok125 : TypeOk Tryz.prog 125 ti125 := typeOk_of (z := (.int .u32 0)) (by kernel_rfl) rfl Tryz.underlying125 rfl rfl (by decide)
theorem tok126 : TypeOk Tryz.prog 126 ti126 := typeOk_of (z := (.nilFunc)) (by kernel_rfl) rfl Tryz.underlying126 ⟨_, _, _, rfl⟩ rfl (by decide)
theorem tok127 : TypeOk Tryz.prog 127 ti127 := typeOk_of (z := (.int .u64 0)) (by kernel_rfl) rfl Tryz.underlying127 rfl rfl (by decide)
theorem tok128 : TypeOk Tryz.prog 128 ti128 := typeOk_of (z := (.nilFunc)) (by kernel_rfl) rfl Tryz.underlying128 ⟨_, _, _, rfl⟩ rfl (by decide)
theorem tok129 : TypeOk Tryz.prog 129 ti129 := typeOk_of (z := (.nilFunc)) (by kernel_rfl) rfl Tryz.underlying129 ⟨_, _, _, rfl⟩ rfl (by decide)
theorem tok130 : TypeOk Tryz.prog 130 ti130 := typeOk_of (z := (.nilFunc)) (by kernel_rfl) rfl Tryz.underlying130 ⟨_, _, _, rfl⟩ rfl (by decide)
theorem tok131 : TypeOk Tryz.prog 131 ti131 := typeOk_of (z := (.nilFunc)) (by kernel_rfl) rfl Tryz.underlying131 ⟨_, _, _, rfl⟩ rfl (by decide)
theorem tok132 : TypeOk Tryz.prog 132 ti132 := typeOk_of (z := (.nilFunc)) (by kernel_rfl) rfl Tryz.underlying132 ⟨_, _, _, rfl⟩ rfl (by decide)
theorem tok133 : TypeOk Tryz.prog 133 ti133 := typeOk_of (z := (.nilFunc)) (by kernel_rfl) rfl Tryz.underlying133 ⟨_, _, _, rfl⟩ rfl (by decide)
theorem tok134 : TypeOk Tryz.prog 134 ti134 := typeOk_of (z := (.nilFunc)) (by kernel_rfl) rfl Tryz.underlying134 ⟨_, _, _, rfl⟩ rfl (by decide)
theorem tok135 : TypeOk Tryz.prog 135 ti135 := typeOk_of (z := (.nilFunc)) (by kernel_rfl) rfl Tryz.underlying135 ⟨_, _, _, rfl⟩ rfl (by decide)
theorem tok136 : TypeOk Tryz.prog 136 ti136 := typeOk_of (z := (.nilFunc)) (by kernel_rfl) rfl Tryz.underlying136 ⟨_, _, _, rfl⟩ rfl (by decide)
theorem tok137 : TypeOk Tryz.prog 137 ti137 := typeOk_of (z := (.nilFunc)) (by kernel_rfl) rfl Tryz.underlying137 ⟨_, _, _, rfl⟩ rfl (by decide)
theorem tok138 : TypeOk Tryz.prog 138 ti138 := typeOk_of (z := (.nilFunc)) (by kernel_rfl) rfl Tryz.underlying138 ⟨_, _, _, rfl⟩ rfl (by decide)
theorem tok139 : TypeOk Tryz.prog 139 ti139 := typeOk_of (z := (.nilFunc)) (by kernel_rfl) rfl Tryz.underlying139 ⟨_, _, _, rfl⟩ rfl (by decide)
theorem tok140 : TypeOk Tryz.prog 140 ti140 := typeOk_of (z := (.nilFunc)) (by kernel_rfl) rfl Tryz.underlying140 ⟨_, _, _, rfl⟩ rfl (by decide)
theorem tok142 : TypeOk Tryz.prog 142 ti142 := typeOk_of (z := (.nilFunc)) (by kernel_rfl) rfl Tryz.underlying142 ⟨_, _, _, rfl⟩ rfl (by decide)
theorem tok144 : TypeOk Tryz.prog 144 ti144 := typeOk_of (z := (.nilFunc)) (by kernel_rfl) rfl Tryz.underlying144 ⟨_, _, _, rfl⟩ rfl (by decide)
theorem tok145 : TypeOk Tryz.prog 145 ti145 := typeOk_of (z := (.nilFunc)) (by kernel_rfl) rfl Tryz.underlying145 ⟨_, _, _, rfl⟩ rfl (by decide)
theorem tok146 : TypeOk Tryz.prog 146 ti146 := typeOk_of (z := (.nilFunc)) (by kernel_rfl) rfl Tryz.underlying146 ⟨_, _, _, rfl⟩ rfl (by decide)
theorem tok148 : TypeOk Tryz.prog 148 ti148 := typeOk_of (z := (.nilFunc)) (by kernel_rfl) rfl Tryz.underlying148 ⟨_, _, _, rfl⟩ rfl (by decide)
theorem tok150 : TypeOk Tryz.prog 150 ti150 := typeOk_of (z := (.nilFunc)) (by kernel_rfl) rfl Tryz.underlying150 ⟨_, _, _, rfl⟩ rfl (by decide)
theorem tok151 : TypeOk Tryz.prog 151 ti151 := typeOk_of (z := (.nilFunc)) (by kernel_rfl) rfl Tryz.underlying151 ⟨_, _, _, rfl⟩ rfl (by decide)
theorem tok152 : TypeOk Tryz.prog 152 ti152 := typeOk_of (z := (.nilFunc)) (by kernel_rfl) rfl Tryz.underlying152 ⟨_, _, _, rfl⟩ rfl (by decide)
theorem tok153 : TypeOk Tryz.prog 153 ti153 := typeOk_of (z := (.nilFunc)) (by kernel_rfl) rfl Tryz.underlying153 ⟨_, _, _, rfl⟩ rfl (by decide)
theorem tok154 : TypeOk Tryz.prog 154 ti154 := typeOk_of (z := (.nilFunc)) (by kernel_rfl) rfl Tryz.underlying154 ⟨_, _, _, rfl⟩ rfl (by decide)
theorem tok155 : TypeOk Tryz.prog 155 ti155 := typeOk_of (z := (.nilFunc)) (by kernel_rfl) rfl Tryz.underlying155 ⟨_, _, _, rfl⟩ rfl (by decide)
theorem tok157 : TypeOk Tryz.prog 157 ti157 := typeOk_of (z := (.nilFunc)) (by kernel_rfl) rfl Tryz.underlying157 ⟨_, _, _, rfl⟩ rfl (by decide)
theorem tok159 : TypeOk Tryz.prog 159 ti159 := typeOk_of (z := (.nilFunc)) (by kernel_rfl) rfl Tryz.underlying159 ⟨_, _, _, rfl⟩ rfl (by decide)
theorem tok161 : TypeOk Tryz.prog 161 ti161 := typeOk_of (z := (.nilFunc)) (by kernel_rfl) rfl Tryz.underlying161 ⟨_, _, _, rfl⟩ rfl (by decide)
theorem tok162 : TypeOk Tryz.prog 162 ti162 := typeOk_of (z := (.nilFunc)) (by kernel_rfl) rfl Tryz.underlying162 ⟨_, _, _, rfl⟩ rfl (by decide)
theorem tok164 : TypeOk Tryz.prog 164 ti164 := typeOk_of (z := (.nilFunc)) (by kernel_rfl) rfl Tryz.underlying164 ⟨_, _, _, rfl⟩ rfl (by decide)
theorem tok165 : TypeOk Tryz.prog 165 ti165 := typeOk_of (z := (.nilFunc)) (by kernel_rfl) rfl Tryz.underlying165 ⟨_, _, _, rfl⟩ rfl (by decide)
theorem tok167 : TypeOk Tryz.prog 167 ti167 := typeOk_of (z := (.nilFunc)) (by kernel_rfl) rfl Tryz.underlying167 ⟨_, _, _, rfl⟩ rfl (by decide)
theorem tok168 : TypeOk Tryz.prog 168 ti168 := typeOk_of (z := (.nilFunc)) (by kernel_rfl) rfl Tryz.underlying168 ⟨_, _, _, rfl⟩ rfl (by decide)
theorem tok169 : TypeOk Tryz.prog 169 ti169 := typeOk_of (z := (.nilFunc)) (by kernel_rfl) rfl Tryz.underlying169 ⟨_, _, _, rfl⟩ rfl (by decide)
theorem tok173 : TypeOk Tryz.prog 173 ti173 := typeOk_of (z := (.nilFunc)) (by kernel_rfl) rfl Tryz.underlying173 ⟨_, _, _, rfl⟩ rfl (by decide)
theorem tok179 : TypeOk Tryz.prog 179 ti179 := typeOk_of (z := (.int .u8 0)) (by kernel_rfl) rfl Tryz.underlying179 rfl rfl (by decide)
theorem tok180 : TypeOk Tryz.prog 180 ti180 := typeOk_of (z := (.int .u8 0)) (by kernel_rfl) rfl Tryz.underlying180 rfl rfl (by decide)
theorem tok181 : TypeOk Tryz.prog 181 ti181 := typeOk_of (z := (.nilFunc)) (by kernel_rfl) rfl Tryz.underlying181 ⟨_, _, _, rfl⟩ rfl (by decide)
theorem tok183 : TypeOk Tryz.prog 183 ti183 := typeOk_of (z := (.int .i32 0)) (by kernel_rfl) rfl Tryz.underlying183 rfl rfl (by decide)
theorem tok184 : TypeOk Tryz.prog 184 ti184 := typeOk_of (z := (.int .i32 0)) (by kernel_rfl) rfl Tryz.underlying184 rfl rfl (by decide)
theorem tok187 : TypeOk Tryz.prog 187 ti187 := typeOk_of (z := (.agg #[.string ⟨#[]⟩])) (by kernel_rfl) rfl Tryz.underlying187 ⟨_, rfl, rfl⟩ rfl (by decide)
theorem tok188 : TypeOk Tryz.prog 188 ti188 := typeOk_of (z := (.agg #[.string ⟨#[]⟩])) (by kernel_rfl) rfl Tryz.underlying188 ⟨_, rfl, rfl⟩ rfl (by decide)
def tbl : List (Nat × TI) := [(1, ti1), (2, ti2), (3, ti3), (4, ti4), (5, ti5), (6, ti6), (7, ti7), (8, ti8), (9, ti9), (10, ti10), (11, ti11), (12, ti12), (13, ti13), (14, ti14), (21, ti21), (22, ti22), (23, ti23), (24, ti24), (25, ti25), (26, ti26), (28, ti28), (29, ti29), (30, ti30), (32, ti32), (34, ti34), (35, ti35), (36, ti36), (37, ti37), (38, ti38), (40, ti40), (41, ti41), (43, ti43), (44, ti44), (45, ti45), (46, ti46), (47, ti47), (48, ti48), (49, ti49), (50, ti50), (51, ti51), (52, ti52), (53, ti53), (54, ti54), (56, ti56), (57, ti57), (58, ti58), (59, ti59), (60, ti60), (61, ti61), (62, ti62), (64, ti64), (65, ti65), (66, ti66), (67, ti67), (68, ti68), (69, ti69), (71, ti71), (72, ti72), (73, ti73), (74, ti74), (75, ti75), (76, ti76), (77, ti77), (79, ti79), (80, ti80), (81, ti81), (82, ti82), (83, ti83), (84, ti84), (85, ti85), (86, ti86), (87, ti87), (88, ti88), (89, ti89), (90, ti90), (91, ti91), (92, ti92), (93, ti93), (94, ti94), (95, ti95), (96, ti96), (97, ti97), (98, ti98), (99, ti99), (100, ti100), (101, ti101), (102, ti102), (104, ti104), (105, ti105), (106, ti106), (107, ti107), (108, ti108), (109, ti109), (110, ti110), (111, ti111), (112, ti112), (113, ti113), (114, ti114), (115, ti115), (116, ti116), (117, ti117), (118, ti118), (120, ti120), (121, ti121), (122, ti122), (123, ti123), (124, ti124), (125, ti125), (126, ti126), (127, ti127), (128, ti128), (129, ti129), (130, ti130), (131, ti131), (132, ti132), (133, ti133), (134, ti134), (135, ti135), (136, ti136), (137, ti137), (138, ti138), (139, ti139), (140, ti140), (142, ti142), (144, ti144), (145, ti145), (146, ti146), (148, ti148), (150, ti150), (151, ti151), (152, ti152), (153, ti153), (154, ti154), (155, ti155), (157, ti157), (159, ti159), (161, ti161), (162, ti162), (164, ti164), (165, ti165), (167, ti167), (168, ti168), (169, ti169), (173, ti173), (179, ti179), (180, ti180), (181, ti181), (183, ti183), (184, ti184), (187, ti187), (188, ti188)]
def T : TT := getT tbl
theorem typesOk : TypesOk Tryz.prog T := typesOk_of (by simp only [tbl, List.forall_mem_cons]; exact ⟨tok1, tok2, tok3, tok4, tok5, tok6, tok7, tok8, tok9, tok10, tok11, tok12, tok13, tok14, tok21, tok22, tok23, tok24, tok25, tok26, tok28, tok29, tok30, tok32, tok34, tok35, tok36, tok37, tok38, tok40, tok41, tok43, tok44, tok45, tok46, tok47, tok48, tok49, tok50, tok51, tok52, tok53, tok54, tok56, tok57, tok58, tok59, tok60, tok61, tok62, tok64, tok65, tok66, tok67, tok68, tok69, tok71, tok72, tok73, tok74, tok75, tok76, tok77, tok79, tok80, tok81, tok82, tok83, tok84, tok85, tok86, tok87, tok88, tok89, tok90, tok91, tok92, tok93, tok94, tok95, tok96, tok97, tok98, tok99, tok100, tok101, tok102, tok104, tok105, tok106, tok107, tok108, tok109, tok110, tok111, tok112, tok113, tok114, tok115, tok116, tok117, tok118, tok120, tok121, tok122, tok123, tok124, tok125, tok126, tok127, tok128, tok129, tok130, tok131, tok132, tok133, tok134, tok135, tok136, tok137, tok138, tok139, tok140, tok142, tok144, tok145, tok146, tok148, tok150, tok151, tok152, tok153, tok154, tok155, tok157, tok159, tok161, tok162, tok164, tok165, tok167, tok168, tok169, tok173, tok179, tok180, tok181, tok183, tok184, tok187, tok188, by simp⟩)
end Go.Proofs.YtcmieifjephdcaaGreat
set_option linter.unusedVariables false
set_option linter.unusedSimpArgs false
set_option maxRecDepth 100000
namespace Go.Proofs.YtcmieifjephdcaaGreat
open Go.Ab Go.RowKit
abbrev E0 : TypeId → Bool := fun t => Nat.beq t 38
theorem trim_run (k : Nat) (ds : List Nat) (hk : k ≤ 2) (hl : ds.length < 4611686018427387904) : Run Tryz.prog T E0 (.call 146 [.sl k (ds.map d32)] (.sl (if k = 0 then 0 else 1) ((trim ds).map d32))) := by
 refine mkcall Tryz.func146 rfl rfl (Nat.le_of_ble_eq_true rfl) <| WC.reg (z := 1) rfl <| WO.U (oAs rfl) rfl <| WO.nil <| WC.block <| WC.loopV (α := Nat × (List Nat)) (fun ⟨k1, es⟩ => [(0, .sl k1 (es.map d32))]) (fun ⟨k1, es⟩ => []) (fun ⟨k1, es⟩ n => (k1 = k ∨ k = 2 ∧ k1 = 1) ∧ trim es = trim ds ∧ es.length < 4611686018427387904) (fun ⟨k1, es⟩ => es.length) (k, ds) ⟨rfl, trivial⟩ trivial ⟨.inl rfl, rfl, hl⟩ ?_
 rintro ⟨k1, es⟩ n hF
 change WC _ _ _ _ _ [(0, .sl k1 (es.map d32))] ([]) n _
 obtain ⟨hk1, hds, hel⟩ := hF
 refine WC.assoc <| WC.reg (z := 12) rfl <| WO.U (oMv rfl) rfl <| WO.U (oLenM rfl rfl) rfl <| WO.U (oGtr rfl rfl) rfl <| WO.D (fun h5 => ?_) (fun h5 => ?_)
 rotate_left
 ·refine WO.U (oMv rfl) rfl <| WO.K rfl rfl <| WO.K rfl rfl <| WO.K rfl rfl <| WO.K rfl rfl <| WO.K rfl rfl <| WO.K rfl rfl <| WO.K rfl rfl <| WO.U (oPkF rfl rfl) rfl <| WO.nil <| WC.cF rfl <| WC.exits <| loopR_exit <| after_exit rfl <| WC.reg (z := 2) rfl <| WO.U (oMv rfl) rfl <| WO.U (oAs rfl) rfl <| WO.nil <| WC.weak [(2, _)] ⟨rfl, trivial⟩ <| WC.ret <| postW (n := 0) (.inr rfl) rfl ?_ (by simp)
  have ht : trim es = es := trim_done (by omega)
  rw [← hds, ht]
  rcases hk1 with rfl | ⟨rfl, rfl⟩
  ·have : k1 = 0 ∨ k1 = 1 ∨ k1 = 2 := by omega
   rcases this with rfl | rfl | rfl
   ·exact .same _
   ·exact .same _
   ·exact .two _
  ·exact .same _
 refine WO.U (oMv rfl) rfl <| WO.Ug rfl (oMv rfl) rfl <| WO.Ug rfl (oMv rfl) rfl <| WO.Ug rfl (oLenM rfl rfl) rfl <| WO.Ug rfl (oSub64 rfl rfl (by omega)) rfl <| WO.Ug rfl (oIxM (j := es.length - 1) rfl rfl rfl rfl (by omega) (by omega) rfl) rfl <| WO.Ug rfl (oLd rfl rfl rfl) rfl <| WO.Ug rfl (oEql rfl rfl) rfl <| WO.D (fun h13 => ?_) (fun h13 => ?_)
 ·refine WO.U (oPkT rfl rfl) rfl <| WO.nil <| WC.cT rfl <| WC.skips <| WC.block1 <| WC.reg1z (z := 6) rfl <| WO.U (oMv rfl) rfl <| WO.U (oMv rfl) rfl <| WO.U (oLenM rfl rfl) rfl <| WO.U (oSub64 rfl rfl (by omega)) rfl <| WO.U (oSlH (j := es.length - 1) rfl rfl rfl rows_d32 rfl (by omega) (by simp)) rfl <| WO.U (oAs rfl) rfl <| WO.nil <| after0_normal <| loopR_normal <| ⟨⟨if k1 = 2 then 1 else k1, es.take (es.length - 1)⟩, ⟨congrArg some ?_, trivial⟩, trivial, ⟨?_, ?_, ?_⟩, ?_⟩
  ·have h9 : es.length - 1 < es.length := by omega
   simp [h9]
  ·split <;> omega
  ·rw [trim_step (by omega) (by omega)]; exact hds
  ·simp; omega
  ·simp; omega
 refine WO.U (oPkT rfl rfl) rfl <| WO.nil <| WC.cF rfl <| WC.exits <| loopR_exit <| after_exit rfl <| WC.reg (z := 2) rfl <| WO.U (oMv rfl) rfl <| WO.U (oAs rfl) rfl <| WO.nil <| WC.weak [(2, _)] ⟨rfl, trivial⟩ <| WC.ret <| postW (n := 0) (.inr rfl) rfl ?_ (by simp)
 have ht : trim es = es := trim_done (by omega)
 rw [← hds, ht]
 rcases hk1 with rfl | ⟨rfl, rfl⟩
 ·have : k1 = 0 ∨ k1 = 1 ∨ k1 = 2 := by omega
  rcases this with rfl | rfl | rfl
  ·exact .same _
  ·exact .same _
  ·exact .two _
 ·exact .same _
theorem sign_run (v : Int) : Run Tryz.prog T E0 (.call 111 [lvI v] (.v (.int .i64 v.sign))) := by
 refine mkcall Tryz.func111 rfl rfl (Nat.le_of_ble_eq_true rfl) <| WC.reg (z := 2) rfl <| WO.S (oBx rfl rfl) rfl <| WO.U (oAs rfl) rfl <| WO.nil <| WC.block <| WC.reg (z := 4) rfl <| WO.U (oFaP rfl rfl rfl rfl rfl) rfl <| WO.U (oLdP rfl rfl rfl rfl rfl) rfl <| WO.U (oGtr rfl rfl) rfl <| WO.D (fun h6 => ?_) (fun h6 => ?_)
 ·refine WO.U (oAs rfl) rfl <| WO.nil <| WC.cT1 rfl <| WC.reg (z := 1) rfl <| WO.U (oAs rfl) rfl <| WO.nil <| WC.ret <| after_ret <| post (n := 0) (.inr rfl) rfl (congrArg (fun z => LV.v (.int .i64 z)) ?_) (by simp)
  exact (Int.sign_eq_one_of_pos ((ia_pos v).1 h6)).symm
 refine WO.U (oAs rfl) rfl <| WO.nil <| WC.cF1 rfl <| WC.reg (z := 4) rfl <| WO.U (oFaP rfl rfl rfl rfl rfl) rfl <| WO.U (oLdP rfl rfl rfl rfl rfl) rfl <| WO.U (oLss rfl rfl) rfl <| WO.D (fun h10 => ?_) (fun h10 => ?_)
 ·refine WO.U (oAs rfl) rfl <| WO.nil <| WC.cT1 rfl <| WC.reg (z := 1) rfl <| WO.U (oAs rfl) rfl <| WO.nil <| WC.ret <| after_ret <| post (n := 0) (.inr rfl) rfl (congrArg (fun z => LV.v (.int .i64 z)) ?_) (by simp)
  exact (Int.sign_eq_neg_one_of_neg ((ia_neg v).1 h10)).symm
 refine WO.U (oAs rfl) rfl <| WO.nil <| WC.cF1 rfl <| WC.skip <| after_normal <| WC.reg (z := 1) rfl <| WO.U (oAs rfl) rfl <| WO.nil <| WC.ret <| post (n := 0) (.inr rfl) rfl (congrArg (fun z => LV.v (.int .i64 z)) ?_) (by simp)
 have h1 := ia_pos v
 have h2 := ia_neg v
 have : v = 0 := by omega
 subst this; rfl
theorem neg_run (v : Int) : Run Tryz.prog T E0 (.call 117 [lvI v] (lvI (-v))) := by
 have hb := ia_bd v
 refine mkcall Tryz.func117 rfl rfl (Nat.le_of_ble_eq_true rfl) <| WC.reg (z := 2) rfl <| WO.S (oBx rfl rfl) rfl <| WO.S (oAl rfl) rfl <| WO.nil <| WC.reg (z := 7) rfl <| WO.U (oFaP rfl rfl rfl rfl rfl) rfl <| WO.U (oLdP rfl rfl rfl rfl rfl) rfl <| WO.U (oNeg64 rfl (by omega)) rfl <| WO.U (oFaP rfl rfl rfl rfl rfl) rfl <| WO.U (oLdP rfl rfl rfl rfl rfl) rfl <| WO.U (oBd (cs := [_, _]) rfl rfl rfl rfl rfl) rfl <| WO.S0 (oSt (cs' := [_, _]) rfl rfl rfl rfl rfl rfl rfl rfl) <| WO.nil <| WC.ret <| post (n := 0) (.inr rfl) rfl ?_ (by simp)
 simp only [lvI, ia_negate, ik_negate, idg_negate]; rfl
theorem abs_run (v : Int) : Run Tryz.prog T E0 (.call 127 [lvI v] (lvI v.natAbs)) := by
 refine mkcall Tryz.func127 rfl rfl (Nat.le_of_ble_eq_true rfl) <| WC.reg (z := 2) rfl <| WO.S (oBx rfl rfl) rfl <| WO.S (oAl rfl) rfl <| WO.nil <| WC.assoc <| WC.reg (z := 3) rfl <| WO.U (oFaP rfl rfl rfl rfl rfl) rfl <| WO.U (oLdP rfl rfl rfl rfl rfl) rfl <| WO.U (oLss rfl rfl) rfl <| WO.D (fun h5 => ?_) (fun h5 => ?_)
 rotate_left
 ·refine WO.nil <| WC.cF rfl <| WC.skips <| WC.reg (z := 2) rfl <| WO.U (oLdP (l := .agg [_, _]) rfl rfl rfl rfl rfl) rfl <| WO.S0 (oSt (cs' := [_, _]) rfl rfl rfl rfl rfl rfl rfl rfl) <| WO.nil <| WC.ret <| post (n := 0) (.inr rfl) rfl ?_ (by simp)
  have h1 := ia_neg v
  have : (v.natAbs : Int) = v := by omega
  rw [this]; rfl
 refine WO.nil <| WC.cT rfl <| WC.assoc <| WC.reg (z := 3) rfl <| WO.U (oLdP (l := .agg [_, _]) rfl rfl rfl rfl rfl) rfl <| WO.U (oCall rfl (neg_run _) (by simp)) rfl <| WO.S0 (oSt (cs' := [_, _]) rfl rfl rfl rfl rfl rfl rfl rfl) <| WO.nil <| WC.rets <| post (n := 0) (.inr rfl) rfl ?_ (by simp)
 have h1 := (ia_neg v).1 h5
 have : (v.natAbs : Int) = -v := by omega
 rw [this]; rfl
theorem one_run  : Run Tryz.prog T E0 (.call 120 [] (lvI 1)) := by
 refine mkcall Tryz.func120 rfl rfl (Nat.le_of_ble_eq_true rfl) <| WC.reg (z := 1) rfl <| WO.S (oAl rfl) rfl <| WO.nil <| WC.reg (z := 2) rfl <| WO.U (oBd (cs := [_, _]) rfl rfl rfl rfl rfl) rfl <| WO.S0 (oSt (cs' := [_, _]) rfl rfl rfl rfl rfl rfl rfl rfl) <| WO.nil <| WC.ret ?_
 exact post (n := 0) (.inr rfl) rfl rfl (by simp)
theorem of_run (v : Int) (hv : -9223372036854775808 ≤ v ∧ v ≤ 9223372036854775807) : Run Tryz.prog T E0 (.call 110 [.v (.int .i64 v)] (lvI v)) := by
 refine mkcall Tryz.func110 rfl rfl (Nat.le_of_ble_eq_true rfl) <| WC.reg (z := 1) rfl <| WO.S (oAl rfl) rfl <| WO.nil <| WC.assoc <| WC.reg (z := 6) rfl <| WO.U (oMv rfl) rfl <| WO.U (oGtr rfl rfl) rfl <| WO.D (fun h6 => ?_) (fun h6 => ?_)
 rotate_left
 ·refine WO.U (oMv rfl) rfl <| WO.K rfl rfl <| WO.K rfl rfl <| WO.U (oPkF rfl rfl) rfl <| WO.nil <| WC.cF rfl <| WC.skips <| WC.reg (z := 1) rfl <| WO.U (oAs rfl) rfl <| WO.nil <| WC.reg (z := 3) rfl <| WO.U (oMv rfl) rfl <| WO.U (OP.castI (b := v % 18446744073709551616) (oCnv rfl rfl rfl) (IntKind.wrap_u64 _)) rfl <| WO.U (oAs rfl) rfl <| WO.nil <| WC.assoc <| WC.reg (z := 2) rfl <| WO.U (oMv rfl) rfl <| WO.U (oLss rfl rfl) rfl <| WO.D (fun h16 => ?_) (fun h16 => ?_)
  rotate_left
  ·refine WO.nil <| WC.cF rfl <| WC.skips <| WC.reg (z := 9) rfl <| WO.U (oMv rfl) rfl <| WO.U (oMv rfl) rfl <| WO.U (OP.castI (b := ((v.natAbs % 4294967296 : Nat) : Int)) (oCnv rfl rfl rfl) (by rw [IntKind.wrap_u32]; omega)) rfl <| WO.U (oMv rfl) rfl <| WO.U (OP.castI (b := ((v.natAbs / 4294967296 : Nat) : Int)) (oShrU (s := 32) rfl rfl (by omega)) (by omega)) rfl <| WO.U (OP.castI (b := ((v.natAbs / 4294967296 : Nat) : Int)) (oCnv rfl rfl rfl) (by rw [IntKind.wrap_u32]; omega)) rfl <| WO.U (oBs' (cs := [_, _]) (rows := [[_], [_]]) rfl rfl (by decide) rfl rfl rfl) rfl <| WO.U (oBd (cs := [_, _]) rfl rfl rfl rfl rfl) rfl <| WO.S0 (oSt (cs' := [_, _]) rfl rfl rfl rfl rfl rfl rfl rfl) <| WO.nil <| WC.weak [(2, _)] ⟨rfl, trivial⟩ <| WC.ret ?_
   omega
  refine WO.nil <| WC.cT rfl <| WC.reg (z := 4) rfl <| WO.U (oMv rfl) rfl <| WO.U (OP.castI (b := ((v.natAbs : Nat) : Int)) (oNeg rfl) (by rw [IntKind.wrap_u64]; omega)) rfl <| WO.U (oAs rfl) rfl <| WO.U (oAs rfl) rfl <| WO.nil <| WC.weak [(2, _), (3, _), (4, _)] ⟨rfl, rfl, rfl, trivial⟩ <| WC.reg (z := 9) rfl <| WO.U (oMv rfl) rfl <| WO.U (oMv rfl) rfl <| WO.U (OP.castI (b := ((v.natAbs % 4294967296 : Nat) : Int)) (oCnv rfl rfl rfl) (by rw [IntKind.wrap_u32]; omega)) rfl <| WO.U (oMv rfl) rfl <| WO.U (OP.castI (b := ((v.natAbs / 4294967296 : Nat) : Int)) (oShrU (s := 32) rfl rfl (by omega)) (by omega)) rfl <| WO.U (OP.castI (b := ((v.natAbs / 4294967296 : Nat) : Int)) (oCnv rfl rfl rfl) (by rw [IntKind.wrap_u32]; omega)) rfl <| WO.U (oBs' (cs := [_, _]) (rows := [[_], [_]]) rfl rfl (by decide) rfl rfl rfl) rfl <| WO.U (oBd (cs := [_, _]) rfl rfl rfl rfl rfl) rfl <| WO.S0 (oSt (cs' := [_, _]) rfl rfl rfl rfl rfl rfl rfl rfl) <| WO.nil <| WC.ret <| postW (n := 0) (l := .agg [_, _]) (.inr rfl) rfl ?_ (by simp)
  have hns : ¬ small v := by unfold small; omega
  rw [lvI_big hns, Int.sign_eq_neg_one_of_neg h16, ← two_big (m := v.natAbs) (by omega) (by omega)]
  exact .int _ _
 refine WO.U (oMv rfl) rfl <| WO.Ug rfl (oMv rfl) rfl <| WO.Ug rfl (oLss rfl rfl) rfl <| WO.D (fun h9 => ?_) (fun h9 => ?_)
 ·refine WO.U (oPkT rfl rfl) rfl <| WO.nil <| WC.cT rfl <| WC.assoc <| WC.reg (z := 3) rfl <| WO.U (oMv rfl) rfl <| WO.U (oBd (cs := [_, _]) rfl rfl rfl rfl rfl) rfl <| WO.S0 (oSt (cs' := [_, _]) rfl rfl rfl rfl rfl rfl rfl rfl) <| WO.nil <| WC.rets <| post (n := 0) (.inr rfl) rfl ?_ (by simp)
  rw [lvI_small ⟨h6, h9⟩]; rfl
 refine WO.U (oPkT rfl rfl) rfl <| WO.nil <| WC.cF rfl <| WC.skips <| WC.reg (z := 1) rfl <| WO.U (oAs rfl) rfl <| WO.nil <| WC.reg (z := 3) rfl <| WO.U (oMv rfl) rfl <| WO.U (OP.castI (b := v % 18446744073709551616) (oCnv rfl rfl rfl) (IntKind.wrap_u64 _)) rfl <| WO.U (oAs rfl) rfl <| WO.nil <| WC.assoc <| WC.reg (z := 2) rfl <| WO.U (oMv rfl) rfl <| WO.U (oLss rfl rfl) rfl <| WO.D (fun h16 => ?_) (fun h16 => ?_)
 rotate_left
 ·refine WO.nil <| WC.cF rfl <| WC.skips <| WC.reg (z := 9) rfl <| WO.U (oMv rfl) rfl <| WO.U (oMv rfl) rfl <| WO.U (OP.castI (b := ((v.natAbs % 4294967296 : Nat) : Int)) (oCnv rfl rfl rfl) (by rw [IntKind.wrap_u32]; omega)) rfl <| WO.U (oMv rfl) rfl <| WO.U (OP.castI (b := ((v.natAbs / 4294967296 : Nat) : Int)) (oShrU (s := 32) rfl rfl (by omega)) (by omega)) rfl <| WO.U (OP.castI (b := ((v.natAbs / 4294967296 : Nat) : Int)) (oCnv rfl rfl rfl) (by rw [IntKind.wrap_u32]; omega)) rfl <| WO.U (oBs' (cs := [_, _]) (rows := [[_], [_]]) rfl rfl (by decide) rfl rfl rfl) rfl <| WO.U (oBd (cs := [_, _]) rfl rfl rfl rfl rfl) rfl <| WO.S0 (oSt (cs' := [_, _]) rfl rfl rfl rfl rfl rfl rfl rfl) <| WO.nil <| WC.weak [(2, _)] ⟨rfl, trivial⟩ <| WC.ret <| postW (n := 0) (l := .agg [_, _]) (.inr rfl) rfl ?_ (by simp)
  have hns : ¬ small v := by unfold small; omega
  rw [lvI_big hns, Int.sign_eq_one_of_pos (by omega), ← two_big (m := v.natAbs) (by omega) (by omega)]
  exact .int _ _
 refine WO.nil <| WC.cT rfl <| WC.reg (z := 4) rfl <| WO.U (oMv rfl) rfl <| WO.U (OP.castI (b := ((v.natAbs : Nat) : Int)) (oNeg rfl) (by rw [IntKind.wrap_u64]; omega)) rfl <| WO.U (oAs rfl) rfl <| WO.U (oAs rfl) rfl <| WO.nil <| WC.weak [(2, _), (3, _), (4, _)] ⟨rfl, rfl, rfl, trivial⟩ <| WC.reg (z := 9) rfl <| WO.U (oMv rfl) rfl <| WO.U (oMv rfl) rfl <| WO.U (OP.castI (b := ((v.natAbs % 4294967296 : Nat) : Int)) (oCnv rfl rfl rfl) (by rw [IntKind.wrap_u32]; omega)) rfl <| WO.U (oMv rfl) rfl <| WO.U (OP.castI (b := ((v.natAbs / 4294967296 : Nat) : Int)) (oShrU (s := 32) rfl rfl (by omega)) (by omega)) rfl <| WO.U (OP.castI (b := ((v.natAbs / 4294967296 : Nat) : Int)) (oCnv rfl rfl rfl) (by rw [IntKind.wrap_u32]; omega)) rfl <| WO.U (oBs' (cs := [_, _]) (rows := [[_], [_]]) rfl rfl (by decide) rfl rfl rfl) rfl <| WO.U (oBd (cs := [_, _]) rfl rfl rfl rfl rfl) rfl <| WO.S0 (oSt (cs' := [_, _]) rfl rfl rfl rfl rfl rfl rfl rfl) <| WO.nil <| WC.ret <| postW (n := 0) (l := .agg [_, _]) (.inr rfl) rfl ?_ (by simp)
 have hns : ¬ small v := by unfold small; omega
 rw [lvI_big hns, Int.sign_eq_neg_one_of_neg h16, ← two_big (m := v.natAbs) (by omega) (by omega)]
 exact .int _ _
theorem int_run (v b : Int) (hb : 0 ≤ b ∧ b < 4611686018427387904) : Run Tryz.prog T E0 (.call 93 [lvI v, .v (.int .i64 b)] (.tup [.v (.int .i64 (if -b ≤ v ∧ v ≤ b then v else 0)), .v (.bool (decide (-b ≤ v ∧ v ≤ b)))])) := by
 refine mkcall Tryz.func93 rfl rfl (Nat.le_of_ble_eq_true rfl) <| WC.reg (z := 3) rfl <| WO.S (oBx rfl rfl) rfl <| WO.U (oAs rfl) rfl <| WO.U (oAs rfl) rfl <| WO.nil <| WC.assoc <| WC.reg (z := 16) rfl <| WO.U (oFaP rfl rfl rfl rfl rfl) rfl <| WO.U (oLdP rfl rfl rfl rfl rfl) rfl <| WO.U (oNilN rfl rfl) rfl <| WO.B (fun h8 => ?_) (fun h8 => ?_)
 ·refine WO.U (oMv rfl) rfl <| WO.K rfl rfl <| WO.K rfl rfl <| WO.K rfl rfl <| WO.K rfl rfl <| WO.U (oPkT rfl rfl) rfl <| WO.U (oMv rfl) rfl <| WO.K rfl rfl <| WO.K rfl rfl <| WO.K rfl rfl <| WO.K rfl rfl <| WO.K rfl rfl <| WO.U (oPkT rfl rfl) rfl <| WO.nil <| WC.weak [(2, _), (21, _)] ⟨rfl, rfl, trivial⟩ <| WC.cT rfl <| WC.assoc <| WC.reg (z := 2) rfl <| WO.U (oAs rfl) rfl <| WO.U (oAs rfl) rfl <| WO.nil <| WC.rets <| post (n := 0) (.inr rfl) rfl ?_ (by simp)
  have hs := ik_eq'.1 h8
  have hn : ¬ (-b ≤ v ∧ v ≤ b) := by unfold small at hs; omega
  rw [if_neg hn, decide_eq_false hn]; rfl
 refine WO.U (oMv rfl) rfl <| WO.Ug rfl (oFaP rfl rfl rfl rfl rfl) rfl <| WO.Ug rfl (oLdP rfl rfl rfl rfl rfl) rfl <| WO.Ug rfl (oMv rfl) rfl <| WO.Ug rfl (oGtr rfl rfl) rfl <| WO.D (fun h13 => ?_) (fun h13 => ?_)
 ·refine WO.U (oPkF rfl rfl) rfl <| WO.U (oMv rfl) rfl <| WO.K rfl rfl <| WO.K rfl rfl <| WO.K rfl rfl <| WO.K rfl rfl <| WO.K rfl rfl <| WO.U (oPkT rfl rfl) rfl <| WO.nil <| WC.weak [(2, _), (21, _)] ⟨rfl, rfl, trivial⟩ <| WC.cT rfl <| WC.assoc <| WC.reg (z := 2) rfl <| WO.U (oAs rfl) rfl <| WO.U (oAs rfl) rfl <| WO.nil <| WC.rets <| post (n := 0) (.inr rfl) rfl ?_ (by simp)
  have hs := ia_small (ik_ne'.1 h8)
  have hn : ¬ (-b ≤ v ∧ v ≤ b) := by omega
  rw [if_neg hn, decide_eq_false hn]; rfl
 refine WO.U (oPkF rfl rfl) rfl <| WO.U (oMv rfl) rfl <| WO.Ug rfl (oFaP rfl rfl rfl rfl rfl) rfl <| WO.Ug rfl (oLdP rfl rfl rfl rfl rfl) rfl <| WO.Ug rfl (oMv rfl) rfl <| WO.Ug rfl (oNeg64 rfl (by omega)) rfl <| WO.Ug rfl (oLss rfl rfl) rfl <| WO.D (fun h20 => ?_) (fun h20 => ?_)
 ·refine WO.U (oPkF rfl rfl) rfl <| WO.nil <| WC.weak [(2, _), (21, _)] ⟨rfl, rfl, trivial⟩ <| WC.cT rfl <| WC.assoc <| WC.reg (z := 2) rfl <| WO.U (oAs rfl) rfl <| WO.U (oAs rfl) rfl <| WO.nil <| WC.rets <| post (n := 0) (.inr rfl) rfl ?_ (by simp)
  have hs := ia_small (ik_ne'.1 h8)
  have hn : ¬ (-b ≤ v ∧ v ≤ b) := by omega
  rw [if_neg hn, decide_eq_false hn]; rfl
 refine WO.U (oPkF rfl rfl) rfl <| WO.nil <| WC.weak [(2, _), (21, _)] ⟨rfl, rfl, trivial⟩ <| WC.cF rfl <| WC.skips <| WC.reg (z := 4) rfl <| WO.U (oFaP rfl rfl rfl rfl rfl) rfl <| WO.U (oLdP rfl rfl rfl rfl rfl) rfl <| WO.U (oAs rfl) rfl <| WO.U (oAs rfl) rfl <| WO.nil <| WC.ret <| post (n := 0) (.inr rfl) rfl ?_ (by simp)
 have hs := ia_small (ik_ne'.1 h8)
 have hn : -b ≤ v ∧ v ≤ b := by omega
 rw [if_pos hn, decide_eq_true hn]
 exact congrArg (fun z => LV.tup [.v (.int .i64 z), .v (.bool true)]) hs
theorem digits_run (v : Int) : Run Tryz.prog T E0 (.call 133 [lvI v] (.tup [.v (.int .i64 v.sign), .sl 1 ((dgs B32 v.natAbs).map d32)])) := by
 have hb := ia_bd v
 refine mkcall Tryz.func133 rfl rfl (Nat.le_of_ble_eq_true rfl) <| WC.reg (z := 3) rfl <| WO.S (oBx rfl rfl) rfl <| WO.U (oAs rfl) rfl <| WO.U (oAs rfl) rfl <| WO.nil <| WC.assoc <| WC.reg (z := 3) rfl <| WO.U (oFaP rfl rfl rfl rfl rfl) rfl <| WO.U (oLdP rfl rfl rfl rfl rfl) rfl <| WO.U (oNilN rfl rfl) rfl <| WO.B (fun h8 => ?_) (fun h8 => ?_)
 ·refine WO.nil <| WC.cT rfl <| WC.assoc <| WC.draw (z := 6) rfl (by kernel_rfl) <| WD.U (oFaP rfl rfl rfl rfl rfl) rfl <| WD.U (oLdP rfl rfl rfl rfl rfl) rfl <| WD.U (oFaP rfl rfl rfl rfl rfl) rfl <| WD.U (oLdP rfl rfl rfl rfl rfl) rfl <| WD.U (oAs rfl) rfl <| WD.U (oAs rfl) rfl <| WD.nil (drawOk_of (by kernel_rfl)) rfl <| WC.rets <| post (n := 0) (.inr rfl) rfl ?_ (by simp)
  have hs := ik_eq'.1 h8
  rw [ia_big hs, ik_big hs, idg_big hs]; rfl
 have hs := ik_ne'.1 h8
 have hia := ia_small hs
 refine WO.nil <| WC.cF rfl <| WC.skips <| WC.reg (z := 2) rfl <| WO.U (oAs rfl) rfl <| WO.U (oAs rfl) rfl <| WO.nil <| WC.block <| WC.reg (z := 4) rfl <| WO.U (oFaP rfl rfl rfl rfl rfl) rfl <| WO.U (oLdP rfl rfl rfl rfl rfl) rfl <| WO.U (oGtr rfl rfl) rfl <| WO.D (fun h16 => ?_) (fun h16 => ?_)
 ·refine WO.U (oAs rfl) rfl <| WO.nil <| WC.cT1 rfl <| WC.draw1z (z := 5) rfl (by kernel_rfl) <| WD.U (oFaP rfl rfl rfl rfl rfl) rfl <| WD.U (oLdP rfl rfl rfl rfl rfl) rfl <| WD.U (OP.castI (b := ((v.natAbs : Nat) : Int)) (oCnv rfl rfl rfl) (by rw [IntKind.wrap_u64]; omega)) rfl <| WD.U (oAs rfl) rfl <| WD.U (oAs rfl) rfl <| WD.nil (drawOk_of (by kernel_rfl)) rfl <| after_normal <| WC.weak [(4, _), (5, _)] ⟨rfl, rfl, trivial⟩ <| WC.reg (z := 10) rfl <| WO.U (oMv rfl) rfl <| WO.U (oMv rfl) rfl <| WO.U (OP.castI (b := ((v.natAbs % 4294967296 : Nat) : Int)) (oCnv rfl rfl rfl) (by rw [IntKind.wrap_u32]; omega)) rfl <| WO.U (oMv rfl) rfl <| WO.U (OP.castI (b := ((v.natAbs / 4294967296 : Nat) : Int)) (oShrU (s := 32) rfl rfl (by omega)) (by omega)) rfl <| WO.U (OP.castI (b := ((v.natAbs / 4294967296 : Nat) : Int)) (oCnv rfl rfl rfl) (by rw [IntKind.wrap_u32]; omega)) rfl <| WO.U (oBs' (cs := [_, _]) (rows := [[_], [_]]) rfl rfl (by decide) rfl rfl rfl) rfl <| WO.U (oCall rfl (trim_run 2 [v.natAbs % 4294967296, v.natAbs / 4294967296] (by omega) (by simp)) (by simp)) rfl <| WO.U (oAs rfl) rfl <| WO.U (oAs rfl) rfl <| WO.nil ?_
  refine WC.ret <| post (n := 0) (.inr rfl) rfl ?_ (by simp)
  rw [← two_dg (m := v.natAbs) (by omega), Int.sign_eq_one_of_pos (by omega)]; rfl
 refine WO.U (oAs rfl) rfl <| WO.nil <| WC.cF1 rfl <| WC.reg (z := 4) rfl <| WO.U (oFaP rfl rfl rfl rfl rfl) rfl <| WO.U (oLdP rfl rfl rfl rfl rfl) rfl <| WO.U (oLss rfl rfl) rfl <| WO.D (fun h23 => ?_) (fun h23 => ?_)
 rotate_left
 ·refine WO.U (oAs rfl) rfl <| WO.nil <| WC.weak [(1, _), (4, _), (5, _), (20, _)] ⟨rfl, rfl, rfl, rfl, trivial⟩ <| WC.cF1 rfl <| WC.skip <| after_normal <| WC.reg (z := 10) rfl <| WO.U (oMv rfl) rfl <| WO.U (oMv rfl) rfl <| WO.U (OP.castI (b := ((v.natAbs % 4294967296 : Nat) : Int)) (oCnv rfl rfl rfl) (by rw [IntKind.wrap_u32]; omega)) rfl <| WO.U (oMv rfl) rfl <| WO.U (OP.castI (b := ((v.natAbs / 4294967296 : Nat) : Int)) (oShrU (s := 32) rfl rfl (by omega)) (by omega)) rfl <| WO.U (OP.castI (b := ((v.natAbs / 4294967296 : Nat) : Int)) (oCnv rfl rfl rfl) (by rw [IntKind.wrap_u32]; omega)) rfl <| WO.U (oBs' (cs := [_, _]) (rows := [[_], [_]]) rfl rfl (by decide) rfl rfl rfl) rfl <| WO.U (oCall rfl (trim_run 2 [v.natAbs % 4294967296, v.natAbs / 4294967296] (by omega) (by simp)) (by simp)) rfl <| WO.U (oAs rfl) rfl <| WO.U (oAs rfl) rfl <| WO.nil <| WC.ret <| post (n := 0) (.inr rfl) rfl ?_ (by simp)
  have h0 : v = 0 := by omega
  rw [← two_dg (m := v.natAbs) (by omega)]
  subst h0; rfl
 refine WO.U (oAs rfl) rfl <| WO.nil <| WC.weak [(1, _), (4, _), (5, _), (20, _)] ⟨rfl, rfl, rfl, rfl, trivial⟩ <| WC.cT1 rfl <| WC.draw1z (z := 6) rfl (by kernel_rfl) <| WD.U (oFaP rfl rfl rfl rfl rfl) rfl <| WD.U (oLdP rfl rfl rfl rfl rfl) rfl <| WD.U (oNeg64 rfl (by omega)) rfl <| WD.U (OP.castI (b := ((v.natAbs : Nat) : Int)) (oCnv rfl rfl rfl) (by rw [IntKind.wrap_u64]; omega)) rfl <| WD.U (oAs rfl) rfl <| WD.U (oAs rfl) rfl <| WD.nil (drawOk_of (by kernel_rfl)) rfl <| after_normal <| WC.reg (z := 10) rfl <| WO.U (oMv rfl) rfl <| WO.U (oMv rfl) rfl <| WO.U (OP.castI (b := ((v.natAbs % 4294967296 : Nat) : Int)) (oCnv rfl rfl rfl) (by rw [IntKind.wrap_u32]; omega)) rfl <| WO.U (oMv rfl) rfl <| WO.U (OP.castI (b := ((v.natAbs / 4294967296 : Nat) : Int)) (oShrU (s := 32) rfl rfl (by omega)) (by omega)) rfl <| WO.U (OP.castI (b := ((v.natAbs / 4294967296 : Nat) : Int)) (oCnv rfl rfl rfl) (by rw [IntKind.wrap_u32]; omega)) rfl <| WO.U (oBs' (cs := [_, _]) (rows := [[_], [_]]) rfl rfl (by decide) rfl rfl rfl) rfl <| WO.U (oCall rfl (trim_run 2 [v.natAbs % 4294967296, v.natAbs / 4294967296] (by omega) (by simp)) (by simp)) rfl <| WO.U (oAs rfl) rfl <| WO.U (oAs rfl) rfl ?_
 refine WO.nil <| WC.weak [(2, _), (3, _)] ⟨rfl, rfl, trivial⟩ <| WC.ret <| post (n := 0) (.inr rfl) rfl ?_ (by simp)
 rw [← two_dg (m := v.natAbs) (by omega), Int.sign_eq_neg_one_of_neg (by omega)]; rfl
theorem add32_run (x y c : Nat) (hx : x < 4294967296) (hy : y < 4294967296) (hc : c ≤ 1) : Run Tryz.prog T E0 (.call 147 [.v (.int .u32 (x : Int)), .v (.int .u32 (y : Int)), .v (.int .u32 (c : Int))] (.tup [.v (.int .u32 (((x + y + c) % 4294967296 : Nat) : Int)), .v (.int .u32 (((x + y + c) / 4294967296 : Nat) : Int))])) := by
 refine mkcall Tryz.func147 rfl rfl (Nat.le_of_ble_eq_true rfl) <| WC.reg (z := 2) rfl <| WO.U (oAs rfl) rfl <| WO.U (oAs rfl) rfl <| WO.nil <| WC.reg (z := 9) rfl <| WO.U (oMv rfl) rfl <| WO.U (OP.castI (b := (x : Int)) (oCnv rfl rfl rfl) (by rw [IntKind.wrap_u64]; omega)) rfl <| WO.U (oMv rfl) rfl <| WO.U (OP.castI (b := (y : Int)) (oCnv rfl rfl rfl) (by rw [IntKind.wrap_u64]; omega)) rfl <| WO.U (OP.castI (b := ((x + y : Nat) : Int)) (oAddU rfl rfl) (by omega)) rfl <| WO.U (oMv rfl) rfl <| WO.U (OP.castI (b := (c : Int)) (oCnv rfl rfl rfl) (by rw [IntKind.wrap_u64]; omega)) rfl <| WO.U (OP.castI (b := ((x + y + c : Nat) : Int)) (oAddU rfl rfl) (by omega)) rfl <| WO.U (oAs rfl) rfl <| WO.nil <| WC.reg (z := 3) rfl <| WO.U (oMv rfl) rfl <| WO.U (OP.castI (b := (((x + y + c) % 4294967296 : Nat) : Int)) (oCnv rfl rfl rfl) (by rw [IntKind.wrap_u32]; omega)) rfl <| WO.U (oAs rfl) rfl <| WO.nil <| WC.weak [(6, _), (8, _)] ⟨rfl, rfl, trivial⟩ <| WC.reg (z := 4) rfl <| WO.U (oMv rfl) rfl ?_
 refine WO.U (OP.castI (b := (((x + y + c) / 4294967296 : Nat) : Int)) (oShrU (s := 32) rfl rfl (by omega)) (by omega)) rfl <| WO.U (OP.castI (b := (((x + y + c) / 4294967296 : Nat) : Int)) (oCnv rfl rfl rfl) (by rw [IntKind.wrap_u32]; omega)) rfl <| WO.U (oAs rfl) rfl <| WO.nil <| WC.ret ?_
 exact post (n := 0) (.inr rfl) rfl rfl (by simp)
theorem compare_run (k1 k2 : Nat) (xs ys : List Nat) (hx : Dg B32 xs) (hy : Dg B32 ys) (tx : Trm xs) (ty : Trm ys) (lx : xs.length < 4611686018427387904) (ly : ys.length < 4611686018427387904) : Run Tryz.prog T E0 (.call 139 [.sl k1 (xs.map d32), .sl k2 (ys.map d32)] (.v (.int .i64 ((val B32 xs : Int) - val B32 ys).sign))) := by
 refine mkcall Tryz.func139 rfl rfl (Nat.le_of_ble_eq_true rfl) <| WC.reg (z := 1) rfl <| WO.U (oAs rfl) rfl <| WO.nil <| WC.assoc <| WC.reg (z := 5) rfl <| WO.U (oMv rfl) rfl <| WO.U (oLenM rfl rfl) rfl <| WO.U (oMv rfl) rfl <| WO.U (oLenM rfl rfl) rfl <| WO.U (oNeq rfl rfl) rfl <| WO.D (fun h10 => ?_) (fun h10 => ?_)
 ·refine WO.nil <| WC.cT rfl <| WC.assoc <| WC.assoc <| WC.reg (z := 5) rfl <| WO.U (oMv rfl) rfl <| WO.U (oLenM rfl rfl) rfl <| WO.U (oMv rfl) rfl <| WO.U (oLenM rfl rfl) rfl <| WO.U (oLss rfl rfl) rfl <| WO.D (fun h15 => ?_) (fun h15 => ?_)
  ·refine WO.nil <| WC.cT rfl <| WC.assoc <| WC.reg (z := 1) rfl <| WO.U (oAs rfl) rfl <| WO.nil <| WC.rets <| post (n := 0) (.inr rfl) rfl (congrArg (fun z => LV.v (.int .i64 z)) ?_) (by simp)
   have := val_lt_len (B := B32) (by decide) hx ty (by omega)
   exact (Int.sign_eq_neg_one_of_neg (by omega)).symm
  refine WO.nil <| WC.cF rfl <| WC.skips <| WC.assoc <| WC.reg (z := 1) rfl <| WO.U (oAs rfl) rfl <| WO.nil <| WC.rets <| post (n := 0) (.inr rfl) rfl (congrArg (fun z => LV.v (.int .i64 z)) ?_) (by simp)
  have := val_lt_len (B := B32) (by decide) hy tx (by omega)
  exact (Int.sign_eq_one_of_pos (by omega)).symm
 have hlen : xs.length = ys.length := by omega
 refine WO.nil <| WC.cF rfl <| WC.skips <| WC.assoc <| WC.reg (z := 4) rfl <| WO.U (oMv rfl) rfl <| WO.U (oLenM rfl rfl) rfl <| WO.U (oSub64 rfl rfl (by omega)) rfl <| WO.U (oAs rfl) rfl <| WO.nil <| WC.block <| WC.loopV (α := Nat) (fun k => [(0, .sl k1 (xs.map d32)), (1, .sl k2 (ys.map d32)), (5, .v (.int .i64 ((k : Int) - 1)))]) (fun k => []) (fun k n => k ≤ xs.length ∧ xs.drop k = ys.drop k) (fun k => k) (xs.length) ⟨rfl, rfl, rfl, trivial⟩ trivial ⟨Nat.le_refl _, by rw [List.drop_length, hlen, List.drop_length]⟩ ?_
 rintro k n hF
 change WC _ _ _ _ _ [(0, .sl k1 (xs.map d32)), (1, .sl k2 (ys.map d32)), (5, .v (.int .i64 ((k : Int) - 1)))] ([]) n _
 obtain ⟨hk, hd⟩ := hF
 refine WC.assoc <| WC.reg (z := 2) rfl <| WO.U (oMv rfl) rfl <| WO.U (oGeq rfl rfl) rfl <| WO.D (fun h20 => ?_) (fun h20 => ?_)
 rotate_left
 ·refine WO.nil <| WC.cF rfl <| WC.exits <| loopR_exit <| after_exit rfl <| WC.reg (z := 1) rfl <| WO.U (oAs rfl) rfl <| WO.nil <| WC.ret <| post (n := 0) (.inr rfl) rfl (congrArg (fun z => LV.v (.int .i64 z)) ?_) (by simp)
  have h0 : k = 0 := by omega
  subst h0
  simp only [List.drop_zero] at hd
  subst hd
  simp
 refine WO.nil <| WC.cT rfl <| WC.skips <| WC.block <| WC.draw (z := 9) rfl (by kernel_rfl) <| WD.U (oMv rfl) rfl <| WD.U (oMv rfl) rfl <| WD.U (oIxM (j := k - 1) rfl rfl rfl rfl (by omega) (by omega) rfl) rfl <| WD.U (oLd rfl rfl rfl) rfl <| WD.U (oMv rfl) rfl <| WD.U (oMv rfl) rfl <| WD.U (oIxM (j := k - 1) rfl rfl rfl rfl (by omega) (by omega) rfl) rfl <| WD.U (oLd rfl rfl rfl) rfl <| WD.U (oNeq rfl rfl) rfl <| WD.D (fun h31 => ?_) (fun h31 => ?_)
 rotate_left
 ·refine WD.nil (drawOk_of (by kernel_rfl)) rfl <| WC.cF1 rfl <| WC.skip <| after_normal <| WC.reg1z (z := 3) rfl <| WO.U (oMv rfl) rfl <| WO.U (OP.castI (b := ((k - 1 : Nat) : Int) - 1) (oSub64 rfl rfl (by omega)) (by omega)) rfl <| WO.U (oAs rfl) rfl <| WO.nil <| loopR_normal ?_
  have hj : k - 1 + 1 = k := by omega
  refine ⟨k - 1, ⟨rfl, rfl, rfl, trivial⟩, trivial, ⟨by omega, ?_⟩, by show k - 1 < k; omega⟩
  rw [drop_cons_getD (by omega : k - 1 < xs.length), drop_cons_getD (by omega : k - 1 < ys.length), hj, hd]
  congr 1; omega
 refine WD.nil (drawOk_of (by kernel_rfl)) rfl <| WC.cT1 rfl <| WC.assoc <| WC.draw (z := 9) rfl (by kernel_rfl) <| WD.U (oMv rfl) rfl <| WD.U (oMv rfl) rfl <| WD.U (oIxM (j := k - 1) rfl rfl rfl rfl (by omega) (by omega) rfl) rfl <| WD.U (oLd rfl rfl rfl) rfl <| WD.U (oMv rfl) rfl <| WD.U (oMv rfl) rfl <| WD.U (oIxM (j := k - 1) rfl rfl rfl rfl (by omega) (by omega) rfl) rfl <| WD.U (oLd rfl rfl rfl) rfl <| WD.U (oLss rfl rfl) rfl <| WD.D (fun h40 => ?_) (fun h40 => ?_)
 ·refine WD.nil (drawOk_of (by kernel_rfl)) rfl <| WC.weak [(40, _)] ⟨rfl, trivial⟩ <| WC.cT rfl <| WC.assoc <| WC.reg (z := 1) rfl <| WO.U (oAs rfl) rfl <| WO.nil <| WC.rets <| after_ret <| loopR_ret <| after_ret <| post (n := 0) (.inr rfl) rfl (congrArg (fun z => LV.v (.int .i64 z)) ?_) (by simp)
  have hj : k - 1 + 1 = k := by omega
  have := val_lt_at (B := B32) (ys := ys) (by decide) hx (k := k - 1) (by omega) (by omega) (by rw [hj]; exact hd) (by omega)
  exact (Int.sign_eq_neg_one_of_neg (by omega)).symm
 refine WD.nil (drawOk_of (by kernel_rfl)) rfl <| WC.weak [(40, _)] ⟨rfl, trivial⟩ <| WC.cF rfl <| WC.skips <| WC.reg (z := 1) rfl <| WO.U (oAs rfl) rfl <| WO.nil <| WC.ret <| after_ret <| loopR_ret <| after_ret <| post (n := 0) (.inr rfl) rfl (congrArg (fun z => LV.v (.int .i64 z)) ?_) (by simp)
 have hj : k - 1 + 1 = k := by omega
 have := val_lt_at (B := B32) (ys := xs) (by decide) hy (k := k - 1) (by omega) (by omega) (by rw [hj]; exact hd.symm) (by omega)
 exact (Int.sign_eq_one_of_pos (by omega)).symm
end Go.Proofs.YtcmieifjephdcaaGreat
set_option linter.unusedVariables false
set_option linter.unusedSimpArgs false
set_option maxRecDepth 100000
namespace Go.Proofs.YtcmieifjephdcaaGreat
open Go.Ab Go.RowKit
theorem sub32_run (x y c : Nat) (hx : x < 4294967296) (hy : y < 4294967296) (hc : c ≤ 1) : Run Tryz.prog T E0 (.call 148 [.v (.int .u32 (x : Int)), .v (.int .u32 (y : Int)), .v (.int .u32 (c : Int))] (.tup [.v (.int .u32 ((((x + 8589934592 - y - c) % 4294967296) : Nat) : Int)), .v (.int .u32 ((if x < y + c then 1 else 0 : Nat) : Int))])) := by
 have hxy : x ^^^ y < 4294967296 := Nat.xor_lt_two_pow (n := 32) hx hy
 refine mkcall Tryz.func148 rfl rfl (Nat.le_of_ble_eq_true rfl) <| WC.reg (z := 2) rfl <| WO.U (oAs rfl) rfl <| WO.U (oAs rfl) rfl <| WO.nil <| WC.reg (z := 6) rfl <| WO.U (oMv rfl) rfl <| WO.U (oMv rfl) rfl <| WO.U (oSub32 rfl rfl) rfl <| WO.U (oMv rfl) rfl <| WO.U (OP.castI (b := ((((x + 8589934592 - y - c) % 4294967296) : Nat) : Int)) (oSub32 rfl rfl) (by omega)) rfl <| WO.U (oAs rfl) rfl <| WO.nil <| WC.reg (z := 13) rfl <| WO.U (oMv rfl) rfl <| WO.U (oCom32 (a := x) rfl hx) rfl <| WO.U (oMv rfl) rfl <| WO.U (oBin (v := .int .u32 (((4294967295 - x) &&& y : Nat) : Int)) rfl rfl (and32 (by omega) hy)) rfl <| WO.U (oMv rfl) rfl <| WO.U (oMv rfl) rfl <| WO.U (oBin (v := .int .u32 ((x ^^^ y : Nat) : Int)) rfl rfl (xor32 hx hy)) rfl <| WO.U (oCom32 (a := x ^^^ y) rfl hxy) rfl <| WO.U (oMv rfl) rfl <| WO.U (oBin (v := .int .u32 (((4294967295 - (x ^^^ y)) &&& ((x + 8589934592 - y - c) % 4294967296) : Nat) : Int)) rfl rfl (and32 (by omega) (by omega))) rfl ?_
 refine WO.U (oBin (v := .int .u32 ((((4294967295 - x) &&& y) ||| ((4294967295 - (x ^^^ y)) &&& ((x + 8589934592 - y - c) % 4294967296)) : Nat) : Int)) rfl rfl (or32 (Nat.lt_of_le_of_lt Nat.and_le_right hy) (Nat.lt_of_le_of_lt Nat.and_le_left (by omega)))) rfl <| WO.U (OP.castI (b := ((if x < y + c then 1 else 0 : Nat) : Int)) (oShr32 (s := 31) rfl rfl (by omega)) (by rw [← borrow hx hy hc (d := ((x + 8589934592 - y - c) % 4294967296)) (by omega)]; rfl)) rfl <| WO.U (oAs rfl) rfl <| WO.nil <| WC.weak [(6, _), (7, _)] ⟨rfl, rfl, trivial⟩ <| WC.ret ?_
 exact post (n := 0) (.inr rfl) rfl rfl (by simp)
theorem plus_run (k1 k2 : Nat) (xs ys : List Nat) (hx : Dg B32 xs) (hy : Dg B32 ys) (lx : xs.length < 1099511627776) (ly : ys.length < 1099511627776) : ∃ r, Run Tryz.prog T E0 (.call 138 [.sl k1 (xs.map d32), .sl k2 (ys.map d32)] r) ∧ ∃ ds, r = .sl 1 (ds.map d32) ∧ Dg B32 ds ∧ val B32 ds = val B32 xs + val B32 ys ∧ ds.length ≤ max xs.length ys.length + 1 := by
 refine mkcallE Tryz.func138 rfl rfl (Nat.le_of_ble_eq_true rfl) ?_
 have J3 : ∀ (k1 k2 : Nat) (us ws : List Nat) (hu : Dg B32 us) (hw : Dg B32 ws) (hle : ws.length ≤ us.length) (hm : us.length ≤ max xs.length ys.length) (hs : val B32 us + val B32 ws = val B32 xs + val B32 ys) (n : Nat) , WC Tryz.prog T E0 Tryz.f138.ntmps (codeR (codeR (codeOf Tryz.f138))) [(0, .sl k1 (us.map d32)), (1, .sl k2 (ws.map d32))] [] n (fun x e h n => ∃ r, (∃ ds, r = .sl 1 (ds.map d32) ∧ Dg B32 ds ∧ val B32 ds = val B32 xs + val B32 ys ∧ ds.length ≤ max xs.length ys.length + 1) ∧ Post T Tryz.f138.results.toList r x e h n) := by
  intro k1 k2 us ws hu hw hle hm hs n
  refine WC.reg (z := 5) rfl <| WO.U (oMv rfl) rfl <| WO.U (oLenM rfl rfl) rfl <| WO.U (oAdd64 rfl rfl (by omega)) rfl <| WO.S (oMk (a := 0) (b := us.length + 1) rfl rfl rfl rfl rfl rfl (by decide) (by omega) (by show 4 * (us.length + 1) ≤ _; omega) (by omega)) rfl <| WO.U (oAs rfl) rfl <| WO.nil <| WC.reg (z := 1) rfl <| WO.U (oAs rfl) rfl <| WO.nil <| WC.assoc <| WC.reg (z := 3) rfl <| WO.U (oMv rfl) rfl <| WO.U (oLenM rfl rfl) rfl <| WO.U (oMv rfl) rfl <| WO.nil <| WC.block <| WC.loopV (α := Nat × Nat × (List Nat)) (fun ⟨c, q, ds⟩ => [(0, .sl k1 (us.map d32)), (1, .sl k2 (ws.map d32)), (5, .ref q 1 0 ds.length), (6, .v (.int .u32 (c : Int))), (22, .v (.int .i64 (us.length : Int))), (23, .v (.int .i64 (ds.length : Int)))]) (fun ⟨c, q, ds⟩ => [(q, { cells := (ds.map d32).flatten, sz := 1, elem := 125, st := 0 })]) (fun ⟨c, q, ds⟩ n => ds.length ≤ us.length ∧ Dg B32 ds ∧ c ≤ 1 ∧ val B32 ds + B32 ^ ds.length * c = val B32 (us.take ds.length) + val B32 (ws.take ds.length)) (fun ⟨c, q, ds⟩ => us.length - ds.length) (0, n + 3, []) ⟨rfl, rfl, rfl, rfl, rfl, rfl, trivial⟩ ⟨g0, trivial⟩ ⟨Nat.zero_le _, by intro d hd; simp at hd, by omega, by simp [val]⟩ ?_
  rintro ⟨c, q, ds⟩ n hF
  change WC _ _ _ _ _ [(0, .sl k1 (us.map d32)), (1, .sl k2 (ws.map d32)), (5, .ref q 1 0 ds.length), (6, .v (.int .u32 (c : Int))), (22, .v (.int .i64 (us.length : Int))), (23, .v (.int .i64 (ds.length : Int)))] ([(q, { cells := (ds.map d32).flatten, sz := 1, elem := 125, st := 0 })]) n _
  obtain ⟨hdl, hdd, hc, hi⟩ := hF
  refine WC.reg (z := 1) rfl <| WO.U (oLss rfl rfl) rfl <| WO.D (fun h24 => ?_) (fun h24 => ?_)
  rotate_left
  ·refine WO.nil <| WC.cF rfl <| WC.exits <| loopR_exit <| after_exit rfl <| WC.reg (z := 5) rfl <| WO.U (oMv rfl) rfl <| WO.U (oMv rfl) rfl <| WO.U (oBs' (cs := [_]) (rows := [[_]]) rfl rfl (by decide) rfl rfl rfl) rfl <| WO.S (oApM (f := d32) rfl rfl rfl rfl rfl (fun _ => rfl) (by decide) g0 (by show (2 * (ds.length + 1) + 256) * 4 ≤ _; omega) (by omega)) rfl <| WO.U (oAs rfl) rfl <| WO.nil <| WC.ret <| ⟨.sl 1 ((ds ++ [c]).map d32), ⟨_, rfl, hdd.snoc (by show c < 4294967296; omega), ?_, by simp; omega⟩, postRef (n := 0) _ (.inr rfl) rfl (by simp) g0 (by show (0 : Nat) ≠ 2; decide) rfl (by decide) rfl rows_d32 data_rows_d32⟩
   have hl : ds.length = us.length := by omega
   rw [val_snoc, hi, List.take_of_length_le (by omega), List.take_of_length_le (by omega), hs]
  refine WO.nil <| WC.cT rfl <| WC.skips <| WC.block <| WC.reg (z := 2) rfl <| WO.U (oMv rfl) rfl <| WO.U (oAs rfl) rfl <| WO.nil <| WC.reg (z := 1) rfl <| WO.U (oAs rfl) rfl <| WO.nil <| WC.assoc <| WC.reg (z := 4) rfl <| WO.U (oMv rfl) rfl <| WO.U (oMv rfl) rfl <| WO.U (oLenM rfl rfl) rfl <| WO.U (oLss rfl rfl) rfl <| WO.D (fun h29 => ?_) (fun h29 => ?_)
  rotate_left
  ·refine WO.nil <| WC.cF rfl <| WC.skips <| WC.reg (z := 1) rfl <| WO.U (oAs rfl) rfl <| WO.nil <| WC.weak [(0, _), (1, _), (5, _), (6, _), (7, _), (8, _), (22, _), (23, _)] ⟨rfl, rfl, rfl, rfl, rfl, rfl, rfl, rfl, trivial⟩ ?_
   have hxl : us.getD ds.length default < 4294967296 := getD_lt hu (by omega)
   refine WC.reg (z := 12) rfl <| WO.U (oMv rfl) rfl <| WO.U (oMv rfl) rfl <| WO.U (oIxM rfl rfl rfl rfl rfl (by omega) rfl) rfl <| WO.U (oLd rfl rfl rfl) rfl <| WO.U (oMv rfl) rfl <| WO.U (oMv rfl) rfl <| WO.U (oCall rfl (add32_run (us.getD ds.length default) 0 c hxl (by decide) hc) (by simp)) rfl <| WO.U (oMv rfl) rfl <| WO.U (oEx rfl rfl) rfl <| WO.U (oEx rfl rfl) rfl <| WO.U (oAs rfl) rfl <| WO.U (oAs rfl) rfl <| WO.nil <| WC.weak [(0, _), (1, _), (5, _), (6, _), (9, _), (22, _), (23, _)] ⟨rfl, rfl, rfl, rfl, rfl, rfl, rfl, trivial⟩ <| WC.reg1z (z := 5) rfl <| WO.U (oMv rfl) rfl <| WO.U (oMv rfl) rfl <| WO.U (oBs' (cs := [_]) (rows := [[_]]) rfl rfl (by decide) rfl rfl rfl) rfl <| WO.S (oApM (f := d32) rfl rfl rfl rfl rfl (fun _ => rfl) (by decide) g0 (by show (2 * (ds.length + 1) + 256) * 4 ≤ _; omega) (by omega)) rfl <| WO.U (oAs rfl) rfl <| WO.nil <| after_normal <| WC.reg1z (z := 2) rfl ?_
   refine WO.U (OP.castI (b := ((ds.length + 1 : Nat) : Int)) (oAdd64 rfl rfl (by omega)) (by omega)) rfl <| WO.U (oMv rfl) rfl <| WO.nil <| loopR_normal <| ⟨⟨_, _, ds ++ [_]⟩, ⟨rfl, rfl, rfl, rfl, rfl, congrArg some (by simp), trivial⟩, ⟨g0, trivial⟩, ⟨by simp; omega, hdd.snoc (Nat.mod_lt _ (by decide)), by omega, plus_step hi rfl (getD_out (by omega)).symm⟩, by simp; omega⟩
  refine WO.nil <| WC.cT rfl <| WC.reg (z := 5) rfl <| WO.U (oMv rfl) rfl <| WO.U (oMv rfl) rfl <| WO.U (oIxM rfl rfl rfl rfl rfl (by omega) rfl) rfl <| WO.U (oLd rfl rfl rfl) rfl <| WO.U (oAs rfl) rfl <| WO.nil <| WC.weak [(0, _), (1, _), (5, _), (6, _), (7, _), (8, _), (22, _), (23, _)] ⟨rfl, rfl, rfl, rfl, rfl, rfl, rfl, rfl, trivial⟩ <| WC.reg (z := 1) rfl <| WO.U (oAs rfl) rfl <| WO.nil ?_
  have hxl : us.getD ds.length default < 4294967296 := getD_lt hu (by omega)
  have hyl : ws.getD ds.length default < 4294967296 := getD_lt hw (by omega)
  refine WC.reg (z := 12) rfl <| WO.U (oMv rfl) rfl <| WO.U (oMv rfl) rfl <| WO.U (oIxM rfl rfl rfl rfl rfl (by omega) rfl) rfl <| WO.U (oLd rfl rfl rfl) rfl <| WO.U (oMv rfl) rfl <| WO.U (oMv rfl) rfl <| WO.U (oCall rfl (add32_run (us.getD ds.length default) (ws.getD ds.length default) c hxl hyl hc) (by simp)) rfl <| WO.U (oMv rfl) rfl <| WO.U (oEx rfl rfl) rfl <| WO.U (oEx rfl rfl) rfl <| WO.U (oAs rfl) rfl <| WO.U (oAs rfl) rfl <| WO.nil <| WC.weak [(0, _), (1, _), (5, _), (6, _), (9, _), (22, _), (23, _)] ⟨rfl, rfl, rfl, rfl, rfl, rfl, rfl, trivial⟩ <| WC.reg1z (z := 5) rfl <| WO.U (oMv rfl) rfl <| WO.U (oMv rfl) rfl <| WO.U (oBs' (cs := [_]) (rows := [[_]]) rfl rfl (by decide) rfl rfl rfl) rfl <| WO.S (oApM (f := d32) rfl rfl rfl rfl rfl (fun _ => rfl) (by decide) g0 (by show (2 * (ds.length + 1) + 256) * 4 ≤ _; omega) (by omega)) rfl <| WO.U (oAs rfl) rfl <| WO.nil <| after_normal <| WC.reg1z (z := 2) rfl ?_
  refine WO.U (OP.castI (b := ((ds.length + 1 : Nat) : Int)) (oAdd64 rfl rfl (by omega)) (by omega)) rfl <| WO.U (oMv rfl) rfl <| WO.nil <| loopR_normal <| ⟨⟨_, _, ds ++ [_]⟩, ⟨rfl, rfl, rfl, rfl, rfl, congrArg some (by simp), trivial⟩, ⟨g0, trivial⟩, ⟨by simp; omega, hdd.snoc (Nat.mod_lt _ (by decide)), by omega, plus_step hi rfl rfl⟩, by simp; omega⟩
 refine WC.reg (z := 1) rfl <| WO.U (oAs rfl) rfl <| WO.nil <| WC.assoc <| WC.reg (z := 5) rfl <| WO.U (oMv rfl) rfl <| WO.U (oLenM rfl rfl) rfl <| WO.U (oMv rfl) rfl <| WO.U (oLenM rfl rfl) rfl <| WO.U (oLss rfl rfl) rfl <| WO.D (fun h14 => ?_) (fun h14 => ?_)
 rotate_left
 ·refine WO.nil <| WC.cF rfl <| WC.skips <| WC.weak [(0, _), (1, _)] ⟨rfl, rfl, trivial⟩ ?_
  exact J3 _ _ xs ys hx hy (by omega) (by omega) rfl _
 refine WO.nil <| WC.cT rfl <| WC.reg (z := 4) rfl <| WO.U (oMv rfl) rfl <| WO.U (oMv rfl) rfl <| WO.U (oAs rfl) rfl <| WO.U (oAs rfl) rfl <| WO.nil <| WC.weak [(0, _), (1, _)] ⟨rfl, rfl, trivial⟩ ?_
 exact J3 _ _ ys xs hy hx (by omega) (by omega) (by omega) _
theorem minus_run (k1 k2 : Nat) (xs ys : List Nat) (hx : Dg B32 xs) (hy : Dg B32 ys) (lx : xs.length < 1099511627776) (hle : ys.length ≤ xs.length) (hv : val B32 ys ≤ val B32 xs) : ∃ r, Run Tryz.prog T E0 (.call 140 [.sl k1 (xs.map d32), .sl k2 (ys.map d32)] r) ∧ ∃ ds, r = .sl 1 (ds.map d32) ∧ Dg B32 ds ∧ val B32 ds = val B32 xs - val B32 ys ∧ ds.length = xs.length := by
 refine mkcallE Tryz.func140 rfl rfl (Nat.le_of_ble_eq_true rfl) <| WC.reg (z := 1) rfl <| WO.U (oAs rfl) rfl <| WO.nil <| WC.reg (z := 4) rfl <| WO.U (oMv rfl) rfl <| WO.U (oLenM rfl rfl) rfl <| WO.S (oMk (a := 0) (b := xs.length) rfl rfl rfl rfl rfl rfl (by decide) (by omega) (by show 4 * xs.length ≤ _; omega) (by omega)) rfl <| WO.U (oAs rfl) rfl <| WO.nil <| WC.reg (z := 1) rfl <| WO.U (oAs rfl) rfl <| WO.nil <| WC.assoc <| WC.reg (z := 3) rfl <| WO.U (oMv rfl) rfl <| WO.U (oLenM rfl rfl) rfl <| WO.U (oMv rfl) rfl <| WO.nil <| WC.block <| WC.loopV (α := Nat × Nat × (List Nat)) (fun ⟨c, q, ds⟩ => [(0, .sl k1 (xs.map d32)), (1, .sl k2 (ys.map d32)), (5, .ref q 1 0 ds.length), (6, .v (.int .u32 (c : Int))), (14, .v (.int .i64 (xs.length : Int))), (15, .v (.int .i64 (ds.length : Int)))]) (fun ⟨c, q, ds⟩ => [(q, { cells := (ds.map d32).flatten, sz := 1, elem := 125, st := 0 })]) (fun ⟨c, q, ds⟩ n => ds.length ≤ xs.length ∧ Dg B32 ds ∧ c ≤ 1 ∧ val B32 (xs.take ds.length) + B32 ^ ds.length * c = val B32 ds + val B32 (ys.take ds.length)) (fun ⟨c, q, ds⟩ => xs.length - ds.length) (0, 0 + 1 + 2, []) ⟨rfl, rfl, rfl, rfl, rfl, rfl, trivial⟩ ⟨g0, trivial⟩ ⟨Nat.zero_le _, by intro d hd; simp at hd, by omega, by simp [val]⟩ ?_
 rintro ⟨c, q, ds⟩ n hF
 change WC _ _ _ _ _ [(0, .sl k1 (xs.map d32)), (1, .sl k2 (ys.map d32)), (5, .ref q 1 0 ds.length), (6, .v (.int .u32 (c : Int))), (14, .v (.int .i64 (xs.length : Int))), (15, .v (.int .i64 (ds.length : Int)))] ([(q, { cells := (ds.map d32).flatten, sz := 1, elem := 125, st := 0 })]) n _
 obtain ⟨hdl, hdd, hc, hi⟩ := hF
 refine WC.reg (z := 1) rfl <| WO.U (oLss rfl rfl) rfl <| WO.D (fun h16 => ?_) (fun h16 => ?_)
 rotate_left
 ·refine WO.nil <| WC.cF rfl <| WC.exits <| loopR_exit <| after_exit rfl <| WC.reg (z := 2) rfl <| WO.U (oMv rfl) rfl <| WO.U (oAs rfl) rfl <| WO.nil <| WC.ret <| ⟨.sl 1 (ds.map d32), ⟨_, rfl, hdd, ?_, by omega⟩, postRef (n := 0) _ (.inr rfl) rfl (by simp) g0 (by show (0 : Nat) ≠ 2; decide) rfl (by decide) rfl rows_d32 data_rows_d32⟩
  have hl : ds.length = xs.length := by omega
  rw [List.take_of_length_le (by omega), List.take_of_length_le (by omega)] at hi
  have hlt := val_lt (B := B32) (by decide) hdd
  rcases (show c = 0 ∨ c = 1 by omega) with rfl | rfl
  ·omega
  ·omega
 refine WO.nil <| WC.cT rfl <| WC.skips <| WC.block <| WC.reg (z := 2) rfl <| WO.U (oMv rfl) rfl <| WO.U (oAs rfl) rfl <| WO.nil <| WC.reg (z := 1) rfl <| WO.U (oAs rfl) rfl <| WO.nil <| WC.assoc <| WC.reg (z := 4) rfl <| WO.U (oMv rfl) rfl <| WO.U (oMv rfl) rfl <| WO.U (oLenM rfl rfl) rfl <| WO.U (oLss rfl rfl) rfl <| WO.D (fun h21 => ?_) (fun h21 => ?_)
 rotate_left
 ·refine WO.nil <| WC.cF rfl <| WC.skips <| WC.reg (z := 1) rfl <| WO.U (oAs rfl) rfl <| WO.nil <| WC.weak [(0, _), (1, _), (5, _), (6, _), (7, _), (8, _), (14, _), (15, _)] ⟨rfl, rfl, rfl, rfl, rfl, rfl, rfl, rfl, trivial⟩ ?_
  have hxl : xs.getD ds.length default < 4294967296 := getD_lt hx (by omega)
  refine WC.reg (z := 12) rfl <| WO.U (oMv rfl) rfl <| WO.U (oMv rfl) rfl <| WO.U (oIxM rfl rfl rfl rfl rfl (by omega) rfl) rfl <| WO.U (oLd rfl rfl rfl) rfl <| WO.U (oMv rfl) rfl <| WO.U (oMv rfl) rfl <| WO.U (oCall rfl (sub32_run (xs.getD ds.length default) 0 c hxl (by decide) hc) (by simp)) rfl <| WO.U (oMv rfl) rfl <| WO.U (oEx rfl rfl) rfl <| WO.U (oEx rfl rfl) rfl <| WO.U (oAs rfl) rfl <| WO.U (oAs rfl) rfl <| WO.nil <| WC.weak [(0, _), (1, _), (5, _), (6, _), (9, _), (14, _), (15, _)] ⟨rfl, rfl, rfl, rfl, rfl, rfl, rfl, trivial⟩ <| WC.reg1z (z := 5) rfl <| WO.U (oMv rfl) rfl <| WO.U (oMv rfl) rfl <| WO.U (oBs' (cs := [_]) (rows := [[_]]) rfl rfl (by decide) rfl rfl rfl) rfl <| WO.S (oApM (f := d32) rfl rfl rfl rfl rfl (fun _ => rfl) (by decide) g0 (by show (2 * (ds.length + 1) + 256) * 4 ≤ _; omega) (by omega)) rfl <| WO.U (oAs rfl) rfl <| WO.nil <| after_normal <| WC.reg1z (z := 2) rfl ?_
  refine WO.U (OP.castI (b := ((ds.length + 1 : Nat) : Int)) (oAdd64 rfl rfl (by omega)) (by omega)) rfl <| WO.U (oMv rfl) rfl <| WO.nil <| loopR_normal <| ⟨⟨_, _, ds ++ [_]⟩, ⟨rfl, rfl, rfl, rfl, rfl, congrArg some (by simp), trivial⟩, ⟨g0, trivial⟩, ⟨by simp; omega, hdd.snoc (Nat.mod_lt _ (by decide)), by split <;> omega, minus_step hi rfl (getD_out (by omega)).symm (by show _ = _ + 4294967296 * _; split <;> omega)⟩, by simp; omega⟩
 refine WO.nil <| WC.cT rfl <| WC.reg (z := 5) rfl <| WO.U (oMv rfl) rfl <| WO.U (oMv rfl) rfl <| WO.U (oIxM rfl rfl rfl rfl rfl (by omega) rfl) rfl <| WO.U (oLd rfl rfl rfl) rfl <| WO.U (oAs rfl) rfl <| WO.nil <| WC.weak [(0, _), (1, _), (5, _), (6, _), (7, _), (8, _), (14, _), (15, _)] ⟨rfl, rfl, rfl, rfl, rfl, rfl, rfl, rfl, trivial⟩ <| WC.reg (z := 1) rfl <| WO.U (oAs rfl) rfl <| WO.nil ?_
 have hxl : xs.getD ds.length default < 4294967296 := getD_lt hx (by omega)
 have hyl : ys.getD ds.length default < 4294967296 := getD_lt hy (by omega)
 refine WC.reg (z := 12) rfl <| WO.U (oMv rfl) rfl <| WO.U (oMv rfl) rfl <| WO.U (oIxM rfl rfl rfl rfl rfl (by omega) rfl) rfl <| WO.U (oLd rfl rfl rfl) rfl <| WO.U (oMv rfl) rfl <| WO.U (oMv rfl) rfl <| WO.U (oCall rfl (sub32_run (xs.getD ds.length default) (ys.getD ds.length default) c hxl hyl hc) (by simp)) rfl <| WO.U (oMv rfl) rfl <| WO.U (oEx rfl rfl) rfl <| WO.U (oEx rfl rfl) rfl <| WO.U (oAs rfl) rfl <| WO.U (oAs rfl) rfl <| WO.nil <| WC.weak [(0, _), (1, _), (5, _), (6, _), (9, _), (14, _), (15, _)] ⟨rfl, rfl, rfl, rfl, rfl, rfl, rfl, trivial⟩ <| WC.reg1z (z := 5) rfl <| WO.U (oMv rfl) rfl <| WO.U (oMv rfl) rfl <| WO.U (oBs' (cs := [_]) (rows := [[_]]) rfl rfl (by decide) rfl rfl rfl) rfl <| WO.S (oApM (f := d32) rfl rfl rfl rfl rfl (fun _ => rfl) (by decide) g0 (by show (2 * (ds.length + 1) + 256) * 4 ≤ _; omega) (by omega)) rfl <| WO.U (oAs rfl) rfl <| WO.nil <| after_normal <| WC.reg1z (z := 2) rfl ?_
 refine WO.U (OP.castI (b := ((ds.length + 1 : Nat) : Int)) (oAdd64 rfl rfl (by omega)) (by omega)) rfl <| WO.U (oMv rfl) rfl <| WO.nil <| loopR_normal <| ⟨⟨_, _, ds ++ [_]⟩, ⟨rfl, rfl, rfl, rfl, rfl, congrArg some (by simp), trivial⟩, ⟨g0, trivial⟩, ⟨by simp; omega, hdd.snoc (Nat.mod_lt _ (by decide)), by split <;> omega, minus_step hi rfl rfl (by show _ = _ + 4294967296 * _; split <;> omega)⟩, by simp; omega⟩
theorem made_run (s : Int) (k : Nat) (ds : List Nat) (hs : s = 1 ∨ s = -1 ∨ s = 0 ∧ val B32 ds = 0) (hk : k = 1 ∨ k = 2) (hd : Dg B32 ds) (hl : ds.length < 4611686018427387904) : Run Tryz.prog T E0 (.call 134 [.v (.int .i64 s), .sl k (ds.map d32)] (lvI (s * val B32 ds))) := by
 have hkk : (if k = 0 then 0 else 1) = 1 := by rw [if_neg (by omega)]
 have htd := trim_dg hd
 have hrun := trim_run k ds (by omega) hl
 rw [hkk] at hrun
 have htl : (trim ds).length ≤ ds.length := by
  unfold trim; simpa using (List.dropWhile_sublist (· == 0) (l := ds.reverse)).length_le
 generalize hes : trim ds = es at *
 refine mkcall Tryz.func134 rfl rfl (Nat.le_of_ble_eq_true rfl) <| WC.reg (z := 1) rfl <| WO.S (oAl rfl) rfl <| WO.nil <| WC.reg (z := 3) rfl <| WO.U (oMv rfl) rfl <| WO.U (oCall rfl (hrun) (by simp)) rfl <| WO.U (oAs rfl) rfl <| WO.nil <| WC.assoc <| WC.reg (z := 3) rfl <| WO.U (oMv rfl) rfl <| WO.U (oLenM rfl rfl) rfl <| WO.U (oLeq rfl rfl) rfl <| WO.D (fun h12 => ?_) (fun h12 => ?_)
 rotate_left
 ·refine WO.nil <| WC.cF rfl <| WC.skips <| WC.reg (z := 4) rfl <| WO.U (oMv rfl) rfl <| WO.U (oMv rfl) rfl <| WO.U (oBd (cs := [_, _]) rfl rfl rfl rfl rfl) rfl <| WO.S0 (oSt (cs' := [_, _]) rfl rfl rfl rfl rfl rfl rfl rfl) <| WO.nil <| WC.ret <| post (n := 0) (.inr rfl) rfl ?_ (by simp)
  have hb := val_big hd (by rw [hes]; omega)
  rw [lvI_made hd (by have : val B32 ds = val 4294967296 ds := rfl; omega) hb, hes]; rfl
 refine WO.nil <| WC.cT rfl <| WC.assoc <| WC.reg (z := 1) rfl <| WO.U (oAs rfl) rfl <| WO.nil <| WC.assoc <| WC.assoc <| WC.reg (z := 3) rfl <| WO.U (oMv rfl) rfl <| WO.U (oLenM rfl rfl) rfl <| WO.U (oMv rfl) rfl <| WO.nil <| WC.block <| WC.loopV (α := Nat × Nat) (fun ⟨i, m⟩ => [(0, .v (.int .i64 s)), (1, .sl 1 (es.map d32)), (4, .ptr 0 0), (5, .v (.int .u64 (m : Int))), (13, .sl 1 (es.map d32)), (14, .v (.int .i64 (es.length : Int))), (15, .v (.int .i64 (i : Int)))]) (fun ⟨i, m⟩ => [(0, { cells := [.v (.int .i64 0), .sl 0 []], sz := 2, elem := 75, st := 0 })]) (fun ⟨i, m⟩ n => i ≤ es.length ∧ m = val B32 (es.take i)) (fun ⟨i, m⟩ => es.length - i) (0, 0) ⟨rfl, rfl, rfl, rfl, rfl, rfl, rfl, trivial⟩ ⟨rfl, trivial⟩ ⟨Nat.zero_le _, by simp [val]⟩ ?_
 rintro ⟨i, m⟩ n hF
 change WC _ _ _ _ _ [(0, .v (.int .i64 s)), (1, .sl 1 (es.map d32)), (4, .ptr 0 0), (5, .v (.int .u64 (m : Int))), (13, .sl 1 (es.map d32)), (14, .v (.int .i64 (es.length : Int))), (15, .v (.int .i64 (i : Int)))] ([(0, { cells := [.v (.int .i64 0), .sl 0 []], sz := 2, elem := 75, st := 0 })]) n _
 obtain ⟨hi, hm⟩ := hF
 refine WC.reg (z := 1) rfl <| WO.U (oLss rfl rfl) rfl <| WO.D (fun h16 => ?_) (fun h16 => ?_)
 ·refine WO.nil <| WC.cT rfl <| WC.skips <| WC.block <| WC.reg (z := 5) rfl <| WO.U (oMv rfl) rfl <| WO.U (oIxM rfl rfl rfl rfl rfl (by omega) rfl) rfl <| WO.U (oLd rfl rfl rfl) rfl <| WO.U (oAs rfl) rfl <| WO.U (oAs rfl) rfl <| WO.nil ?_
  have hxl : es.getD i default < 4294967296 := getD_lt htd (by omega)
  have hml : m < 4294967296 ^ i := by
   have := val_lt (B := 4294967296) (by decide) (htd.take i)
   rw [List.length_take, Nat.min_eq_left hi] at this
   rw [hm]; exact this
  refine WC.reg1z (z := 8) rfl <| WO.U (oMv rfl) rfl <| WO.U (oMv rfl) rfl <| WO.U (OP.castI (b := ((es.getD i default : Nat) : Int)) (oCnv rfl rfl rfl) (by rw [IntKind.wrap_u64]; omega)) rfl <| WO.U (oMv rfl) rfl <| WO.U (OP.castI (b := ((32 * i : Nat) : Int)) (oMul64 rfl rfl (by omega)) (by omega)) rfl <| WO.U (OP.castI (b := ((es.getD i default * 4294967296 ^ i : Nat) : Int)) (oShlU (s := 32 * i) rfl rfl (by omega)) (shl_dig (by omega) hxl)) rfl <| WO.U (oBin (v := .int .u64 ((m + 4294967296 ^ i * es.getD i default : Nat) : Int)) rfl rfl (or_dig (by omega) hxl hml)) rfl <| WO.U (oAs rfl) rfl <| WO.nil <| after_normal <| WC.weak [(0, _), (1, _), (4, _), (5, _), (13, _), (14, _), (15, _)] ⟨rfl, rfl, rfl, rfl, rfl, rfl, rfl, trivial⟩ <| WC.reg1z (z := 2) rfl <| WO.U (OP.castI (b := ((i + 1 : Nat) : Int)) (oAdd64 rfl rfl (by omega)) (by omega)) rfl <| WO.U (oMv rfl) rfl <| WO.nil <| loopR_normal <| ⟨⟨i + 1, _⟩, ⟨rfl, rfl, rfl, rfl, rfl, rfl, rfl, trivial⟩, ⟨rfl, trivial⟩, ⟨by omega, ?_⟩, by show es.length - (i + 1) < es.length - i; omega⟩
  rw [take_succ_val, hm]
 refine WO.nil <| WC.cF rfl <| WC.exits <| loopR_exit <| after_exit rfl <| WC.assoc <| WC.reg (z := 2) rfl <| WO.U (oMv rfl) rfl <| WO.U (oLss rfl rfl) rfl <| WO.D (fun h29 => ?_) (fun h29 => ?_)
 rotate_left
 ·refine WO.nil <| WC.cF rfl <| WC.skips <| WC.reg (z := 4) rfl <| WO.U (oMv rfl) rfl <| WO.U (oMv rfl) rfl <| WO.U (oBd (cs := [_, _]) rfl rfl rfl rfl rfl) rfl <| WO.S0 (oSt (cs' := [_, _]) rfl rfl rfl rfl rfl rfl rfl rfl) <| WO.nil <| WC.ret ?_
  have hE : m = val B32 ds := by
   rw [hm, List.take_of_length_le (by omega), ← hes, trim_val]
  refine post (n := 0) (.inr rfl) rfl ?_ (by simp)
  rw [lvI_made hd (by omega) (by show 4611686018427387904 ≤ val B32 ds; omega), hes]; rfl
 refine WO.nil <| WC.cT rfl <| WC.assoc <| WC.reg (z := 6) rfl <| WO.U (oMv rfl) rfl <| WO.U (oMv rfl) rfl <| WO.U (OP.castI (b := (m : Int)) (oCnv rfl rfl rfl) (by rw [IntWalk.i64_in _ (by omega)])) rfl <| WO.U (oMul64 rfl rfl (by rcases hs with rfl | rfl | ⟨rfl, _⟩ <;> omega)) rfl <| WO.U (oBd (cs := [_, _]) rfl rfl rfl rfl rfl) rfl <| WO.S0 (oSt (cs' := [_, _]) rfl rfl rfl rfl rfl rfl rfl rfl) <| WO.nil <| WC.weak [(4, _)] ⟨rfl, trivial⟩ <| WC.rets ?_
 have hE : m = val B32 ds := by
  rw [hm, List.take_of_length_le (by omega), ← hes, trim_val]
 refine post (n := 0) (.inr rfl) rfl ?_ (by simp)
 rw [lvI_small (by unfold small; rw [← hE]; rcases hs with rfl | rfl | ⟨rfl, _⟩ <;> omega), ← hE]; rfl
end Go.Proofs.YtcmieifjephdcaaGreat
set_option linter.unusedVariables false
set_option linter.unusedSimpArgs false
set_option maxRecDepth 100000
namespace Go.Proofs.YtcmieifjephdcaaGreat
open Go.Ab Go.RowKit
theorem ia0 {v : Int} (h : v.sign = 0) : v = 0 := Int.sign_eq_zero_iff_zero.1 h
theorem add_run (v w : Int) (hv : len32 v < 1099511627775) (hw : len32 w < 1099511627775) : Run Tryz.prog T E0 (.call 122 [lvI v, lvI w] (lvI (v + w))) := by
 have bv := ia_bd v
 have bw := ia_bd w
 have ev := sign_mul_abs v
 have ew := sign_mul_abs w
 have dv := dgs_val (B := B32) (by decide) v.natAbs
 have dw := dgs_val (B := B32) (by decide) w.natAbs
 have qv := dgs_dg (B := B32) (by decide) v.natAbs
 have qw := dgs_dg (B := B32) (by decide) w.natAbs
 have tv := dgs_tr (B := B32) (by decide) v.natAbs
 have tw := dgs_tr (B := B32) (by decide) w.natAbs
 have lv : (dgs B32 v.natAbs).length < 1099511627775 := hv
 have lw : (dgs B32 w.natAbs).length < 1099511627775 := hw
 refine mkcall Tryz.func122 rfl rfl (Nat.le_of_ble_eq_true rfl) <| WC.reg (z := 3) rfl <| WO.S (oBx rfl rfl) rfl <| WO.S (oBx rfl rfl) rfl <| WO.S (oAl rfl) rfl <| WO.nil <| WC.assoc <| WC.reg (z := 8) rfl <| WO.U (oFaP rfl rfl rfl rfl rfl) rfl <| WO.U (oLdP rfl rfl rfl rfl rfl) rfl <| WO.U (oNilE rfl rfl) rfl <| WO.B (fun h11 => ?_) (fun h11 => ?_)
 rotate_left
 ·refine WO.U (oMv rfl) rfl <| WO.K rfl rfl <| WO.K rfl rfl <| WO.K rfl rfl <| WO.U (oPkF rfl rfl) rfl <| WO.nil <| WC.cF rfl <| WC.skips <| WC.reg (z := 7) rfl <| WO.U (oLdP (l := .agg [_, _]) rfl rfl rfl rfl rfl) rfl <| WO.U (oCall rfl (digits_run _) (by simp)) rfl <| WO.U (oMv rfl) rfl <| WO.U (oEx rfl rfl) rfl <| WO.U (oEx rfl rfl) rfl <| WO.U (oAs rfl) rfl <| WO.U (oAs rfl) rfl <| WO.nil <| WC.weak [(2, _), (3, _), (4, _), (5, _), (6, _)] ⟨rfl, rfl, rfl, rfl, rfl, trivial⟩ <| WC.reg (z := 7) rfl <| WO.U (oLdP (l := .agg [_, _]) rfl rfl rfl rfl rfl) rfl <| WO.U (oCall rfl (digits_run _) (by simp)) rfl <| WO.U (oMv rfl) rfl <| WO.U (oEx rfl rfl) rfl <| WO.U (oEx rfl rfl) rfl ?_
  refine WO.U (oAs rfl) rfl <| WO.U (oAs rfl) rfl <| WO.nil <| WC.block <| WC.reg (z := 3) rfl <| WO.U (oMv rfl) rfl <| WO.U (oEql rfl rfl) rfl <| WO.D (fun h35 => ?_) (fun h35 => ?_)
  ·refine WO.U (oAs rfl) rfl <| WO.nil <| WC.weak [(2, _), (3, _), (4, _), (5, _), (6, _), (7, _), (8, _), (33, _)] ⟨rfl, rfl, rfl, rfl, rfl, rfl, rfl, rfl, trivial⟩ <| WC.cT1 rfl <| WC.reg (z := 2) rfl <| WO.U (oLdP (l := .agg [_, _]) rfl rfl rfl rfl rfl) rfl <| WO.S0 (oSt (cs' := [_, _]) rfl rfl rfl rfl rfl rfl rfl rfl) <| WO.nil <| WC.ret <| after_ret <| post (n := 0) (.inr rfl) rfl ?_ (by simp)
   rw [ia0 h35, Int.zero_add]; rfl
  refine WO.U (oAs rfl) rfl <| WO.nil <| WC.weak [(2, _), (3, _), (4, _), (5, _), (6, _), (7, _), (8, _), (33, _)] ⟨rfl, rfl, rfl, rfl, rfl, rfl, rfl, rfl, trivial⟩ <| WC.cF1 rfl <| WC.reg (z := 3) rfl <| WO.U (oMv rfl) rfl <| WO.U (oEql rfl rfl) rfl <| WO.D (fun h39 => ?_) (fun h39 => ?_)
  ·refine WO.U (oAs rfl) rfl <| WO.nil <| WC.cT1 rfl <| WC.reg (z := 2) rfl <| WO.U (oLdP (l := .agg [_, _]) rfl rfl rfl rfl rfl) rfl <| WO.S0 (oSt (cs' := [_, _]) rfl rfl rfl rfl rfl rfl rfl rfl) <| WO.nil <| WC.ret <| after_ret <| post (n := 0) (.inr rfl) rfl ?_ (by simp)
   rw [ia0 h39, Int.add_zero]; rfl
  refine WO.U (oAs rfl) rfl <| WO.nil <| WC.cF1 rfl <| WC.reg (z := 4) rfl <| WO.U (oMv rfl) rfl <| WO.U (oMv rfl) rfl <| WO.U (oEql rfl rfl) rfl <| WO.D (fun h44 => ?_) (fun h44 => ?_)
  ·refine WO.U (oAs rfl) rfl <| WO.nil <| WC.weak [(4, _), (5, _), (6, _), (7, _), (8, _), (41, _)] ⟨rfl, rfl, rfl, rfl, rfl, rfl, trivial⟩ <| WC.cT1 rfl ?_
   have hsv : v.sign = 1 ∨ v.sign = -1 := by rcases Int.sign_trichotomy v with h | h | h <;> omega
   obtain ⟨r, hr, ds, rfl, hdd, hvl, hln⟩ := plus_run 1 1 _ _ qv qw (by omega) (by omega)
   refine WC.reg (z := 6) rfl <| WO.U (oMv rfl) rfl <| WO.U (oMv rfl) rfl <| WO.U (oMv rfl) rfl <| WO.U (oCall rfl (hr) (by simp)) rfl <| WO.U (oCall rfl (made_run v.sign 1 ds (by omega) (.inl rfl) hdd (by omega)) (by simp)) rfl <| WO.S0 (oSt (cs' := [_, _]) rfl rfl rfl rfl rfl rfl rfl rfl) <| WO.nil <| WC.ret <| after_ret <| post (n := 0) (.inr rfl) rfl ?_ (by simp)
   have : v.sign * (val B32 ds : Int) = v + w := by
    rw [hvl, dv, dw]; rcases hsv with h | h <;> rw [h] at ev h44 ⊢ <;> rw [← h44] at ew <;> omega
   rw [this]; rfl
  refine WO.U (oAs rfl) rfl <| WO.nil <| WC.weak [(4, _), (5, _), (6, _), (7, _), (8, _), (41, _)] ⟨rfl, rfl, rfl, rfl, rfl, rfl, trivial⟩ <| WC.cF1 rfl <| WC.reg (z := 5) rfl <| WO.U (oMv rfl) rfl <| WO.U (oMv rfl) rfl <| WO.U (oCall rfl (compare_run 1 1 _ _ qv qw tv tw (by omega) (by omega)) (by simp)) rfl <| WO.U (oGeq rfl rfl) rfl <| WO.D (fun h54 => ?_) (fun h54 => ?_)
  ·refine WO.U (oAs rfl) rfl <| WO.nil <| WC.cT1 rfl ?_
   have hsv : v.sign = 1 ∨ v.sign = -1 := by rcases Int.sign_trichotomy v with h | h | h <;> omega
   have hge : val B32 (dgs B32 w.natAbs) ≤ val B32 (dgs B32 v.natAbs) := by
    rcases Nat.lt_or_ge (val B32 (dgs B32 v.natAbs)) (val B32 (dgs B32 w.natAbs)) with h | h
    ·rw [Int.sign_eq_neg_one_of_neg (by omega)] at h54; omega
    ·exact h
   have hll : (dgs B32 w.natAbs).length ≤ (dgs B32 v.natAbs).length := by
    rcases Nat.lt_or_ge (dgs B32 v.natAbs).length (dgs B32 w.natAbs).length with h | h
    ·have := val_lt_len (by decide) qv tw h; omega
    ·exact h
   obtain ⟨r, hr, ds, rfl, hdd, hvl, hln⟩ := minus_run 1 1 _ _ qv qw (by omega) hll hge
   refine WC.reg (z := 6) rfl <| WO.U (oMv rfl) rfl <| WO.U (oMv rfl) rfl <| WO.U (oMv rfl) rfl <| WO.U (oCall rfl (hr) (by simp)) rfl <| WO.U (oCall rfl (made_run v.sign 1 ds (by omega) (.inl rfl) hdd (by omega)) (by simp)) rfl <| WO.S0 (oSt (cs' := [_, _]) rfl rfl rfl rfl rfl rfl rfl rfl) <| WO.nil <| WC.weak [(4, _)] ⟨rfl, trivial⟩ <| WC.ret <| after_ret <| post (n := 0) (.inr rfl) rfl ?_ (by simp)
   have : v.sign * (val B32 ds : Int) = v + w := by
    rw [hvl, dv, dw] at *; rcases hsv with h | h <;> rw [h] at ev h44 ⊢ <;> rcases (show w.sign = 1 ∨ w.sign = -1 by rcases Int.sign_trichotomy w with h | h | h <;> omega) with k | k <;> rw [k] at ew h44 <;> omega
   rw [this]; rfl
  refine WO.U (oAs rfl) rfl <| WO.nil <| WC.cF1 rfl <| WC.skip <| after_normal ?_
  have hsv : w.sign = 1 ∨ w.sign = -1 := by rcases Int.sign_trichotomy w with h | h | h <;> omega
  have hge : val B32 (dgs B32 v.natAbs) ≤ val B32 (dgs B32 w.natAbs) := by
   rcases Nat.lt_or_ge (val B32 (dgs B32 w.natAbs)) (val B32 (dgs B32 v.natAbs)) with h | h
   ·rw [Int.sign_eq_one_of_pos (by omega)] at h54; omega
   ·exact h
  have hll : (dgs B32 v.natAbs).length ≤ (dgs B32 w.natAbs).length := by
   rcases Nat.lt_or_ge (dgs B32 w.natAbs).length (dgs B32 v.natAbs).length with h | h
   ·have := val_lt_len (by decide) qw tv h; omega
   ·exact h
  obtain ⟨r, hr, ds, rfl, hdd, hvl, hln⟩ := minus_run 1 1 _ _ qw qv (by omega) hll hge
  refine WC.reg (z := 6) rfl <| WO.U (oMv rfl) rfl <| WO.U (oMv rfl) rfl <| WO.U (oMv rfl) rfl <| WO.U (oCall rfl (hr) (by simp)) rfl <| WO.U (oCall rfl (made_run w.sign 1 ds (by omega) (.inl rfl) hdd (by omega)) (by simp)) rfl <| WO.S0 (oSt (cs' := [_, _]) rfl rfl rfl rfl rfl rfl rfl rfl) <| WO.nil <| WC.weak [(4, _)] ⟨rfl, trivial⟩ <| WC.ret <| post (n := 0) (.inr rfl) rfl ?_ (by simp)
  have : w.sign * (val B32 ds : Int) = v + w := by
   rw [hvl, dv, dw] at *; rcases hsv with h | h <;> rw [h] at ew h44 ⊢ <;> rcases (show v.sign = 1 ∨ v.sign = -1 by rcases Int.sign_trichotomy v with h | h | h <;> omega) with k | k <;> rw [k] at ev h44 <;> omega
  rw [this]; rfl
 refine WO.U (oMv rfl) rfl <| WO.Ug rfl (oFaP rfl rfl rfl rfl rfl) rfl <| WO.Ug rfl (oLdP rfl rfl rfl rfl rfl) rfl <| WO.Ug rfl (oNilE rfl rfl) rfl <| WO.B (fun h15 => ?_) (fun h15 => ?_)
 ·refine WO.U (oPkT rfl rfl) rfl <| WO.nil <| WC.cT rfl <| WC.assoc <| WC.reg (z := 7) rfl <| WO.U (oFaP rfl rfl rfl rfl rfl) rfl <| WO.U (oLdP rfl rfl rfl rfl rfl) rfl <| WO.U (oFaP rfl rfl rfl rfl rfl) rfl <| WO.U (oLdP rfl rfl rfl rfl rfl) rfl <| WO.U (oAdd64 rfl rfl (by omega)) rfl <| WO.U (oCall rfl (of_run _ (by omega)) (by simp)) rfl <| WO.S0 (oSt (cs' := [_, _]) rfl rfl rfl rfl rfl rfl rfl rfl) <| WO.nil <| WC.weak [(4, _)] ⟨rfl, trivial⟩ <| WC.rets <| post (n := 0) (.inr rfl) rfl ?_ (by simp)
  rw [ia_small (ik_eq.1 h11), ia_small (ik_eq.1 h15)]; rfl
 refine WO.U (oPkT rfl rfl) rfl <| WO.nil <| WC.cF rfl <| WC.skips <| WC.reg (z := 7) rfl <| WO.U (oLdP (l := .agg [_, _]) rfl rfl rfl rfl rfl) rfl <| WO.U (oCall rfl (digits_run _) (by simp)) rfl <| WO.U (oMv rfl) rfl <| WO.U (oEx rfl rfl) rfl <| WO.U (oEx rfl rfl) rfl <| WO.U (oAs rfl) rfl <| WO.U (oAs rfl) rfl <| WO.nil <| WC.weak [(2, _), (3, _), (4, _), (5, _), (6, _)] ⟨rfl, rfl, rfl, rfl, rfl, trivial⟩ <| WC.reg (z := 7) rfl <| WO.U (oLdP (l := .agg [_, _]) rfl rfl rfl rfl rfl) rfl <| WO.U (oCall rfl (digits_run _) (by simp)) rfl <| WO.U (oMv rfl) rfl <| WO.U (oEx rfl rfl) rfl <| WO.U (oEx rfl rfl) rfl <| WO.U (oAs rfl) rfl <| WO.U (oAs rfl) rfl <| WO.nil <| WC.block ?_
 refine WC.reg (z := 3) rfl <| WO.U (oMv rfl) rfl <| WO.U (oEql rfl rfl) rfl <| WO.D (fun h35 => ?_) (fun h35 => ?_)
 ·refine WO.U (oAs rfl) rfl <| WO.nil <| WC.weak [(2, _), (3, _), (4, _), (5, _), (6, _), (7, _), (8, _), (33, _)] ⟨rfl, rfl, rfl, rfl, rfl, rfl, rfl, rfl, trivial⟩ <| WC.cT1 rfl <| WC.reg (z := 2) rfl <| WO.U (oLdP (l := .agg [_, _]) rfl rfl rfl rfl rfl) rfl <| WO.S0 (oSt (cs' := [_, _]) rfl rfl rfl rfl rfl rfl rfl rfl) <| WO.nil <| WC.ret <| after_ret <| post (n := 0) (.inr rfl) rfl ?_ (by simp)
  rw [ia0 h35, Int.zero_add]; rfl
 refine WO.U (oAs rfl) rfl <| WO.nil <| WC.weak [(2, _), (3, _), (4, _), (5, _), (6, _), (7, _), (8, _), (33, _)] ⟨rfl, rfl, rfl, rfl, rfl, rfl, rfl, rfl, trivial⟩ <| WC.cF1 rfl <| WC.reg (z := 3) rfl <| WO.U (oMv rfl) rfl <| WO.U (oEql rfl rfl) rfl <| WO.D (fun h39 => ?_) (fun h39 => ?_)
 ·refine WO.U (oAs rfl) rfl <| WO.nil <| WC.cT1 rfl <| WC.reg (z := 2) rfl <| WO.U (oLdP (l := .agg [_, _]) rfl rfl rfl rfl rfl) rfl <| WO.S0 (oSt (cs' := [_, _]) rfl rfl rfl rfl rfl rfl rfl rfl) <| WO.nil <| WC.ret <| after_ret <| post (n := 0) (.inr rfl) rfl ?_ (by simp)
  rw [ia0 h39, Int.add_zero]; rfl
 refine WO.U (oAs rfl) rfl <| WO.nil <| WC.cF1 rfl <| WC.reg (z := 4) rfl <| WO.U (oMv rfl) rfl <| WO.U (oMv rfl) rfl <| WO.U (oEql rfl rfl) rfl <| WO.D (fun h44 => ?_) (fun h44 => ?_)
 ·refine WO.U (oAs rfl) rfl <| WO.nil <| WC.weak [(4, _), (5, _), (6, _), (7, _), (8, _), (41, _)] ⟨rfl, rfl, rfl, rfl, rfl, rfl, trivial⟩ <| WC.cT1 rfl ?_
  have hsv : v.sign = 1 ∨ v.sign = -1 := by rcases Int.sign_trichotomy v with h | h | h <;> omega
  obtain ⟨r, hr, ds, rfl, hdd, hvl, hln⟩ := plus_run 1 1 _ _ qv qw (by omega) (by omega)
  refine WC.reg (z := 6) rfl <| WO.U (oMv rfl) rfl <| WO.U (oMv rfl) rfl <| WO.U (oMv rfl) rfl <| WO.U (oCall rfl (hr) (by simp)) rfl <| WO.U (oCall rfl (made_run v.sign 1 ds (by omega) (.inl rfl) hdd (by omega)) (by simp)) rfl <| WO.S0 (oSt (cs' := [_, _]) rfl rfl rfl rfl rfl rfl rfl rfl) <| WO.nil <| WC.ret <| after_ret <| post (n := 0) (.inr rfl) rfl ?_ (by simp)
  have : v.sign * (val B32 ds : Int) = v + w := by
   rw [hvl, dv, dw]; rcases hsv with h | h <;> rw [h] at ev h44 ⊢ <;> rw [← h44] at ew <;> omega
  rw [this]; rfl
 refine WO.U (oAs rfl) rfl <| WO.nil <| WC.weak [(4, _), (5, _), (6, _), (7, _), (8, _), (41, _)] ⟨rfl, rfl, rfl, rfl, rfl, rfl, trivial⟩ <| WC.cF1 rfl <| WC.reg (z := 5) rfl <| WO.U (oMv rfl) rfl <| WO.U (oMv rfl) rfl <| WO.U (oCall rfl (compare_run 1 1 _ _ qv qw tv tw (by omega) (by omega)) (by simp)) rfl <| WO.U (oGeq rfl rfl) rfl <| WO.D (fun h54 => ?_) (fun h54 => ?_)
 ·refine WO.U (oAs rfl) rfl <| WO.nil <| WC.cT1 rfl ?_
  have hsv : v.sign = 1 ∨ v.sign = -1 := by rcases Int.sign_trichotomy v with h | h | h <;> omega
  have hge : val B32 (dgs B32 w.natAbs) ≤ val B32 (dgs B32 v.natAbs) := by
   rcases Nat.lt_or_ge (val B32 (dgs B32 v.natAbs)) (val B32 (dgs B32 w.natAbs)) with h | h
   ·rw [Int.sign_eq_neg_one_of_neg (by omega)] at h54; omega
   ·exact h
  have hll : (dgs B32 w.natAbs).length ≤ (dgs B32 v.natAbs).length := by
   rcases Nat.lt_or_ge (dgs B32 v.natAbs).length (dgs B32 w.natAbs).length with h | h
   ·have := val_lt_len (by decide) qv tw h; omega
   ·exact h
  obtain ⟨r, hr, ds, rfl, hdd, hvl, hln⟩ := minus_run 1 1 _ _ qv qw (by omega) hll hge
  refine WC.reg (z := 6) rfl <| WO.U (oMv rfl) rfl <| WO.U (oMv rfl) rfl <| WO.U (oMv rfl) rfl <| WO.U (oCall rfl (hr) (by simp)) rfl <| WO.U (oCall rfl (made_run v.sign 1 ds (by omega) (.inl rfl) hdd (by omega)) (by simp)) rfl <| WO.S0 (oSt (cs' := [_, _]) rfl rfl rfl rfl rfl rfl rfl rfl) <| WO.nil <| WC.weak [(4, _)] ⟨rfl, trivial⟩ <| WC.ret <| after_ret <| post (n := 0) (.inr rfl) rfl ?_ (by simp)
  have : v.sign * (val B32 ds : Int) = v + w := by
   rw [hvl, dv, dw] at *; rcases hsv with h | h <;> rw [h] at ev h44 ⊢ <;> rcases (show w.sign = 1 ∨ w.sign = -1 by rcases Int.sign_trichotomy w with h | h | h <;> omega) with k | k <;> rw [k] at ew h44 <;> omega
  rw [this]; rfl
 refine WO.U (oAs rfl) rfl <| WO.nil <| WC.cF1 rfl <| WC.skip <| after_normal ?_
 have hsv : w.sign = 1 ∨ w.sign = -1 := by rcases Int.sign_trichotomy w with h | h | h <;> omega
 have hge : val B32 (dgs B32 v.natAbs) ≤ val B32 (dgs B32 w.natAbs) := by
  rcases Nat.lt_or_ge (val B32 (dgs B32 w.natAbs)) (val B32 (dgs B32 v.natAbs)) with h | h
  ·rw [Int.sign_eq_one_of_pos (by omega)] at h54; omega
  ·exact h
 have hll : (dgs B32 v.natAbs).length ≤ (dgs B32 w.natAbs).length := by
  rcases Nat.lt_or_ge (dgs B32 w.natAbs).length (dgs B32 v.natAbs).length with h | h
  ·have := val_lt_len (by decide) qw tv h; omega
  ·exact h
 obtain ⟨r, hr, ds, rfl, hdd, hvl, hln⟩ := minus_run 1 1 _ _ qw qv (by omega) hll hge
 refine WC.reg (z := 6) rfl <| WO.U (oMv rfl) rfl <| WO.U (oMv rfl) rfl <| WO.U (oMv rfl) rfl <| WO.U (oCall rfl (hr) (by simp)) rfl <| WO.U (oCall rfl (made_run w.sign 1 ds (by omega) (.inl rfl) hdd (by omega)) (by simp)) rfl <| WO.S0 (oSt (cs' := [_, _]) rfl rfl rfl rfl rfl rfl rfl rfl) <| WO.nil <| WC.weak [(4, _)] ⟨rfl, trivial⟩ <| WC.ret <| post (n := 0) (.inr rfl) rfl ?_ (by simp)
 have : w.sign * (val B32 ds : Int) = v + w := by
  rw [hvl, dv, dw] at *; rcases hsv with h | h <;> rw [h] at ew h44 ⊢ <;> rcases (show v.sign = 1 ∨ v.sign = -1 by rcases Int.sign_trichotomy v with h | h | h <;> omega) with k | k <;> rw [k] at ev h44 <;> omega
 rw [this]; rfl
end Go.Proofs.YtcmieifjephdcaaGreat
set_option linter.unusedVariables false
set_option linter.unusedSimpArgs false
set_option maxRecDepth 100000
namespace Go.Proofs.YtcmieifjephdcaaGreat
open Go.Ab Go.RowKit
theorem mul64_run (x y : Nat) (hx : x < 18446744073709551616) (hy : y < 18446744073709551616) : Run Tryz.prog T E0 (.call 132 [.v (.int .u64 (x : Int)), .v (.int .u64 (y : Int))] (.tup [.v (.int .u64 ((x * y / 18446744073709551616 : Nat) : Int)), .v (.int .u64 ((x * y % 18446744073709551616 : Nat) : Int))])) := by
 obtain ⟨p00, h00⟩ : ∃ p, p = (x % 4294967296) * (y % 4294967296) := ⟨_, rfl⟩
 obtain ⟨p10, h10⟩ : ∃ p, p = (x / 4294967296) * (y % 4294967296) := ⟨_, rfl⟩
 obtain ⟨p01, h01⟩ : ∃ p, p = (x % 4294967296) * (y / 4294967296) := ⟨_, rfl⟩
 obtain ⟨p11, h11⟩ : ∃ p, p = (x / 4294967296) * (y / 4294967296) := ⟨_, rfl⟩
 have b00 := mul_dig (a := x % 4294967296) (b := y % 4294967296) (by omega) (by omega)
 have b10 := mul_dig (a := x / 4294967296) (b := y % 4294967296) (by omega) (by omega)
 have b01 := mul_dig (a := x % 4294967296) (b := y / 4294967296) (by omega) (by omega)
 have b11 := mul_dig (a := x / 4294967296) (b := y / 4294967296) (by omega) (by omega)
 have hxy := mul_words h00 h10 h01 h11
 rw [← h00] at b00
 rw [← h10] at b10
 rw [← h01] at b01
 rw [← h11] at b11
 refine mkcall Tryz.func132 rfl rfl (Nat.le_of_ble_eq_true rfl) <| WC.reg (z := 2) rfl <| WO.U (oAs rfl) rfl <| WO.U (oAs rfl) rfl <| WO.nil <| WC.reg (z := 3) rfl <| WO.U (oMv rfl) rfl <| WO.U (oBin (v := .int .u64 ((x % 4294967296 : Nat) : Int)) rfl rfl (mask32 hx)) rfl <| WO.U (oAs rfl) rfl <| WO.nil <| WC.reg (z := 3) rfl <| WO.U (oMv rfl) rfl <| WO.U (OP.castI (b := ((x / 4294967296 : Nat) : Int)) (oShrU (s := 32) rfl rfl (by omega)) (by omega)) rfl <| WO.U (oAs rfl) rfl <| WO.nil <| WC.reg (z := 3) rfl <| WO.U (oMv rfl) rfl <| WO.U (oBin (v := .int .u64 ((y % 4294967296 : Nat) : Int)) rfl rfl (mask32 hy)) rfl <| WO.U (oAs rfl) rfl <| WO.nil <| WC.reg (z := 3) rfl <| WO.U (oMv rfl) rfl <| WO.U (OP.castI (b := ((y / 4294967296 : Nat) : Int)) (oShrU (s := 32) rfl rfl (by omega)) (by omega)) rfl <| WO.U (oAs rfl) rfl ?_
 refine WO.nil <| WC.weak [(0, _), (1, _), (6, _), (7, _), (8, _), (9, _)] ⟨rfl, rfl, rfl, rfl, rfl, rfl, trivial⟩ <| WC.reg (z := 4) rfl <| WO.U (oMv rfl) rfl <| WO.U (oMv rfl) rfl <| WO.U (OP.castI (b := (p00 : Int)) (oMulU rfl rfl) (by rw [← Int.natCast_mul, ← h00]; omega)) rfl <| WO.U (oAs rfl) rfl <| WO.nil <| WC.reg (z := 7) rfl <| WO.U (oMv rfl) rfl <| WO.U (oMv rfl) rfl <| WO.U (OP.castI (b := (p10 : Int)) (oMulU rfl rfl) (by rw [← Int.natCast_mul, ← h10]; omega)) rfl <| WO.U (oMv rfl) rfl <| WO.U (OP.castI (b := ((p00 / 4294967296 : Nat) : Int)) (oShrU (s := 32) rfl rfl (by omega)) (by omega)) rfl <| WO.U (OP.castI (b := ((p10 + p00 / 4294967296 : Nat) : Int)) (oAddU rfl rfl) (by omega)) rfl <| WO.U (oAs rfl) rfl <| WO.nil <| WC.weak [(0, _), (1, _), (6, _), (7, _), (9, _), (11, _)] ⟨rfl, rfl, rfl, rfl, rfl, rfl, trivial⟩ <| WC.reg (z := 3) rfl <| WO.U (oMv rfl) rfl <| WO.U (oBin (v := .int .u64 (((p10 + p00 / 4294967296) % 4294967296 : Nat) : Int)) rfl rfl (mask32 (by omega))) rfl <| WO.U (oAs rfl) rfl <| WO.nil <| WC.reg (z := 3) rfl ?_
 refine WO.U (oMv rfl) rfl <| WO.U (OP.castI (b := (((p10 + p00 / 4294967296) / 4294967296 : Nat) : Int)) (oShrU (s := 32) rfl rfl (by omega)) (by omega)) rfl <| WO.U (oAs rfl) rfl <| WO.nil <| WC.reg (z := 6) rfl <| WO.U (oMv rfl) rfl <| WO.U (oMv rfl) rfl <| WO.U (oMv rfl) rfl <| WO.U (OP.castI (b := (p01 : Int)) (oMulU rfl rfl) (by rw [← Int.natCast_mul, ← h01]; omega)) rfl <| WO.U (OP.castI (b := (((p10 + p00 / 4294967296) % 4294967296 + p01 : Nat) : Int)) (oAddU rfl rfl) (by omega)) rfl <| WO.U (oAs rfl) rfl <| WO.nil <| WC.weak [(0, _), (1, _), (7, _), (9, _), (12, _), (13, _)] ⟨rfl, rfl, rfl, rfl, rfl, rfl, trivial⟩ <| WC.reg (z := 9) rfl <| WO.U (oMv rfl) rfl <| WO.U (oMv rfl) rfl <| WO.U (OP.castI (b := (p11 : Int)) (oMulU rfl rfl) (by rw [← Int.natCast_mul, ← h11]; omega)) rfl <| WO.U (oMv rfl) rfl <| WO.U (OP.castI (b := ((p11 + (p10 + p00 / 4294967296) / 4294967296 : Nat) : Int)) (oAddU rfl rfl) (by omega)) rfl <| WO.U (oMv rfl) rfl <| WO.U (OP.castI (b := ((((p10 + p00 / 4294967296) % 4294967296 + p01) / 4294967296 : Nat) : Int)) (oShrU (s := 32) rfl rfl (by omega)) (by omega)) rfl <| WO.U (OP.castI (b := ((x * y / 18446744073709551616 : Nat) : Int)) (oAddU rfl rfl) (by rw [hxy]; omega)) rfl <| WO.U (oAs rfl) rfl <| WO.nil ?_
 refine WC.weak [(0, _), (1, _), (4, _)] ⟨rfl, rfl, rfl, trivial⟩ <| WC.reg (z := 4) rfl <| WO.U (oMv rfl) rfl <| WO.U (oMv rfl) rfl <| WO.U (OP.castI (b := ((x * y % 18446744073709551616 : Nat) : Int)) (oMulU rfl rfl) (by rw [← Int.natCast_mul]; rfl)) rfl <| WO.U (oAs rfl) rfl <| WO.nil <| WC.ret ?_
 exact post (n := 0) (.inr rfl) rfl rfl (by simp)
theorem mul_run (v w : Int) (hv : len32 v < 549755813888) (hw : len32 w < 549755813888) : Run Tryz.prog T E0 (.call 119 [lvI v, lvI w] (lvI (v * w))) := by
 have bv := ia_bd v
 have bw := ia_bd w
 have ev := sign_mul_abs v
 have ew := sign_mul_abs w
 have evw : v * w = v.sign * w.sign * ((v.natAbs * w.natAbs : Nat) : Int) := by
  rw [Int.natCast_mul]; grind
 obtain ⟨σ, hσ⟩ : ∃ σ, σ = v.sign * w.sign := ⟨_, rfl⟩
 have hs3 : σ = 1 ∨ σ = -1 ∨ σ = 0 ∧ v.natAbs * w.natAbs = 0 := by
  rcases Int.sign_trichotomy v with h | h | h <;> rcases Int.sign_trichotomy w with k | k | k <;> rw [h, k] at hσ <;> simp at hσ <;> first | exact .inl hσ | exact .inr (.inl hσ) | skip
  all_goals (refine .inr (.inr ⟨hσ, ?_⟩); first | (rw [ia0 h]; simp; done) | (rw [ia0 k]; simp))
 rw [← hσ] at evw
 obtain ⟨xs, hxs⟩ : ∃ xs, xs = dgs B32 v.natAbs := ⟨_, rfl⟩
 obtain ⟨ys, hys⟩ : ∃ ys, ys = dgs B32 w.natAbs := ⟨_, rfl⟩
 have dv : val B32 xs = v.natAbs := by rw [hxs]; exact dgs_val (by decide) _
 have dw : val B32 ys = w.natAbs := by rw [hys]; exact dgs_val (by decide) _
 have qv : Dg B32 xs := by rw [hxs]; exact dgs_dg (by decide) _
 have qw : Dg B32 ys := by rw [hys]; exact dgs_dg (by decide) _
 have lv : xs.length < 549755813888 := by rw [hxs]; exact hv
 have lw : ys.length < 549755813888 := by rw [hys]; exact hw
 refine mkcall Tryz.func119 rfl rfl (Nat.le_of_ble_eq_true rfl) ?_
 have J5 : ∀  (n : Nat) (hn : 3 ≤ n), WC Tryz.prog T E0 Tryz.f119.ntmps (codeR (codeR (codeOf Tryz.f119))) [(2, .ptr 0 0), (3, .ptr 1 0), (4, .ptr 2 0)] [(2, { cells := [.v (.int .i64 0), .sl 0 []], sz := 2, elem := 75, st := 0 }), (1, { cells := (lvI w).cells, sz := (lvI w).cells.length, elem := 75, st := 0 }), (0, { cells := (lvI v).cells, sz := (lvI v).cells.length, elem := 75, st := 0 })] n (Post T Tryz.f119.results.toList (lvI (v * w))) := by
  intro  n hn
  refine WC.reg (z := 7) rfl <| WO.U (oLdP (l := .agg [_, _]) rfl rfl rfl rfl rfl) rfl <| WO.U (oCall rfl ((hxs ▸ digits_run v)) (by simp)) rfl <| WO.U (oMv rfl) rfl <| WO.U (oEx rfl rfl) rfl <| WO.U (oEx rfl rfl) rfl <| WO.U (oAs rfl) rfl <| WO.U (oAs rfl) rfl <| WO.nil <| WC.reg (z := 7) rfl <| WO.U (oLdP (l := .agg [_, _]) rfl rfl rfl rfl rfl) rfl <| WO.U (oCall rfl ((hys ▸ digits_run w)) (by simp)) rfl <| WO.U (oMv rfl) rfl <| WO.U (oEx rfl rfl) rfl <| WO.U (oEx rfl rfl) rfl <| WO.U (oAs rfl) rfl <| WO.U (oAs rfl) rfl <| WO.nil <| WC.weak [(4, _), (7, _), (8, _), (9, _), (10, _)] ⟨rfl, rfl, rfl, rfl, rfl, trivial⟩ <| WC.reg (z := 7) rfl <| WO.U (oMv rfl) rfl <| WO.U (oLenM rfl rfl) rfl <| WO.U (oMv rfl) rfl <| WO.U (oLenM rfl rfl) rfl ?_
  refine WO.U (oAdd64 rfl rfl (by omega)) rfl <| WO.S (oMk (a := xs.length + ys.length) (b := xs.length + ys.length) rfl rfl rfl rfl (by omega) (by omega) (by decide) (by omega) (by show 4 * (xs.length + ys.length) ≤ _; omega) (by omega)) rfl <| WO.U (oAs rfl) rfl <| WO.nil <| WC.assoc <| WC.reg (z := 3) rfl <| WO.U (oMv rfl) rfl <| WO.U (oLenM rfl rfl) rfl <| WO.U (oMv rfl) rfl <| WO.nil <| WC.weak [(4, _), (7, _), (9, _), (10, _), (11, _), (74, _), (75, _), (76, _)] ⟨rfl, rfl, rfl, rfl, rfl, rfl, rfl, rfl, trivial⟩ <| WC.block <| WC.loopV (α := Nat × Nat × (List Nat)) (fun ⟨i, q, us⟩ => [(4, .ptr 2 0), (7, .v (.int .i64 v.sign)), (9, .v (.int .i64 w.sign)), (10, .sl 1 (ys.map d32)), (11, .ref q 1 0 us.length), (74, .sl 1 (xs.map d32)), (75, .v (.int .i64 (xs.length : Int))), (76, .v (.int .i64 (i : Int)))]) (fun ⟨i, q, us⟩ => [(q, { cells := (us.map d32).flatten, sz := 1, elem := 125, st := 0 }), (2, { cells := [.v (.int .i64 0), .sl 0 []], sz := 2, elem := 75, st := 0 })]) (fun ⟨i, q, us⟩ n => i ≤ xs.length ∧ us.length = xs.length + ys.length ∧ Dg B32 us ∧ val B32 us = val B32 (xs.take i) * val B32 ys ∧ (∀ j, i + ys.length ≤ j → us.getD j default = 0) ∧ 2 < q) (fun ⟨i, q, us⟩ => xs.length - i) (0, n + 7 + 7 + 5, List.replicate (xs.length + ys.length) 0) ⟨rfl, rfl, rfl, rfl, congrArg some (by rw [List.length_replicate]; rfl), rfl, rfl, rfl, trivial⟩ ⟨g0.trans (by rw [List.map_replicate]; rfl), g1 (by omega) rfl, trivial⟩ ⟨Nat.zero_le _, by simp, by intro d hd; simp at hd; rw [hd.2]; decide, by rw [val_zeros]; simp [val], by intro j _; exact getD_zeros _ _, by omega⟩ ?_
  rintro ⟨i, q, us⟩ n hF
  change WC _ _ _ _ _ [(4, .ptr 2 0), (7, .v (.int .i64 v.sign)), (9, .v (.int .i64 w.sign)), (10, .sl 1 (ys.map d32)), (11, .ref q 1 0 us.length), (74, .sl 1 (xs.map d32)), (75, .v (.int .i64 (xs.length : Int))), (76, .v (.int .i64 (i : Int)))] ([(q, { cells := (us.map d32).flatten, sz := 1, elem := 125, st := 0 }), (2, { cells := [.v (.int .i64 0), .sl 0 []], sz := 2, elem := 75, st := 0 })]) n _
  obtain ⟨hi, hul, hud, huv, huz, hq⟩ := hF
  refine WC.reg (z := 1) rfl <| WO.U (oLss rfl rfl) rfl <| WO.D (fun h77 => ?_) (fun h77 => ?_)
  rotate_left
  ·refine WO.nil <| WC.cF rfl <| WC.exits <| loopR_exit <| after_exit rfl ?_
   have hE : val B32 us = v.natAbs * w.natAbs := by
    rw [huv, List.take_of_length_le (by omega), dv, dw]
   refine WC.reg (z := 6) rfl <| WO.U (oMv rfl) rfl <| WO.U (oMv rfl) rfl <| WO.U (OP.castI (b := σ) (oMul64 rfl rfl (by rw [← hσ]; omega)) hσ.symm) rfl <| WO.U (oMv rfl) rfl <| WO.S (oCallF [.v (.int .i64 σ), .sl 1 (us.map d32)] [(q, { cells := (us.map d32).flatten, sz := 1, elem := 125, st := 1 })] rfl (made_run σ 1 us (by rw [hE]; exact hs3) (.inl rfl) hud (by omega)) (.data (by simp) (.own _ (by simp) g0 (by show (0 : Nat) ≠ 2; decide) rfl (by decide) (by simp [keys]) rfl rows_d32 data_rows_d32 .nil)) (by intro p hp; simp at hp; subst hp; exact ⟨_, g0, by show (0 : Nat) ≠ 2; decide, rfl⟩)) rfl <| WO.S0 (oSt (cs' := [_, _]) rfl rfl rfl (g1 (by omega) (g1 (by omega) rfl)) rfl rfl rfl rfl) <| WO.nil <| WC.ret <| post (n := 0) (.inr rfl) rfl ?_ (by simp)
   rw [evw, ← hE]; rfl
  refine WO.nil <| WC.cT rfl <| WC.skips <| WC.block <| WC.reg (z := 5) rfl <| WO.U (oMv rfl) rfl <| WO.U (oIxM rfl rfl rfl rfl rfl (by omega) rfl) rfl <| WO.U (oLd rfl rfl rfl) rfl <| WO.U (oAs rfl) rfl <| WO.U (oAs rfl) rfl <| WO.nil <| WC.reg (z := 1) rfl <| WO.U (oAs rfl) rfl <| WO.nil <| WC.weak [(4, _), (7, _), (9, _), (10, _), (11, _), (12, _), (13, _), (14, _), (74, _), (75, _), (76, _)] ⟨rfl, rfl, rfl, rfl, rfl, rfl, rfl, rfl, rfl, rfl, rfl, trivial⟩ <| WC.assoc <| WC.reg (z := 3) rfl <| WO.U (oMv rfl) rfl <| WO.U (oLenM rfl rfl) rfl <| WO.U (oMv rfl) rfl <| WO.nil <| WC.block <| WC.loopV (α := Nat × Nat × (List Nat)) (fun ⟨k, c, us1⟩ => [(4, .ptr 2 0), (7, .v (.int .i64 v.sign)), (9, .v (.int .i64 w.sign)), (10, .sl 1 (ys.map d32)), (11, .ref q 1 0 us1.length), (12, .v (.int .i64 (i : Int))), (13, .v (.int .u32 (xs.getD i default : Int))), (14, .v (.int .u64 (c : Int))), (74, .sl 1 (xs.map d32)), (75, .v (.int .i64 (xs.length : Int))), (76, .v (.int .i64 (i : Int))), (81, .sl 1 (ys.map d32)), (82, .v (.int .i64 (ys.length : Int))), (83, .v (.int .i64 (k : Int)))]) (fun ⟨k, c, us1⟩ => [(q, { cells := (us1.map d32).flatten, sz := 1, elem := 125, st := 0 }), (2, { cells := [.v (.int .i64 0), .sl 0 []], sz := 2, elem := 75, st := 0 })]) (fun ⟨k, c, us1⟩ n => k ≤ ys.length ∧ us1.length = us.length ∧ Dg B32 us1 ∧ c < 4294967296 ∧ val B32 us1 + B32 ^ (i + k) * c = val B32 us + B32 ^ i * (xs.getD i default * val B32 (ys.take k)) ∧ (∀ j, i + k ≤ j → us1.getD j default = us.getD j default)) (fun ⟨k, c, us1⟩ => ys.length - k) (0, 0, us) ⟨rfl, rfl, rfl, rfl, rfl, rfl, rfl, rfl, rfl, rfl, rfl, rfl, rfl, rfl, trivial⟩ ⟨g0, g1 (by omega) rfl, trivial⟩ ⟨Nat.zero_le _, rfl, hud, by decide, by simp [val], fun _ _ => rfl⟩ ?_
  rintro ⟨k, c, us1⟩ n hG
  change WC _ _ _ _ _ [(4, .ptr 2 0), (7, .v (.int .i64 v.sign)), (9, .v (.int .i64 w.sign)), (10, .sl 1 (ys.map d32)), (11, .ref q 1 0 us1.length), (12, .v (.int .i64 (i : Int))), (13, .v (.int .u32 (xs.getD i default : Int))), (14, .v (.int .u64 (c : Int))), (74, .sl 1 (xs.map d32)), (75, .v (.int .i64 (xs.length : Int))), (76, .v (.int .i64 (i : Int))), (81, .sl 1 (ys.map d32)), (82, .v (.int .i64 (ys.length : Int))), (83, .v (.int .i64 (k : Int)))] ([(q, { cells := (us1.map d32).flatten, sz := 1, elem := 125, st := 0 }), (2, { cells := [.v (.int .i64 0), .sl 0 []], sz := 2, elem := 75, st := 0 })]) n _
  obtain ⟨hk, hl1, hd1, hc1, hv1, hz1⟩ := hG
  refine WC.reg (z := 1) rfl <| WO.U (oLss rfl rfl) rfl <| WO.D (fun h84 => ?_) (fun h84 => ?_)
  rotate_left
  ·refine WO.nil <| WC.weak [(4, _), (7, _), (9, _), (10, _), (11, _), (12, _), (13, _), (14, _), (74, _), (75, _), (76, _), (81, _), (82, _), (83, _), (84, _)] ⟨rfl, rfl, rfl, rfl, rfl, rfl, rfl, rfl, rfl, rfl, rfl, rfl, rfl, rfl, rfl, trivial⟩ <| WC.cF rfl <| WC.exits <| loopR_exit <| after_exit rfl <| WC.weak [(4, _), (7, _), (9, _), (10, _), (11, _), (12, _), (14, _), (74, _), (75, _), (76, _)] ⟨rfl, rfl, rfl, rfl, rfl, rfl, rfl, rfl, rfl, rfl, trivial⟩ <| WC.reg1z (z := 9) rfl <| WO.U (oMv rfl) rfl <| WO.U (oMv rfl) rfl <| WO.U (oMv rfl) rfl <| WO.U (oLenM rfl rfl) rfl <| WO.U (OP.castI (b := ((i + ys.length : Nat) : Int)) (oAdd64 rfl rfl (by omega)) (by omega)) rfl <| WO.U (oMv rfl) rfl <| WO.U (OP.castI (b := (c : Int)) (oCnv rfl rfl rfl) (by rw [IntKind.wrap_u32]; omega)) rfl <| WO.U (oIxR rfl rfl rfl rfl rfl (by omega) rfl) rfl <| WO.S0 (oStO (f := d32) (us := us1) c rfl rfl rfl g0 (fun _ => rfl) rfl rfl (by omega) rfl) <| WO.nil <| after_normal <| WC.weak [(4, _), (7, _), (9, _), (10, _), (11, _), (74, _), (75, _), (76, _)] ⟨rfl, rfl, rfl, rfl, rfl, rfl, rfl, rfl, trivial⟩ <| WC.reg1z (z := 2) rfl <| WO.U (OP.castI (b := ((i + 1 : Nat) : Int)) (oAdd64 rfl rfl (by omega)) (by omega)) rfl <| WO.U (oMv rfl) rfl <| WO.nil ?_
   refine loopR_normal <| ⟨⟨i + 1, q, us1.set (i + ys.length) c⟩, ⟨rfl, rfl, rfl, rfl, congrArg some (by rw [List.length_set]), rfl, rfl, rfl, trivial⟩, ⟨g0, g1 (by omega) (g1 (by omega) rfl), trivial⟩, ⟨by omega, by rw [List.length_set]; omega, hd1.set _ hc1, ?_, ?_, hq⟩, by show xs.length - (i + 1) < xs.length - i; omega⟩
   ·have hk' : k = ys.length := by omega
    subst hk'
    have h1 := val_set (B := B32) us1 (i + ys.length) c (by omega)
    rw [hz1 _ (Nat.le_refl _), huz _ (Nat.le_refl _), Nat.mul_zero, Nat.add_zero] at h1
    rw [h1, hv1, huv, take_succ_val, List.take_of_length_le (Nat.le_refl _), Nat.add_mul, Nat.mul_assoc]
   ·intro j hj
    rw [lgetD_set (by omega), hz1 j (by omega)]; exact huz j (by omega)
  refine WO.nil <| WC.weak [(4, _), (7, _), (9, _), (10, _), (11, _), (12, _), (13, _), (14, _), (74, _), (75, _), (76, _), (81, _), (82, _), (83, _), (84, _)] ⟨rfl, rfl, rfl, rfl, rfl, rfl, rfl, rfl, rfl, rfl, rfl, rfl, rfl, rfl, rfl, trivial⟩ <| WC.cT rfl <| WC.skips <| WC.block <| WC.reg (z := 5) rfl <| WO.U (oMv rfl) rfl <| WO.U (oIxM rfl rfl rfl rfl rfl (by omega) rfl) rfl <| WO.U (oLd rfl rfl rfl) rfl <| WO.U (oAs rfl) rfl <| WO.U (oAs rfl) rfl <| WO.nil <| WC.weak [(4, _), (7, _), (9, _), (10, _), (11, _), (12, _), (13, _), (14, _), (15, _), (16, _), (74, _), (75, _), (76, _), (81, _), (82, _), (83, _)] ⟨rfl, rfl, rfl, rfl, rfl, rfl, rfl, rfl, rfl, rfl, rfl, rfl, rfl, rfl, rfl, rfl, trivial⟩ ?_
  have hp : xs.getD i default < 4294967296 := getD_lt qv (by omega)
  have hqk : ys.getD k default < 4294967296 := getD_lt qw (by omega)
  have ho : us1.getD (i + k) default < 4294967296 := getD_lt hd1 (by omega)
  have hpq := mul_dig hp hqk
  refine WC.reg (z := 16) rfl <| WO.U (oMv rfl) rfl <| WO.U (oMv rfl) rfl <| WO.U (OP.castI (b := (xs.getD i default : Int)) (oCnv rfl rfl rfl) (by rw [IntKind.wrap_u64]; omega)) rfl <| WO.U (oMv rfl) rfl <| WO.U (OP.castI (b := (ys.getD k default : Int)) (oCnv rfl rfl rfl) (by rw [IntKind.wrap_u64]; omega)) rfl <| WO.U (OP.castI (b := ((xs.getD i default * ys.getD k default : Nat) : Int)) (oMulU rfl rfl) (by rw [← Int.natCast_mul]; omega)) rfl <| WO.U (oMv rfl) rfl <| WO.U (oMv rfl) rfl <| WO.U (oMv rfl) rfl <| WO.U (OP.castI (b := ((i + k : Nat) : Int)) (oAdd64 rfl rfl (by omega)) (by omega)) rfl <| WO.U (oIxR rfl rfl rfl rfl rfl (by omega) rfl) rfl <| WO.U (oLdO (f := d32) (us := us1) (j := i + k) rfl rfl g0 (fun _ => rfl) rfl (by decide) (by omega) rfl) rfl <| WO.U (OP.castI (b := (us1.getD (i + k) default : Int)) (oCnv rfl rfl rfl) (by rw [IntKind.wrap_u64]; omega)) rfl <| WO.U (OP.castI (b := ((xs.getD i default * ys.getD k default + us1.getD (i + k) default : Nat) : Int)) (oAddU rfl rfl) (by omega)) rfl <| WO.U (OP.castI (b := (((c + (xs.getD i default * ys.getD k default + us1.getD (i + k) default)) : Nat) : Int)) (oAddU rfl rfl) (by omega)) rfl <| WO.U (oAs rfl) rfl <| WO.nil <| WC.weak [(4, _), (7, _), (9, _), (10, _), (11, _), (12, _), (13, _), (14, _), (15, _), (74, _), (75, _), (76, _), (81, _), (82, _), (83, _)] ⟨rfl, rfl, rfl, rfl, rfl, rfl, rfl, rfl, rfl, rfl, rfl, rfl, rfl, rfl, rfl, trivial⟩ <| WC.reg (z := 8) rfl <| WO.U (oMv rfl) rfl <| WO.U (oMv rfl) rfl <| WO.U (oMv rfl) rfl <| WO.U (OP.castI (b := ((i + k : Nat) : Int)) (oAdd64 rfl rfl (by omega)) (by omega)) rfl ?_
  refine WO.U (oMv rfl) rfl <| WO.U (OP.castI (b := (((c + (xs.getD i default * ys.getD k default + us1.getD (i + k) default)) % 4294967296 : Nat) : Int)) (oCnv rfl rfl rfl) (by rw [IntKind.wrap_u32]; omega)) rfl <| WO.U (oIxR rfl rfl rfl rfl rfl (by omega) rfl) rfl <| WO.S0 (oStO (f := d32) (us := us1) ((c + (xs.getD i default * ys.getD k default + us1.getD (i + k) default)) % 4294967296) rfl rfl rfl g0 (fun _ => rfl) rfl rfl (by omega) rfl) <| WO.nil <| WC.weak [(4, _), (7, _), (9, _), (10, _), (11, _), (12, _), (13, _), (14, _), (74, _), (75, _), (76, _), (81, _), (82, _), (83, _)] ⟨rfl, rfl, rfl, rfl, rfl, rfl, rfl, rfl, rfl, rfl, rfl, rfl, rfl, rfl, trivial⟩ <| WC.reg1z (z := 3) rfl <| WO.U (oMv rfl) rfl <| WO.U (OP.castI (b := (((c + (xs.getD i default * ys.getD k default + us1.getD (i + k) default)) / 4294967296 : Nat) : Int)) (oShrU (s := 32) rfl rfl (by omega)) (by omega)) rfl <| WO.U (oAs rfl) rfl <| WO.nil <| after_normal <| WC.weak [(4, _), (7, _), (9, _), (10, _), (11, _), (12, _), (13, _), (14, _), (74, _), (75, _), (76, _), (81, _), (82, _), (83, _)] ⟨rfl, rfl, rfl, rfl, rfl, rfl, rfl, rfl, rfl, rfl, rfl, rfl, rfl, rfl, trivial⟩ <| WC.reg1z (z := 2) rfl <| WO.U (OP.castI (b := ((k + 1 : Nat) : Int)) (oAdd64 rfl rfl (by omega)) (by omega)) rfl <| WO.U (oMv rfl) rfl <| WO.nil <| loopR_normal <| ⟨⟨k + 1, (c + (xs.getD i default * ys.getD k default + us1.getD (i + k) default)) / 4294967296, us1.set (i + k) ((c + (xs.getD i default * ys.getD k default + us1.getD (i + k) default)) % 4294967296)⟩, ⟨rfl, rfl, rfl, rfl, congrArg some (by rw [List.length_set]), rfl, rfl, rfl, rfl, rfl, rfl, rfl, rfl, rfl, trivial⟩, ⟨g0, g1 (by omega) (g1 (by omega) rfl), trivial⟩, ⟨by omega, by rw [List.length_set]; exact hl1, hd1.set _ (Nat.mod_lt _ (by decide)), by omega, mul_step hv1 (by omega), ?_⟩, by show ys.length - (k + 1) < ys.length - k; omega⟩
  intro j hj
  rw [lgetD_set (by omega)]; exact hz1 j (by omega)
 refine WC.reg (z := 3) rfl <| WO.S (oBx rfl rfl) rfl <| WO.S (oBx rfl rfl) rfl <| WO.S (oAl rfl) rfl <| WO.nil <| WC.assoc <| WC.reg (z := 8) rfl <| WO.U (oFaP rfl rfl rfl rfl rfl) rfl <| WO.U (oLdP rfl rfl rfl rfl rfl) rfl <| WO.U (oNilE rfl rfl) rfl <| WO.B (fun h19 => ?_) (fun h19 => ?_)
 rotate_left
 ·refine WO.U (oMv rfl) rfl <| WO.K rfl rfl <| WO.K rfl rfl <| WO.K rfl rfl <| WO.U (oPkF rfl rfl) rfl <| WO.nil <| WC.cF rfl <| WC.skips <| WC.weak [(2, _), (3, _), (4, _)] ⟨rfl, rfl, rfl, trivial⟩ ?_
  exact J5 _ (by omega)
 refine WO.U (oMv rfl) rfl <| WO.Ug rfl (oFaP rfl rfl rfl rfl rfl) rfl <| WO.Ug rfl (oLdP rfl rfl rfl rfl rfl) rfl <| WO.Ug rfl (oNilE rfl rfl) rfl <| WO.B (fun h23 => ?_) (fun h23 => ?_)
 rotate_left
 ·refine WO.U (oPkT rfl rfl) rfl <| WO.nil <| WC.cF rfl <| WC.skips <| WC.weak [(2, _), (3, _), (4, _)] ⟨rfl, rfl, rfl, trivial⟩ ?_
  exact J5 _ (by omega)
 refine WO.U (oPkT rfl rfl) rfl <| WO.nil <| WC.cT rfl <| WC.assoc ?_
 have hia := ia_small (ik_eq.1 h19)
 have hiw := ia_small (ik_eq.1 h23)
 refine WC.reg (z := 20) rfl <| WO.U (oFaP rfl rfl rfl rfl rfl) rfl <| WO.U (oLdP rfl rfl rfl rfl rfl) rfl <| WO.U (oFaP rfl rfl rfl rfl rfl) rfl <| WO.U (oLdP rfl rfl rfl rfl rfl) rfl <| WO.U (oNeg64 rfl (by omega)) rfl <| WO.U (OP.castI (b := ((v.natAbs : Nat) : Int)) (oMax rfl rfl) (by rw [hia]; split <;> omega)) rfl <| WO.U (OP.castI (b := ((v.natAbs : Nat) : Int)) (oCnv rfl rfl rfl) (by rw [IntKind.wrap_u64]; omega)) rfl <| WO.U (oFaP rfl rfl rfl rfl rfl) rfl <| WO.U (oLdP rfl rfl rfl rfl rfl) rfl <| WO.U (oFaP rfl rfl rfl rfl rfl) rfl <| WO.U (oLdP rfl rfl rfl rfl rfl) rfl <| WO.U (oNeg64 rfl (by omega)) rfl <| WO.U (OP.castI (b := ((w.natAbs : Nat) : Int)) (oMax rfl rfl) (by rw [hiw]; split <;> omega)) rfl <| WO.U (OP.castI (b := ((w.natAbs : Nat) : Int)) (oCnv rfl rfl rfl) (by rw [IntKind.wrap_u64]; omega)) rfl <| WO.U (oCall rfl (mul64_run v.natAbs w.natAbs (by omega) (by omega)) (by simp)) rfl <| WO.U (oMv rfl) rfl <| WO.U (oEx rfl rfl) rfl <| WO.U (oEx rfl rfl) rfl <| WO.U (oAs rfl) rfl <| WO.U (oAs rfl) rfl <| WO.nil <| WC.weak [(2, _), (3, _), (4, _), (5, _), (6, _)] ⟨rfl, rfl, rfl, rfl, rfl, trivial⟩ <| WC.assoc ?_
 refine WC.reg (z := 6) rfl <| WO.U (oMv rfl) rfl <| WO.U (oEql rfl rfl) rfl <| WO.D (fun h44 => ?_) (fun h44 => ?_)
 rotate_left
 ·refine WO.U (oMv rfl) rfl <| WO.K rfl rfl <| WO.K rfl rfl <| WO.U (oPkF rfl rfl) rfl <| WO.nil <| WC.cF rfl <| WC.skips <| WC.weak [(2, _), (3, _), (4, _)] ⟨rfl, rfl, rfl, trivial⟩ ?_
  exact J5 _ (by omega)
 refine WO.U (oMv rfl) rfl <| WO.Ug rfl (oMv rfl) rfl <| WO.Ug rfl (oLss rfl rfl) rfl <| WO.D (fun h47 => ?_) (fun h47 => ?_)
 rotate_left
 ·refine WO.U (oPkT rfl rfl) rfl <| WO.nil <| WC.cF rfl <| WC.skips <| WC.weak [(2, _), (3, _), (4, _)] ⟨rfl, rfl, rfl, trivial⟩ ?_
  exact J5 _ (by omega)
 refine WO.U (oPkT rfl rfl) rfl <| WO.nil <| WC.cT rfl <| WC.assoc <| WC.draw (z := 10) rfl (by kernel_rfl) <| WD.U (oLdP (l := .agg [_, _]) rfl rfl rfl rfl rfl) rfl <| WD.U (oCall rfl (sign_run _) (by simp)) rfl <| WD.U (oLdP (l := .agg [_, _]) rfl rfl rfl rfl rfl) rfl <| WD.U (oCall rfl (sign_run _) (by simp)) rfl <| WD.U (OP.castI (b := σ) (oMul64 rfl rfl (by rw [← hσ]; omega)) hσ.symm) rfl <| WD.U (oMv rfl) rfl <| WD.U (OP.castI (b := ((v.natAbs * w.natAbs : Nat) : Int)) (oCnv rfl rfl rfl) (by rw [IntWalk.i64_in _ (by omega)]; omega)) rfl <| WD.U (oMul64 rfl rfl (by rcases hs3 with h | h | ⟨h, _⟩ <;> rw [h] <;> omega)) rfl <| WD.U (oBd (cs := [_, _]) rfl rfl rfl rfl rfl) rfl <| WD.S0 (oSt (cs' := [_, _]) rfl rfl rfl rfl rfl rfl rfl rfl) <| WD.nil (drawOk_of (by kernel_rfl)) rfl <| WC.weak [(4, _)] ⟨rfl, trivial⟩ <| WC.rets <| post (n := 0) (.inr rfl) rfl ?_ (by simp)
 rw [evw, lvI_small (by unfold small; rcases hs3 with h | h | ⟨h, _⟩ <;> rw [h] <;> omega)]; rfl
end Go.Proofs.YtcmieifjephdcaaGreat
set_option linter.unusedVariables false
set_option linter.unusedSimpArgs false
set_option maxRecDepth 100000
namespace Go.Proofs.YtcmieifjephdcaaGreat
open Go.Ab Go.RowKit
theorem div32_run (hi lo y : Nat) (hh : hi < y) (hl : lo < 4294967296) (hy : y < 4294967296) : Run Tryz.prog T E0 (.call 149 [.v (.int .u32 (hi : Int)), .v (.int .u32 (lo : Int)), .v (.int .u32 (y : Int))] (.tup [.v (.int .u32 (((hi * 4294967296 + lo) / y : Nat) : Int)), .v (.int .u32 (((hi * 4294967296 + lo) % y : Nat) : Int))])) := by
 have hq : (hi * 4294967296 + lo) / y < 4294967296 := by
  rw [Nat.div_lt_iff_lt_mul (by omega)]; have := Nat.mul_le_mul_left 4294967296 (show hi + 1 ≤ y from hh); omega
 have hr : (hi * 4294967296 + lo) % y < y := Nat.mod_lt _ (by omega)
 obtain ⟨Q, hQ⟩ : ∃ Q, Q = (hi * 4294967296 + lo) / y := ⟨_, rfl⟩
 obtain ⟨R, hR⟩ : ∃ R, R = (hi * 4294967296 + lo) % y := ⟨_, rfl⟩
 rw [← hQ] at hq
 rw [← hR] at hr
 refine mkcall Tryz.func149 rfl rfl (Nat.le_of_ble_eq_true rfl) <| WC.reg (z := 2) rfl <| WO.U (oAs rfl) rfl <| WO.U (oAs rfl) rfl <| WO.nil <| WC.assoc <| WC.reg (z := 7) rfl <| WO.U (oMv rfl) rfl <| WO.U (oNeq rfl rfl) rfl <| WO.D (fun h10 => ?_) (fun h10 => ?_)
 rotate_left
 ·omega
 refine WO.U (oMv rfl) rfl <| WO.Ug rfl (oMv rfl) rfl <| WO.Ug rfl (oMv rfl) rfl <| WO.Ug rfl (oLeq rfl rfl) rfl <| WO.D (fun h14 => ?_) (fun h14 => ?_)
 ·omega
 refine WO.U (oPkT rfl rfl) rfl <| WO.nil <| WC.cF rfl <| WC.skips <| WC.reg (z := 7) rfl <| WO.U (oMv rfl) rfl <| WO.U (OP.castI (b := (hi : Int)) (oCnv rfl rfl rfl) (by rw [IntKind.wrap_u64]; omega)) rfl <| WO.U (OP.castI (b := ((hi * 4294967296 : Nat) : Int)) (oShlU (s := 32) rfl rfl (by omega)) (by omega)) rfl <| WO.U (oMv rfl) rfl <| WO.U (OP.castI (b := (lo : Int)) (oCnv rfl rfl rfl) (by rw [IntKind.wrap_u64]; omega)) rfl <| WO.U (oBin (v := .int .u64 (((hi * 4294967296 + lo) : Nat) : Int)) rfl rfl (or_hi (by omega) hl)) rfl <| WO.U (oAs rfl) rfl <| WO.nil <| WC.weak [(2, _), (8, _)] ⟨rfl, rfl, trivial⟩ <| WC.draw (z := 12) rfl (by kernel_rfl) <| WD.U (oMv rfl) rfl <| WD.U (oMv rfl) rfl <| WD.U (OP.castI (b := (y : Int)) (oCnv rfl rfl rfl) (by rw [IntKind.wrap_u64]; omega)) rfl <| WD.U (OP.castI (b := (Q : Int)) (oQuoU rfl rfl (by omega) (by omega)) (by rw [hQ])) rfl <| WD.U (OP.castI (b := (Q : Int)) (oCnv rfl rfl rfl) (by rw [IntKind.wrap_u32]; omega)) rfl <| WD.U (oMv rfl) rfl <| WD.U (oMv rfl) rfl <| WD.U (OP.castI (b := (y : Int)) (oCnv rfl rfl rfl) (by rw [IntKind.wrap_u64]; omega)) rfl <| WD.U (OP.castI (b := (R : Int)) (oRemU rfl rfl (by omega)) (by rw [hR])) rfl ?_
 refine WD.U (OP.castI (b := (R : Int)) (oCnv rfl rfl rfl) (by rw [IntKind.wrap_u32]; omega)) rfl <| WD.U (oAs rfl) rfl <| WD.U (oAs rfl) rfl <| WD.nil (drawOk_of (by kernel_rfl)) rfl <| WC.ret ?_
 exact post (n := 0) (.inr rfl) rfl (by rw [← hQ, ← hR]; rfl) (by simp)
theorem short_run (k0 : Nat) (xs : List Nat) (y : Nat) (hx : Dg B32 xs) (hy : 0 < y) (hy2 : y < 4294967296) (lx : xs.length < 1099511627776) : ∃ r, Run Tryz.prog T E0 (.call 143 [.sl k0 (xs.map d32), .v (.int .u32 (y : Int))] r) ∧ ∃ ds rest, r = .tup [.sl 1 (ds.map d32), .v (.int .u32 ((rest : Nat) : Int))] ∧ Dg B32 ds ∧ rest < y ∧ val B32 ds * y + rest = val B32 xs ∧ ds.length = xs.length := by
 refine mkcallE Tryz.func143 rfl rfl (Nat.le_of_ble_eq_true rfl) <| WC.reg (z := 2) rfl <| WO.U (oAs rfl) rfl <| WO.U (oAs rfl) rfl <| WO.nil <| WC.reg (z := 4) rfl <| WO.U (oMv rfl) rfl <| WO.U (oLenM rfl rfl) rfl <| WO.S (oMk (a := xs.length) (b := xs.length) rfl rfl rfl rfl (by omega) (by omega) (by decide) (by omega) (by show 4 * xs.length ≤ _; omega) (by omega)) rfl <| WO.U (oAs rfl) rfl <| WO.nil <| WC.reg (z := 1) rfl <| WO.U (oAs rfl) rfl <| WO.nil <| WC.assoc <| WC.reg (z := 4) rfl <| WO.U (oMv rfl) rfl <| WO.U (oLenM rfl rfl) rfl <| WO.U (oSub64 rfl rfl (by omega)) rfl <| WO.U (oAs rfl) rfl <| WO.nil <| WC.block <| WC.loopV (α := Nat × Nat × (List Nat)) (fun ⟨k, rest, us⟩ => [(0, .sl k0 (xs.map d32)), (1, .v (.int .u32 (y : Int))), (6, .ref (0 + 2 + 2) 1 0 us.length), (7, .v (.int .u32 (rest : Int))), (8, .v (.int .i64 ((k : Int) - 1)))]) (fun ⟨k, rest, us⟩ => [(0 + 2 + 2, { cells := (us.map d32).flatten, sz := 1, elem := 125, st := 0 })]) (fun ⟨k, rest, us⟩ n => k ≤ xs.length ∧ us.length = xs.length ∧ Dg B32 us ∧ rest < y ∧ val B32 (us.drop k) * y + rest = val B32 (xs.drop k)) (fun ⟨k, rest, us⟩ => k) (xs.length, 0, List.replicate xs.length 0) ⟨rfl, rfl, congrArg some (by rw [List.length_replicate]; rfl), rfl, rfl, trivial⟩ ⟨g0.trans (by rw [List.map_replicate]; rfl), trivial⟩ ⟨Nat.le_refl _, by simp, by intro d hd; simp at hd; rw [hd.2]; decide, hy, by simp [val]⟩ ?_
 rintro ⟨k, rest, us⟩ n hF
 change WC _ _ _ _ _ [(0, .sl k0 (xs.map d32)), (1, .v (.int .u32 (y : Int))), (6, .ref (0 + 2 + 2) 1 0 us.length), (7, .v (.int .u32 (rest : Int))), (8, .v (.int .i64 ((k : Int) - 1)))] ([(0 + 2 + 2, { cells := (us.map d32).flatten, sz := 1, elem := 125, st := 0 })]) n _
 obtain ⟨hk, hul, hud, hrest, huv⟩ := hF
 refine WC.assoc <| WC.reg (z := 2) rfl <| WO.U (oMv rfl) rfl <| WO.U (oGeq rfl rfl) rfl <| WO.D (fun h16 => ?_) (fun h16 => ?_)
 rotate_left
 ·refine WO.nil <| WC.cF rfl <| WC.exits <| loopR_exit <| after_exit rfl <| WC.reg (z := 4) rfl <| WO.U (oMv rfl) rfl <| WO.U (oMv rfl) rfl <| WO.U (oAs rfl) rfl <| WO.U (oAs rfl) rfl <| WO.nil <| WC.ret <| ⟨.tup [.sl 1 (us.map d32), .v (.int .u32 (rest : Int))], ⟨us, rest, rfl, hud, hrest, ?_, hul⟩, postA (n := 0) [(0 + 2 + 2, { cells := (us.map d32).flatten, sz := 1, elem := 125, st := 1 })] (.inr rfl) rfl (.own _ (by simp) rfl (by show (0 : Nat) ≠ 2; decide) rfl (by decide) (by simp [keys]) rfl rows_d32 data_rows_d32 (.data (by simp) .nil)) (by intro p hp; simp at hp; subst hp; exact ⟨_, rfl, by show (0 : Nat) ≠ 2; decide, rfl⟩)⟩
  have h0 : k = 0 := by omega
  subst h0
  simpa using huv
 refine WO.nil <| WC.cT rfl <| WC.skips <| WC.block ?_
 have hxl : xs.getD (k - 1) default < 4294967296 := getD_lt hx (by omega)
 have hq : (rest * 4294967296 + xs.getD (k - 1) default) / y < 4294967296 := by
  rw [Nat.div_lt_iff_lt_mul hy]; have := Nat.mul_le_mul_left 4294967296 (show rest + 1 ≤ y from hrest); omega
 refine WC.reg1z (z := 15) rfl <| WO.U (oMv rfl) rfl <| WO.U (oMv rfl) rfl <| WO.U (oMv rfl) rfl <| WO.U (oMv rfl) rfl <| WO.U (oMv rfl) rfl <| WO.U (oIxM (j := k - 1) rfl rfl rfl rfl (by omega) (by omega) rfl) rfl <| WO.U (oLd rfl rfl rfl) rfl <| WO.U (oMv rfl) rfl <| WO.U (oCall rfl (div32_run rest (xs.getD (k - 1) default) y hrest hxl hy2) (by simp)) rfl <| WO.U (oMv rfl) rfl <| WO.U (oEx rfl rfl) rfl <| WO.U (oEx rfl rfl) rfl <| WO.U (oIxR (j := k - 1) rfl rfl rfl rfl (by omega) (by omega) rfl) rfl <| WO.S0 (oStO (f := d32) (us := us) ((rest * 4294967296 + xs.getD (k - 1) default) / y) rfl rfl rfl g0 (fun _ => rfl) rfl rfl (by omega) rfl) <| WO.U (oAs rfl) rfl <| WO.nil <| after_normal <| WC.weak [(0, _), (1, _), (6, _), (7, _), (8, _)] ⟨rfl, rfl, rfl, rfl, rfl, trivial⟩ <| WC.reg1z (z := 3) rfl <| WO.U (oMv rfl) rfl <| WO.U (OP.castI (b := ((k - 1 : Nat) : Int) - 1) (oSub64 rfl rfl (by omega)) (by omega)) rfl <| WO.U (oAs rfl) rfl <| WO.nil ?_
 refine loopR_normal ?_
 have hj : k - 1 + 1 = k := by omega
 refine ⟨⟨k - 1, (rest * 4294967296 + xs.getD (k - 1) default) % y, us.set (k - 1) ((rest * 4294967296 + xs.getD (k - 1) default) / y)⟩, ⟨rfl, rfl, congrArg some (by rw [List.length_set]), rfl, rfl, trivial⟩, ⟨g0, trivial⟩, ⟨by omega, by rw [List.length_set]; exact hul, hud.set _ hq, Nat.mod_lt _ hy, ?_⟩, by show k - 1 < k; omega⟩
 exact short_step hy (by rw [hj]; exact huv) (by omega) (by omega)
end Go.Proofs.YtcmieifjephdcaaGreat
set_option linter.unusedVariables false
set_option linter.unusedSimpArgs false
set_option maxRecDepth 100000
namespace Go.Proofs.YtcmieifjephdcaaGreat
open Go.Ab Go.RowKit
theorem shifted_run (k0 : Nat) (xs : List Nat) (sh : Nat) (hx : Dg B32 xs) (hn : sh < 32) (lx : xs.length < 1099511627776) : ∃ sz len ob, Run Tryz.prog T E0 (.callO 151 [.sl k0 (xs.map d32), .v (.int .i64 (sh : Int))] (.ref 0 sz 0 len) ob) ∧ ∃ ds, sz = 1 ∧ len = ds.length ∧ ob = { cells := (ds.map d32).flatten, sz := 1, elem := 125, st := 0 } ∧ Dg B32 ds ∧ val B32 ds = val B32 xs * 2 ^ sh ∧ ds.length = xs.length + 1 := by
 have hp : (2 : Nat) ^ sh ≤ 2 ^ 31 := Nat.pow_le_pow_right (by decide) (by omega)
 have hp0 : 0 < (2 : Nat) ^ sh := Nat.pow_pos (by decide)
 refine mkcallO Tryz.func151 rfl rfl (Nat.le_of_ble_eq_true rfl) <| WC.reg (z := 1) rfl <| WO.U (oAs rfl) rfl <| WO.nil <| WC.reg (z := 5) rfl <| WO.U (oMv rfl) rfl <| WO.U (oLenM rfl rfl) rfl <| WO.U (oAdd64 rfl rfl (by omega)) rfl <| WO.S (oMk (a := xs.length + 1) (b := xs.length + 1) rfl rfl rfl rfl (by omega) (by omega) (by decide) (by omega) (by show 4 * (xs.length + 1) ≤ _; omega) (by omega)) rfl <| WO.U (oAs rfl) rfl <| WO.nil <| WC.assoc <| WC.reg (z := 3) rfl <| WO.U (oMv rfl) rfl <| WO.U (oLenM rfl rfl) rfl <| WO.U (oMv rfl) rfl <| WO.nil <| WC.block <| WC.loopV (α := Nat × (List Nat)) (fun ⟨i, us⟩ => [(1, .v (.int .i64 (sh : Int))), (5, .ref (0 + 1 + 3) 1 0 us.length), (13, .sl k0 (xs.map d32)), (14, .v (.int .i64 (xs.length : Int))), (15, .v (.int .i64 (i : Int)))]) (fun ⟨i, us⟩ => [(0 + 1 + 3, { cells := (us.map d32).flatten, sz := 1, elem := 125, st := 0 })]) (fun ⟨i, us⟩ n => i ≤ xs.length ∧ us.length = xs.length + 1 ∧ Dg B32 us ∧ val B32 us = val B32 (xs.take i) * 2 ^ sh ∧ (∀ j, i < j → us.getD j default = 0) ∧ us.getD i default < 2 ^ sh) (fun ⟨i, us⟩ => xs.length - i) (0, List.replicate (xs.length + 1) 0) ⟨rfl, congrArg some (by rw [List.length_replicate]; rfl), rfl, rfl, rfl, trivial⟩ ⟨g0.trans (by rw [List.map_replicate]; rfl), trivial⟩ ⟨Nat.zero_le _, by simp, by intro d hd; simp at hd; rw [hd]; decide, by rw [val_zeros]; simp [val], fun j _ => getD_zeros _ _, by rw [getD_zeros]; exact hp0⟩ ?_
 rintro ⟨i, us⟩ n hF
 change WC _ _ _ _ _ [(1, .v (.int .i64 (sh : Int))), (5, .ref (0 + 1 + 3) 1 0 us.length), (13, .sl k0 (xs.map d32)), (14, .v (.int .i64 (xs.length : Int))), (15, .v (.int .i64 (i : Int)))] ([(0 + 1 + 3, { cells := (us.map d32).flatten, sz := 1, elem := 125, st := 0 })]) n _
 obtain ⟨hi, hul, hud, huv, huz, hlo⟩ := hF
 refine WC.reg (z := 1) rfl <| WO.U (oLss rfl rfl) rfl <| WO.D (fun h16 => ?_) (fun h16 => ?_)
 rotate_left
 ·refine WO.nil <| WC.cF rfl <| WC.exits <| loopR_exit <| after_exit rfl <| WC.reg (z := 2) rfl <| WO.U (oMv rfl) rfl <| WO.U (oAs rfl) rfl <| WO.nil <| WC.ret <| ⟨1, us.length, _, ⟨us, rfl, rfl, rfl, hud, ?_, hul⟩, .inr rfl, _, rfl, rfl, rfl, rfl, by intro c hc; obtain ⟨row, hr, hc⟩ := List.mem_flatten.1 hc; exact data_rows_d32 row hr c hc⟩
  rw [huv, List.take_of_length_le (by omega)]
 refine WO.nil <| WC.cT rfl <| WC.skips <| WC.block <| WC.reg (z := 5) rfl <| WO.U (oMv rfl) rfl <| WO.U (oIxM rfl rfl rfl rfl rfl (by omega) rfl) rfl <| WO.U (oLd rfl rfl rfl) rfl <| WO.U (oAs rfl) rfl <| WO.U (oAs rfl) rfl <| WO.nil ?_
 have hxl : xs.getD i default < 4294967296 := getD_lt hx (by omega)
 have hw : (xs.getD i default * 2 ^ sh) < 9223372036854775808 := by
  have := Nat.mul_lt_mul_of_lt_of_le hxl hp (by decide); omega
 have hor := shift_or hn hlo hxl
 have hhi := shift_hi (n := sh) hxl
 have hol : us.getD i default < 4294967296 := by omega
 refine WC.reg (z := 5) rfl <| WO.U (oMv rfl) rfl <| WO.U (OP.castI (b := (xs.getD i default : Int)) (oCnv rfl rfl rfl) (by rw [IntKind.wrap_u64]; omega)) rfl <| WO.U (oMv rfl) rfl <| WO.U (OP.castI (b := (((xs.getD i default * 2 ^ sh) : Nat) : Int)) (oShlU (s := sh) rfl rfl (by omega)) (by rw [show ((xs.getD i default : Nat) : Int) * 2 ^ sh = (((xs.getD i default * 2 ^ sh) : Nat) : Int) by simp]; omega)) rfl <| WO.U (oAs rfl) rfl <| WO.nil <| WC.weak [(1, _), (5, _), (6, _), (8, _), (13, _), (14, _), (15, _)] ⟨rfl, rfl, rfl, rfl, rfl, rfl, rfl, trivial⟩ <| WC.reg (z := 9) rfl <| WO.U (oMv rfl) rfl <| WO.U (oMv rfl) rfl <| WO.U (oIxR rfl rfl rfl rfl rfl (by omega) rfl) rfl <| WO.U (oLdO (f := d32) (us := us) (j := i) rfl rfl g0 (fun _ => rfl) rfl (by decide) (by omega) rfl) rfl <| WO.U (oMv rfl) rfl <| WO.U (OP.castI (b := (((xs.getD i default * 2 ^ sh) % 4294967296 : Nat) : Int)) (oCnv rfl rfl rfl) (by rw [IntKind.wrap_u32]; omega)) rfl <| WO.U (oBin (v := .int .u32 (((us.getD i default + (xs.getD i default * 2 ^ sh) % 4294967296) : Nat) : Int)) rfl rfl ((or32 hol (by omega)).trans (by rw [hor.1]))) rfl <| WO.U (oIxR rfl rfl rfl rfl rfl (by omega) rfl) rfl <| WO.S0 (oStO (f := d32) (us := us) (us.getD i default + (xs.getD i default * 2 ^ sh) % 4294967296) rfl rfl rfl g0 (fun _ => rfl) rfl rfl (by omega) rfl) <| WO.nil <| WC.weak [(1, _), (5, _), (6, _), (8, _), (13, _), (14, _), (15, _)] ⟨rfl, rfl, rfl, rfl, rfl, rfl, rfl, trivial⟩ <| WC.reg1z (z := 8) rfl <| WO.U (oMv rfl) rfl <| WO.U (oMv rfl) rfl <| WO.U (OP.castI (b := ((i + 1 : Nat) : Int)) (oAdd64 rfl rfl (by omega)) (by omega)) rfl ?_
 refine WO.U (oMv rfl) rfl <| WO.U (OP.castI (b := (((xs.getD i default * 2 ^ sh) / 4294967296 : Nat) : Int)) (oShrU (s := 32) rfl rfl (by omega)) (by omega)) rfl <| WO.U (OP.castI (b := (((xs.getD i default * 2 ^ sh) / 4294967296 : Nat) : Int)) (oCnv rfl rfl rfl) (by rw [IntKind.wrap_u32]; omega)) rfl <| WO.U (oIxR rfl rfl rfl rfl rfl (by omega) rfl) rfl <| WO.S0 (oStO (f := d32) (us := us.set i (us.getD i default + (xs.getD i default * 2 ^ sh) % 4294967296)) ((xs.getD i default * 2 ^ sh) / 4294967296) rfl rfl rfl g0 (fun _ => rfl) rfl rfl (by rw [List.length_set]; omega) rfl) <| WO.nil <| after_normal <| WC.reg1z (z := 2) rfl <| WO.U (OP.castI (b := ((i + 1 : Nat) : Int)) (oAdd64 rfl rfl (by omega)) (by omega)) rfl <| WO.U (oMv rfl) rfl <| WO.nil <| loopR_normal <| ⟨⟨i + 1, (us.set i (us.getD i default + (xs.getD i default * 2 ^ sh) % 4294967296)).set (i + 1) ((xs.getD i default * 2 ^ sh) / 4294967296)⟩, ⟨rfl, congrArg some (by rw [List.length_set, List.length_set]), rfl, rfl, rfl, trivial⟩, ⟨g0, trivial⟩, ⟨by omega, by rw [List.length_set, List.length_set]; exact hul, (hud.set _ hor.2).set _ (by show _ < 4294967296; omega), shift_step (by decide) huv (by omega) (huz _ (by omega)), ?_, ?_⟩, by show xs.length - (i + 1) < xs.length - i; omega⟩
 ·intro j hj
  rw [lgetD_set (by omega), lgetD_set (by omega)]; exact huz j (by omega)
 ·have : ((us.set i (us.getD i default + (xs.getD i default * 2 ^ sh) % 4294967296)).set (i + 1) ((xs.getD i default * 2 ^ sh) / 4294967296)).getD (i + 1) default = (xs.getD i default * 2 ^ sh) / 4294967296 := by
   rw [List.getD_eq_getElem?_getD, List.getElem?_set_self (by simp; omega)]; rfl
  rw [this]; exact hhi
theorem len32_run (x : Nat) (hx : x < 4294967296) : Run Tryz.prog T E0 (.call 101 [.v (.int .u32 (x : Int))] (.v (.int .i64 ((blen x : Nat) : Int)))) := by
 refine mkcall Tryz.func101 rfl rfl (Nat.le_of_ble_eq_true rfl) ?_
 have J7 : ∀ (y k : Nat) (hy : y < 256) (hk : k ≤ 24) (he : blen x = blen y + k) (n : Nat) , WC Tryz.prog T E0 Tryz.f101.ntmps (codeR (codeR (codeR (codeOf Tryz.f101)))) [(0, .v (.int .u32 (y : Int))), (2, .v (.int .i64 (k : Int)))] [] n (Post T Tryz.f101.results.toList (.v (.int .i64 ((blen x : Nat) : Int)))) := by
  intro y k hy hk he n
  have hyb := blen_le (n := 8) hy
  refine WC.reg (z := 7) rfl <| WO.U (oMv rfl) rfl <| WO.U (oMv rfl) rfl <| WO.U (OP.castI (b := (y : Int)) (oCnv rfl rfl rfl) (by rw [IntKind.wrap_u8]; omega)) rfl <| WO.U (OP.castI (b := ((blen y : Nat) : Int)) (oIxS (bs := tab8) (n := (y : Int)) rfl (by kernel_rfl) rfl (by omega) (tab8_get hy)) (congrArg Int.ofNat (tab8_val hy))) rfl <| WO.U (OP.castI (b := ((blen y : Nat) : Int)) (oCnv rfl rfl rfl) (by rw [IntWalk.i64_in _ (by omega)])) rfl <| WO.U (oAdd64 rfl rfl (by omega)) rfl <| WO.U (oAs rfl) rfl <| WO.nil <| WC.ret ?_
  exact post (n := 0) (.inr rfl) rfl (congrArg (fun z => LV.v (.int .i64 z)) (by omega)) (by simp)
 refine WC.reg (z := 1) rfl <| WO.U (oAs rfl) rfl <| WO.nil <| WC.assoc <| WC.reg (z := 2) rfl <| WO.U (oMv rfl) rfl <| WO.U (oGeq rfl rfl) rfl <| WO.D (fun h4 => ?_) (fun h4 => ?_)
 rotate_left
 ·refine WO.nil <| WC.cF rfl <| WC.skips <| WC.assoc <| WC.reg (z := 2) rfl <| WO.U (oMv rfl) rfl <| WO.U (oGeq rfl rfl) rfl <| WO.D (fun h8 => ?_) (fun h8 => ?_)
  rotate_left
  ·refine WO.nil <| WC.cF rfl <| WC.skips <| WC.weak [(0, _), (2, _)] ⟨rfl, rfl, trivial⟩ ?_
   first | exact J7 (x / 65536) 16 (by omega) (by omega) (blen_div (x := x) (k := 16) (by omega)) _ | exact J7 x 0 (by omega) (by omega) rfl _
  refine WO.nil <| WC.cT rfl <| WC.assoc <| WC.reg (z := 3) rfl <| WO.U (oMv rfl) rfl <| WO.U (OP.castI (b := ((x / 256 : Nat) : Int)) (oShr32 (s := 8) rfl rfl (by omega)) (by omega)) rfl <| WO.U (oAs rfl) rfl <| WO.nil <| WC.reg (z := 3) rfl <| WO.U (oMv rfl) rfl <| WO.U (oAdd64 rfl rfl (by omega)) rfl <| WO.U (oAs rfl) rfl <| WO.nil <| WC.weak [(0, _), (2, _)] ⟨rfl, rfl, trivial⟩ ?_
  first | exact J7 (x / 65536 / 256) 24 (by omega) (by omega) (by rw [blen_div (x := x) (k := 16) (by omega), blen_div (x := x / 2 ^ 16) (k := 8) (by omega)]) _ | exact J7 (x / 256) 8 (by omega) (by omega) (blen_div (x := x) (k := 8) (by omega)) _
 refine WO.nil <| WC.cT rfl <| WC.assoc <| WC.reg (z := 3) rfl <| WO.U (oMv rfl) rfl <| WO.U (OP.castI (b := ((x / 65536 : Nat) : Int)) (oShr32 (s := 16) rfl rfl (by omega)) (by omega)) rfl <| WO.U (oAs rfl) rfl <| WO.nil <| WC.reg (z := 1) rfl <| WO.U (oAs rfl) rfl <| WO.nil <| WC.assoc <| WC.reg (z := 2) rfl <| WO.U (oMv rfl) rfl <| WO.U (oGeq rfl rfl) rfl <| WO.D (fun h8 => ?_) (fun h8 => ?_)
 rotate_left
 ·refine WO.nil <| WC.cF rfl <| WC.skips <| WC.weak [(0, _), (2, _)] ⟨rfl, rfl, trivial⟩ ?_
  first | exact J7 (x / 65536) 16 (by omega) (by omega) (blen_div (x := x) (k := 16) (by omega)) _ | exact J7 x 0 (by omega) (by omega) rfl _
 refine WO.nil <| WC.cT rfl <| WC.assoc <| WC.reg (z := 3) rfl <| WO.U (oMv rfl) rfl <| WO.U (OP.castI (b := ((x / 65536 / 256 : Nat) : Int)) (oShr32 (s := 8) rfl rfl (by omega)) (by omega)) rfl <| WO.U (oAs rfl) rfl <| WO.nil <| WC.reg (z := 3) rfl <| WO.U (oMv rfl) rfl <| WO.U (oAdd64 rfl rfl (by omega)) rfl <| WO.U (oAs rfl) rfl <| WO.nil <| WC.weak [(0, _), (2, _)] ⟨rfl, rfl, trivial⟩ ?_
 first | exact J7 (x / 65536 / 256) 24 (by omega) (by omega) (by rw [blen_div (x := x) (k := 16) (by omega), blen_div (x := x / 2 ^ 16) (k := 8) (by omega)]) _ | exact J7 (x / 256) 8 (by omega) (by omega) (blen_div (x := x) (k := 8) (by omega)) _
theorem zeros32_run (x : Nat) (hx : x < 4294967296) : Run Tryz.prog T E0 (.call 150 [.v (.int .u32 (x : Int))] (.v (.int .i64 ((32 - blen x : Nat) : Int)))) := by
 have hb := blen_le (n := 32) hx
 refine mkcall Tryz.func150 rfl rfl (Nat.le_of_ble_eq_true rfl) <| WC.reg (z := 1) rfl <| WO.U (oAs rfl) rfl <| WO.nil <| WC.reg (z := 4) rfl <| WO.U (oMv rfl) rfl <| WO.U (oCall rfl (len32_run x hx) (by simp)) rfl <| WO.U (oSub64 rfl rfl (by omega)) rfl <| WO.U (oAs rfl) rfl <| WO.nil <| WC.ret ?_
 exact post (n := 0) (.inr rfl) rfl (congrArg (fun z => LV.v (.int .i64 z)) (by omega)) (by simp)
end Go.Proofs.YtcmieifjephdcaaGreat
set_option linter.unusedVariables false
set_option linter.unusedSimpArgs false
set_option maxRecDepth 100000
set_option maxHeartbeats 4000000
namespace Go.Proofs.YtcmieifjephdcaaGreat
open Go.Ab Go.RowKit
theorem long_run (k1 k2 : Nat) (xs ys : List Nat) (hx : Dg 4294967296 xs) (hy : Dg 4294967296 ys) (ty : Trm ys) (hl : 2 ≤ ys.length) (hle : ys.length ≤ xs.length) (lx : xs.length < 549755813888) : ∃ r, Run Tryz.prog T E0 (.call 144 [.sl k1 (xs.map d32), .sl k2 (ys.map d32)] r) ∧ ∃ qs rs, r = .tup [.sl 1 (qs.map d32), .sl 1 (rs.map d32)] ∧ Dg 4294967296 qs ∧ Dg 4294967296 rs ∧ val 4294967296 qs * val 4294967296 ys + val 4294967296 rs = val 4294967296 xs ∧ val 4294967296 rs < val 4294967296 ys ∧ qs.length ≤ xs.length ∧ rs.length = ys.length := by
 obtain ⟨sh, hsh⟩ : ∃ sh, sh = 32 - blen (ys.getD (ys.length - 1) default) := ⟨_, rfl⟩
 obtain ⟨n1, n2, n3⟩ := norm_facts hy ty hl hsh
 obtain ⟨vs, hvs⟩ : ∃ vs, vs = dgs 4294967296 (val 4294967296 ys * 2 ^ sh) := ⟨_, rfl⟩
 rw [← hvs] at n2 n3
 rw [← n2] at n3
 have hvd : Dg 4294967296 vs := by rw [hvs]; exact dgs_dg (by decide) _
 have hvv : val 4294967296 vs = val 4294967296 ys * 2 ^ sh := by rw [hvs]; exact dgs_val (by decide) _
 have hyl : ys.getD (ys.length - 1) default < 4294967296 := getD_lt hy (by omega)
 obtain ⟨_, _, _, hr1, us0, rfl, rfl, rfl, hud0, huv0, hul0⟩ := shifted_run k1 xs sh hx n1 (by omega)
 obtain ⟨_, _, _, hr2, ws, rfl, rfl, rfl, hwd, hwv, hwl⟩ := shifted_run k2 ys sh hy n1 (by omega)
 have htr : trim ws = vs := by rw [trim_dgs (by decide) hwd, hwv, hvs]
 have hp31 : (2 : Nat) ^ sh ≤ 2 ^ 31 := Nat.pow_le_pow_right (by decide) (by omega)
 have hp0 : 0 < (2 : Nat) ^ sh := Nat.pow_pos (by decide)
 have hV0 : 0 < val 4294967296 vs := by
  have h1 := take_drop_val 4294967296 vs (vs.length - 1) (by omega)
  rw [drop_cons_getD (by omega : vs.length - 1 < vs.length)] at h1
  simp only [val] at h1
  have h2 : 0 < (4294967296 : Nat) ^ (vs.length - 1) := Nat.pow_pos (by decide)
  have h3 := Nat.mul_le_mul h2 n3
  have h4 := Nat.mul_add ((4294967296 : Nat) ^ (vs.length - 1)) (vs.getD (vs.length - 1) default) (4294967296 * val 4294967296 (List.drop (vs.length - 1 + 1) vs))
  omega
 refine mkcallE Tryz.func144 rfl rfl (Nat.le_of_ble_eq_true rfl) <| WC.reg (z := 2) rfl <| WO.U (oAs rfl) rfl <| WO.U (oAs rfl) rfl <| WO.nil <| WC.reg (z := 8) rfl <| WO.U (oMv rfl) rfl <| WO.U (oMv rfl) rfl <| WO.U (oLenM rfl rfl) rfl <| WO.U (oSub64 rfl rfl (by omega)) rfl <| WO.U (oIxM (j := ys.length - 1) rfl rfl rfl rfl (by omega) (by omega) rfl) rfl <| WO.U (oLd rfl rfl rfl) rfl <| WO.U (OP.castI (b := (sh : Int)) (oCall rfl (zeros32_run _ hyl) (by simp)) (by rw [hsh])) rfl <| WO.U (oAs rfl) rfl <| WO.nil <| WC.reg (z := 9) rfl <| WO.U (oMv rfl) rfl <| WO.U (oMv rfl) rfl <| WO.S (oCallO rfl hr1 (by simp)) rfl <| WO.U (oMv rfl) rfl <| WO.U (oMv rfl) rfl <| WO.S (oCallO rfl hr2 (by simp)) rfl <| WO.S (OP.cast (b := .sl 1 (vs.map d32)) (oCallF [.sl 1 (ws.map d32)] [((0 + 2 + 8 + 5), { cells := (ws.map d32).flatten, sz := 1, elem := 125, st := 1 })] rfl (trim_run 1 ws (by omega) (by omega)) (.own _ (by simp) g0 (by show (0 : Nat) ≠ 2; decide) rfl (by decide) (by simp [keys]) rfl rows_d32 data_rows_d32 .nil) (by intro p hp; simp at hp; subst hp; exact ⟨_, g0, by show (0 : Nat) ≠ 2; decide, rfl⟩)) (by rw [htr]; rfl)) rfl <| WO.U (oAs rfl) rfl ?_
 refine WO.U (oAs rfl) rfl <| WO.nil <| WC.weak [(6, _), (7, _), (8, _)] ⟨rfl, rfl, rfl, trivial⟩ <| WC.reg (z := 3) rfl <| WO.U (oMv rfl) rfl <| WO.U (oLenM rfl rfl) rfl <| WO.U (oAs rfl) rfl <| WO.nil <| WC.reg (z := 6) rfl <| WO.U (oMv rfl) rfl <| WO.U (oLenR rfl rfl) rfl <| WO.U (oMv rfl) rfl <| WO.U (oSub64 rfl rfl (by omega)) rfl <| WO.S (oMk (a := xs.length + 1 - ys.length) (b := xs.length + 1 - ys.length) rfl rfl rfl rfl (by omega) (by omega) (by decide) (by omega) (by show 4 * (xs.length + 1 - ys.length) ≤ _; omega) (by omega)) rfl <| WO.U (oAs rfl) rfl <| WO.nil <| WC.assoc <| WC.reg (z := 6) rfl <| WO.U (oMv rfl) rfl <| WO.U (oLenR rfl rfl) rfl <| WO.U (oMv rfl) rfl <| WO.U (oSub64 rfl rfl (by omega)) rfl <| WO.U (oSub64 rfl rfl (by omega)) rfl <| WO.U (oAs rfl) rfl ?_
 refine WO.nil <| WC.weak [(6, _), (7, _), (8, _), (9, _), (10, _), (11, _)] ⟨rfl, rfl, rfl, rfl, rfl, rfl, trivial⟩ <| WC.block <| WC.loopV (α := Nat × (List Nat) × (List Nat)) (fun ⟨k, us, qs⟩ => [(6, .v (.int .i64 (sh : Int))), (7, .ref (0 + 2 + 8 + 2) 1 0 us.length), (8, .sl 1 (vs.map d32)), (9, .v (.int .i64 (vs.length : Int))), (10, .ref (0 + 2 + 8 + 9 + 3 + 4) 1 0 qs.length), (11, .v (.int .i64 ((k : Int) - 1)))]) (fun ⟨k, us, qs⟩ => [((0 + 2 + 8 + 2), { cells := (us.map d32).flatten, sz := 1, elem := 125, st := 0 }), ((0 + 2 + 8 + 9 + 3 + 4), { cells := (qs.map d32).flatten, sz := 1, elem := 125, st := 0 })]) (fun ⟨k, us, qs⟩ n => k + vs.length ≤ us.length ∧ us.length = xs.length + 1 ∧ qs.length = xs.length + 1 - ys.length ∧ Dg 4294967296 us ∧ Dg 4294967296 qs ∧ val 4294967296 us0 = val 4294967296 (qs.drop k) * val 4294967296 vs * 4294967296 ^ k + val 4294967296 us ∧ val 4294967296 (us.drop k) < val 4294967296 vs ∧ 30 ≤ n) (fun ⟨k, us, qs⟩ => k) (xs.length + 1 - ys.length, us0, List.replicate (xs.length + 1 - ys.length) 0) ⟨rfl, rfl, rfl, rfl, congrArg some (by rw [List.length_replicate]; rfl), congrArg (fun z => some (LV.v (.int .i64 z))) (by omega), trivial⟩ ⟨rfl, g0.trans (by rw [List.map_replicate]; rfl), trivial⟩ ⟨by omega, hul0, by simp, hud0, by intro d hd; simp at hd; rw [hd.2]; decide, by rw [List.drop_eq_nil_of_le (by simp)]; simp [val], long_init (n := xs.length) (by decide) huv0 (val_lt (by decide) hx) (by omega) (by omega) (by omega) hp0 (by omega), by omega⟩ ?_
 rintro ⟨k, us, qs⟩ n hF
 change WC _ _ _ _ _ [(6, .v (.int .i64 (sh : Int))), (7, .ref (0 + 2 + 8 + 2) 1 0 us.length), (8, .sl 1 (vs.map d32)), (9, .v (.int .i64 (vs.length : Int))), (10, .ref (0 + 2 + 8 + 9 + 3 + 4) 1 0 qs.length), (11, .v (.int .i64 ((k : Int) - 1)))] ([((0 + 2 + 8 + 2), { cells := (us.map d32).flatten, sz := 1, elem := 125, st := 0 }), ((0 + 2 + 8 + 9 + 3 + 4), { cells := (qs.map d32).flatten, sz := 1, elem := 125, st := 0 })]) n _
 obtain ⟨hk, hul, hql0, hud, hqd, hU, hlt, hn30⟩ := hF
 refine WC.assoc <| WC.reg (z := 2) rfl <| WO.U (oMv rfl) rfl <| WO.U (oGeq rfl rfl) rfl <| WO.D (fun h54 => ?_) (fun h54 => ?_)
 rotate_left
 ·refine WO.nil <| WC.cF rfl <| WC.exits <| loopR_exit <| after_exit rfl ?_
  have hk0 : k = 0 := by omega
  subst hk0
  rw [List.drop_zero, Nat.pow_zero, Nat.mul_one] at hU
  rw [List.drop_zero] at hlt
  refine WC.reg (z := 3) rfl <| WO.U (oMv rfl) rfl <| WO.S (oMk (a := vs.length) (b := vs.length) rfl rfl rfl rfl (by omega) (by omega) (by decide) (by omega) (by show 4 * vs.length ≤ _; omega) (by omega)) rfl <| WO.U (oAs rfl) rfl <| WO.nil <| WC.assoc <| WC.reg (z := 3) rfl <| WO.U (oMv rfl) rfl <| WO.U (oLenR rfl rfl) rfl <| WO.U (oMv rfl) rfl <| WO.nil <| WC.block <| WC.loopV (α := Nat × Nat × (List Nat)) (fun ⟨i, q3, rs⟩ => [(6, .v (.int .i64 (sh : Int))), (7, .ref (0 + 2 + 8 + 2) 1 0 us.length), (10, .ref (0 + 2 + 8 + 9 + 3 + 4) 1 0 qs.length), (25, .ref q3 1 0 rs.length), (229, .v (.int .i64 (vs.length : Int))), (230, .v (.int .i64 (i : Int)))]) (fun ⟨i, q3, rs⟩ => [((0 + 2 + 8 + 2), { cells := (us.map d32).flatten, sz := 1, elem := 125, st := 0 }), ((0 + 2 + 8 + 9 + 3 + 4), { cells := (qs.map d32).flatten, sz := 1, elem := 125, st := 0 }), (q3, { cells := (rs.map d32).flatten, sz := 1, elem := 125, st := 0 })]) (fun ⟨i, q3, rs⟩ n => i ≤ vs.length ∧ rs.length = vs.length ∧ Dg 4294967296 rs ∧ val 4294967296 rs = (val 4294967296 (us.take (i + 1)) / 2 ^ sh) % 4294967296 ^ i ∧ (∀ j, i ≤ j → rs.getD j default = 0) ∧ 30 ≤ q3) (fun ⟨i, q3, rs⟩ => vs.length - i) (0, n + 2 + 1, List.replicate vs.length 0) ⟨rfl, rfl, rfl, congrArg some (by rw [List.length_replicate]; rfl), rfl, rfl, trivial⟩ ⟨g1 (by omega) g0, g1 (by omega) (g1 (by decide) g0), g0.trans (by rw [List.map_replicate]; rfl), trivial⟩ ⟨Nat.zero_le _, by simp, by intro d hd; simp at hd; rw [hd.2]; decide, by rw [val_zeros, Nat.pow_zero, Nat.mod_one], fun j _ => getD_zeros _ _, by omega⟩ ?_
  rintro ⟨i, q3, rs⟩ n hR
  change WC _ _ _ _ _ [(6, .v (.int .i64 (sh : Int))), (7, .ref (0 + 2 + 8 + 2) 1 0 us.length), (10, .ref (0 + 2 + 8 + 9 + 3 + 4) 1 0 qs.length), (25, .ref q3 1 0 rs.length), (229, .v (.int .i64 (vs.length : Int))), (230, .v (.int .i64 (i : Int)))] ([((0 + 2 + 8 + 2), { cells := (us.map d32).flatten, sz := 1, elem := 125, st := 0 }), ((0 + 2 + 8 + 9 + 3 + 4), { cells := (qs.map d32).flatten, sz := 1, elem := 125, st := 0 }), (q3, { cells := (rs.map d32).flatten, sz := 1, elem := 125, st := 0 })]) n _
  obtain ⟨hi, hrl, hrd, hrv, hrz, hq3⟩ := hR
  refine WC.reg (z := 1) rfl <| WO.U (oLss rfl rfl) rfl <| WO.D (fun h231 => ?_) (fun h231 => ?_)
  rotate_left
  ·refine WO.nil <| WC.cF rfl <| WC.exits <| loopR_exit <| after_exit rfl ?_
   have hi' : i = vs.length := by omega
   subst hi'
   rw [rest_end (Nat.lt_trans hlt (val_lt (by decide) hvd)) (by omega)] at hrv
   obtain ⟨hx1, hx2⟩ := unshift hp0 (show val 4294967296 xs * 2 ^ sh = val 4294967296 qs * (val 4294967296 ys * 2 ^ sh) + val 4294967296 us by rw [← hvv, ← huv0, hU]) (by rw [← hvv]; exact hlt)
   rw [← hrv] at hx1 hx2
   refine WC.reg (z := 4) rfl <| WO.U (oMv rfl) rfl <| WO.U (oMv rfl) rfl <| WO.U (oAs rfl) rfl <| WO.U (oAs rfl) rfl <| WO.nil <| WC.ret <| ⟨.tup [.sl 1 (qs.map d32), .sl 1 (rs.map d32)], ⟨qs, rs, rfl, hqd, hrd, hx1, hx2, by omega, by omega⟩, ?_⟩
   exact postA (n := 0) [((0 + 2 + 8 + 9 + 3 + 4), { cells := (qs.map d32).flatten, sz := 1, elem := 125, st := 1 }), (q3, { cells := (rs.map d32).flatten, sz := 1, elem := 125, st := 1 })] (.inr rfl) rfl (.own _ (by simp) (g1 (by omega) g0) (by show (0 : Nat) ≠ 2; decide) rfl (by decide) (by simp [keys]) rfl rows_d32 data_rows_d32 (.own _ (by simp) (g1 (by omega) (g1 (by omega) g0)) (by show (0 : Nat) ≠ 2; decide) rfl (by decide) (by simp [keys]) rfl rows_d32 data_rows_d32 .nil)) (by intro p hp; simp at hp; rcases hp with hp | hp <;> subst hp; exact ⟨_, g1 (by omega) g0, by show (0 : Nat) ≠ 2; decide, rfl⟩; exact ⟨_, g1 (by omega) (g1 (by omega) g0), by show (0 : Nat) ≠ 2; decide, rfl⟩)
  refine WO.nil <| WC.cT rfl <| WC.skips <| WC.block <| WC.reg (z := 2) rfl <| WO.U (oMv rfl) rfl <| WO.U (oAs rfl) rfl <| WO.nil ?_
  have hux : us.getD i default < 4294967296 := getD_lt hud (by omega)
  have huy : us.getD (i + 1) default < 4294967296 := getD_lt hud (by omega)
  obtain ⟨Z, hZ⟩ : ∃ Z, Z = (us.getD i default + us.getD (i + 1) default * 4294967296) / 2 ^ sh := ⟨_, rfl⟩
  refine WC.draw1z (z := 20) rfl (by kernel_rfl) <| WD.U (oMv rfl) rfl <| WD.U (oMv rfl) rfl <| WD.U (oMv rfl) rfl <| WD.U (oMv rfl) rfl <| WD.U (oIxR rfl rfl rfl rfl rfl (by omega) rfl) rfl <| WD.U (oLdO (f := d32) (us := us) (j := i) rfl rfl g0 (fun _ => rfl) rfl (by decide) (by omega) rfl) rfl <| WD.U (OP.castI (b := (us.getD i default : Int)) (oCnv rfl rfl rfl) (by rw [IntKind.wrap_u64]; omega)) rfl <| WD.U (oMv rfl) rfl <| WD.U (oMv rfl) rfl <| WD.U (OP.castI (b := ((i + 1 : Nat) : Int)) (oAdd64 rfl rfl (by omega)) (by omega)) rfl <| WD.U (oIxR (j := i + 1) rfl rfl rfl rfl (by omega) (by omega) rfl) rfl <| WD.U (oLdO (f := d32) (us := us) (j := i + 1) rfl rfl g0 (fun _ => rfl) rfl (by decide) (by omega) rfl) rfl <| WD.U (OP.castI (b := (us.getD (i + 1) default : Int)) (oCnv rfl rfl rfl) (by rw [IntKind.wrap_u64]; omega)) rfl <| WD.U (OP.castI (b := ((us.getD (i + 1) default * 4294967296 : Nat) : Int)) (oShlU (s := 32) rfl rfl (by omega)) (by omega)) rfl <| WD.U (oBin (v := .int .u64 (((us.getD i default + us.getD (i + 1) default * 4294967296) : Nat) : Int)) rfl rfl (or_lo (by omega) (by omega))) rfl <| WD.U (oMv rfl) rfl <| WD.U (OP.castI (b := (Z : Int)) (oShrU (s := sh) rfl rfl (by omega)) (by rw [hZ]; simp)) rfl <| WD.U (OP.castI (b := ((Z % 4294967296 : Nat) : Int)) (oCnv rfl rfl rfl) (by rw [IntKind.wrap_u32]; omega)) rfl <| WD.U (oIxR rfl rfl rfl rfl rfl (by omega) rfl) rfl <| WD.S0 (oStO (f := d32) (us := rs) (Z % 4294967296) rfl rfl rfl (g1 (by omega) (g1 (by omega) g0)) (fun _ => rfl) rfl rfl (by omega) rfl) <| WD.nil (drawOk_of (by kernel_rfl)) rfl <| after_normal <| WC.weak [(6, _), (7, _), (10, _), (25, _), (229, _), (230, _)] ⟨rfl, rfl, rfl, rfl, rfl, rfl, trivial⟩ ?_
  refine WC.reg1z (z := 2) rfl <| WO.U (OP.castI (b := ((i + 1 : Nat) : Int)) (oAdd64 rfl rfl (by omega)) (by omega)) rfl <| WO.U (oMv rfl) rfl <| WO.nil <| loopR_normal <| ⟨⟨i + 1, q3, rs.set i (Z % 4294967296)⟩, ⟨rfl, rfl, rfl, congrArg some (by rw [List.length_set]), rfl, rfl, trivial⟩, ⟨g1 (by omega) g0, g1 (by omega) (g1 (by decide) g0), g0, trivial⟩, ⟨by omega, by rw [List.length_set]; exact hrl, hrd.set _ (Nat.mod_lt _ (by decide)), by rw [hZ]; exact rest_set (by omega) (by omega) hud (by omega) (hrz i (Nat.le_refl _)) hrv, ?_, hq3⟩, by show vs.length - (i + 1) < vs.length - i; omega⟩
  intro j hj
  rw [lgetD_set (by omega)]; exact hrz j (by omega)
 refine WO.nil <| WC.cT rfl <| WC.skips <| WC.block ?_
 have hu0 : us.getD (k - 1 + vs.length) default < 4294967296 := getD_lt hud (by omega)
 have hu1 : us.getD (k - 1 + vs.length - 1) default < 4294967296 := getD_lt hud (by omega)
 have LQh := lq_make (B := 4294967296) (by decide) (j := k - 1) hud hvd (by omega) (by omega) (by omega) (by rw [show k - 1 + 1 = k by omega]; exact hlt)
 obtain ⟨top, htop⟩ : ∃ top, top = us.getD (k - 1 + vs.length) default * 4294967296 + us.getD (k - 1 + vs.length - 1) default := ⟨_, rfl⟩
 obtain ⟨u2, hu2⟩ : ∃ z, z = us.getD (k - 1 + vs.length - 2) default := ⟨_, rfl⟩
 obtain ⟨v1, hv1⟩ : ∃ z, z = vs.getD (vs.length - 1) default := ⟨_, rfl⟩
 obtain ⟨v2, hv2⟩ : ∃ z, z = vs.getD (vs.length - 2) default := ⟨_, rfl⟩
 rw [← htop, ← hu2, ← hv1, ← hv2] at LQh
 have lu2 : u2 < 4294967296 := by rw [hu2]; exact getD_lt hud (by omega)
 have lv1 : v1 < 4294967296 := by rw [hv1]; exact getD_lt hvd (by omega)
 have lv2 : v2 < 4294967296 := by rw [hv2]; exact getD_lt hvd (by omega)
 have gv1 : 2147483648 ≤ v1 := by rw [hv1]; exact n3
 have htop2 : top < 18446744073709551616 := by omega
 have hRB := LQh.lt_pow (val_lt (B := 4294967296) (by decide) hvd)
 refine WC.draw (z := 18) rfl (by kernel_rfl) <| WD.U (oMv rfl) rfl <| WD.U (oMv rfl) rfl <| WD.U (oMv rfl) rfl <| WD.U (OP.castI (b := ((k - 1 + vs.length : Nat) : Int)) (oAdd64 rfl rfl (by omega)) (by omega)) rfl <| WD.U (oIxR (j := k - 1 + vs.length) rfl rfl rfl rfl (by omega) (by omega) rfl) rfl <| WD.U (oLdO (f := d32) (us := us) (j := k - 1 + vs.length) rfl rfl g0 (fun _ => rfl) rfl (by decide) (by omega) rfl) rfl <| WD.U (OP.castI (b := (us.getD (k - 1 + vs.length) default : Int)) (oCnv rfl rfl rfl) (by rw [IntKind.wrap_u64]; omega)) rfl <| WD.U (OP.castI (b := ((us.getD (k - 1 + vs.length) default * 4294967296 : Nat) : Int)) (oShlU (s := 32) rfl rfl (by omega)) (by omega)) rfl <| WD.U (oMv rfl) rfl <| WD.U (oMv rfl) rfl <| WD.U (oMv rfl) rfl <| WD.U (OP.castI (b := ((k - 1 + vs.length : Nat) : Int)) (oAdd64 rfl rfl (by omega)) (by omega)) rfl <| WD.U (oSub64 rfl rfl (by omega)) rfl <| WD.U (oIxR (j := k - 1 + vs.length - 1) rfl rfl rfl rfl (by omega) (by omega) rfl) rfl <| WD.U (oLdO (f := d32) (us := us) (j := k - 1 + vs.length - 1) rfl rfl g0 (fun _ => rfl) rfl (by decide) (by omega) rfl) rfl <| WD.U (OP.castI (b := (us.getD (k - 1 + vs.length - 1) default : Int)) (oCnv rfl rfl rfl) (by rw [IntKind.wrap_u64]; omega)) rfl <| WD.U (OP.castI (b := (top : Int)) (oBin (v := .int .u64 ((us.getD (k - 1 + vs.length) default * 4294967296 + us.getD (k - 1 + vs.length - 1) default : Nat) : Int)) rfl rfl (or_hi (by omega) (by omega))) (by rw [htop])) rfl <| WD.U (oAs rfl) rfl <| WD.nil (drawOk_of (by kernel_rfl)) rfl <| WC.weak [(6, _), (7, _), (8, _), (9, _), (10, _), (11, _), (12, _)] ⟨rfl, rfl, rfl, rfl, rfl, rfl, rfl, trivial⟩ <| WC.reg (z := 9) rfl <| WO.U (oMv rfl) rfl <| WO.U (oMv rfl) rfl ?_
 refine WO.U (oMv rfl) rfl <| WO.U (oSub64 rfl rfl (by omega)) rfl <| WO.U (oIxM (j := vs.length - 1) rfl rfl rfl rfl (by omega) (by omega) rfl) rfl <| WO.U (oLd rfl rfl rfl) rfl <| WO.U (OP.castI (b := (v1 : Int)) (oCnv rfl rfl rfl) (by rw [IntKind.wrap_u64]; omega)) rfl <| WO.U (oQuoU rfl rfl (by omega) (by omega)) rfl <| WO.U (oAs rfl) rfl <| WO.nil <| WC.weak [(6, _), (7, _), (8, _), (9, _), (10, _), (11, _), (12, _), (13, _)] ⟨rfl, rfl, rfl, rfl, rfl, rfl, rfl, rfl, trivial⟩ <| WC.reg (z := 9) rfl <| WO.U (oMv rfl) rfl <| WO.U (oMv rfl) rfl <| WO.U (oMv rfl) rfl <| WO.U (oSub64 rfl rfl (by omega)) rfl <| WO.U (oIxM (j := vs.length - 1) rfl rfl rfl rfl (by omega) (by omega) rfl) rfl <| WO.U (oLd rfl rfl rfl) rfl <| WO.U (OP.castI (b := (v1 : Int)) (oCnv rfl rfl rfl) (by rw [IntKind.wrap_u64]; omega)) rfl <| WO.U (oRemU rfl rfl (by omega)) rfl <| WO.U (oAs rfl) rfl <| WO.nil <| WC.weak [(6, _), (7, _), (8, _), (9, _), (10, _), (11, _), (13, _), (14, _)] ⟨rfl, rfl, rfl, rfl, rfl, rfl, rfl, rfl, trivial⟩ <| WC.block <| WC.loopV (α := Nat × Nat) (fun ⟨qh, rh⟩ => [(6, .v (.int .i64 (sh : Int))), (7, .ref (0 + 2 + 8 + 2) 1 0 us.length), (8, .sl 1 (vs.map d32)), (9, .v (.int .i64 (vs.length : Int))), (10, .ref (0 + 2 + 8 + 9 + 3 + 4) 1 0 qs.length), (11, .v (.int .i64 ((k : Int) - 1))), (13, .v (.int .u64 (qh : Int))), (14, .v (.int .u64 (rh : Int)))]) (fun ⟨qh, rh⟩ => [((0 + 2 + 8 + 2), { cells := (us.map d32).flatten, sz := 1, elem := 125, st := 0 }), ((0 + 2 + 8 + 9 + 3 + 4), { cells := (qs.map d32).flatten, sz := 1, elem := 125, st := 0 })]) (fun ⟨qh, rh⟩ n => top = qh * v1 + rh ∧ val 4294967296 (us.drop (k - 1)) / val 4294967296 vs ≤ qh ∧ qh ≤ 4294967297 ∧ rh < 4294967296 ∧ 30 ≤ n) (fun ⟨qh, rh⟩ => qh) (top / v1, top % v1) ⟨rfl, rfl, rfl, rfl, rfl, rfl, rfl, rfl, trivial⟩ ⟨g0, g1 (by decide) g0, trivial⟩ ⟨(Nat.div_add_mod' top v1).symm, lq_start LQh (by decide), lq_first LQh (by decide), by have := Nat.mod_lt top (show 0 < v1 by omega); omega, by omega⟩ ?_
 rintro ⟨qh, rh⟩ n hG
 change WC _ _ _ _ _ [(6, .v (.int .i64 (sh : Int))), (7, .ref (0 + 2 + 8 + 2) 1 0 us.length), (8, .sl 1 (vs.map d32)), (9, .v (.int .i64 (vs.length : Int))), (10, .ref (0 + 2 + 8 + 9 + 3 + 4) 1 0 qs.length), (11, .v (.int .i64 ((k : Int) - 1))), (13, .v (.int .u64 (qh : Int))), (14, .v (.int .u64 (rh : Int)))] ([((0 + 2 + 8 + 2), { cells := (us.map d32).flatten, sz := 1, elem := 125, st := 0 }), ((0 + 2 + 8 + 9 + 3 + 4), { cells := (qs.map d32).flatten, sz := 1, elem := 125, st := 0 })]) n _
 obtain ⟨hG1, hG2, hG3, hG4, hn31⟩ := hG
 refine WC.assoc <| WC.draw (z := 24) rfl (by kernel_rfl) <| WD.U (oMv rfl) rfl <| WD.U (oGeq rfl rfl) rfl <| WD.D (fun h91 => ?_) (fun h91 => ?_)
 ·refine WD.U (oMv rfl) rfl <| WD.K rfl rfl <| WD.K rfl rfl <| WD.K rfl rfl <| WD.K rfl rfl <| WD.K rfl rfl <| WD.K rfl rfl <| WD.K rfl rfl <| WD.K rfl rfl <| WD.K rfl rfl <| WD.K rfl rfl <| WD.K rfl rfl <| WD.K rfl rfl <| WD.K rfl rfl <| WD.K rfl rfl <| WD.K rfl rfl <| WD.K rfl rfl <| WD.K rfl rfl <| WD.K rfl rfl <| WD.K rfl rfl <| WD.K rfl rfl <| WD.U (oPkT rfl rfl) rfl <| WD.nil (drawOk_of (by kernel_rfl)) rfl <| WC.weak [(6, _), (7, _), (8, _), (9, _), (10, _), (11, _), (13, _), (14, _), (93, _), (94, _), (95, _), (96, _), (97, _), (98, _), (99, _), (100, _), (101, _), (102, _), (103, _), (104, _), (105, _), (106, _), (107, _), (108, _), (109, _), (110, _), (111, _), (112, _), (113, _)] ⟨rfl, rfl, rfl, rfl, rfl, rfl, rfl, rfl, rfl, rfl, rfl, rfl, rfl, rfl, rfl, rfl, rfl, rfl, rfl, rfl, rfl, rfl, rfl, rfl, rfl, rfl, rfl, rfl, rfl, trivial⟩ ?_
  refine WC.cT rfl <| WC.skips <| WC.block1 ?_
  obtain ⟨hdc1, hdc2⟩ := lq_dec LQh hG1 hG2 (by first | exact .inl (by omega) | exact .inr (by omega))
  refine WC.reg (z := 3) rfl <| WO.U (oMv rfl) rfl <| WO.U (OP.castI (b := ((qh - 1 : Nat) : Int)) (oSubU rfl rfl) (by omega)) rfl <| WO.U (oAs rfl) rfl <| WO.nil <| WC.weak [(6, _), (7, _), (8, _), (9, _), (10, _), (11, _), (13, _), (14, _), (93, _), (94, _), (95, _), (96, _), (97, _), (98, _), (99, _), (100, _), (101, _), (102, _), (103, _), (104, _), (105, _), (106, _), (107, _), (108, _), (109, _), (110, _), (111, _), (112, _)] ⟨rfl, rfl, rfl, rfl, rfl, rfl, rfl, rfl, rfl, rfl, rfl, rfl, rfl, rfl, rfl, rfl, rfl, rfl, rfl, rfl, rfl, rfl, rfl, rfl, rfl, rfl, rfl, rfl, trivial⟩ <| WC.reg (z := 9) rfl <| WO.U (oMv rfl) rfl <| WO.U (oMv rfl) rfl <| WO.U (oMv rfl) rfl <| WO.U (oSub64 rfl rfl (by omega)) rfl <| WO.U (oIxM (j := vs.length - 1) rfl rfl rfl rfl (by omega) (by omega) rfl) rfl <| WO.U (oLd rfl rfl rfl) rfl <| WO.U (OP.castI (b := (v1 : Int)) (oCnv rfl rfl rfl) (by rw [IntKind.wrap_u64]; omega)) rfl <| WO.U (OP.castI (b := ((rh + v1 : Nat) : Int)) (oAddU rfl rfl) (by omega)) rfl <| WO.U (oAs rfl) rfl <| WO.nil <| WC.weak [(6, _), (7, _), (8, _), (9, _), (10, _), (11, _), (13, _), (14, _), (93, _), (94, _), (95, _), (96, _), (97, _), (98, _), (99, _), (100, _), (101, _), (102, _), (103, _), (104, _), (105, _), (106, _), (107, _), (108, _), (109, _), (110, _), (111, _), (112, _)] ⟨rfl, rfl, rfl, rfl, rfl, rfl, rfl, rfl, rfl, rfl, rfl, rfl, rfl, rfl, rfl, rfl, rfl, rfl, rfl, rfl, rfl, rfl, rfl, rfl, rfl, rfl, rfl, rfl, trivial⟩ <| WC.reg (z := 2) rfl <| WO.U (oMv rfl) rfl <| WO.U (oGeq rfl rfl) rfl <| WO.D (fun h125 => ?_) (fun h125 => ?_)
  rotate_left
  ·refine WO.nil <| WC.weak [(6, _), (7, _), (8, _), (9, _), (10, _), (11, _), (13, _), (14, _), (93, _), (94, _), (95, _), (96, _), (97, _), (98, _), (99, _), (100, _), (101, _), (102, _), (103, _), (104, _), (105, _), (106, _), (107, _), (108, _), (109, _), (110, _), (111, _), (112, _), (125, _)] ⟨rfl, rfl, rfl, rfl, rfl, rfl, rfl, rfl, rfl, rfl, rfl, rfl, rfl, rfl, rfl, rfl, rfl, rfl, rfl, rfl, rfl, rfl, rfl, rfl, rfl, rfl, rfl, rfl, rfl, trivial⟩ <| WC.cF1 rfl <| WC.skip <| after0_normal <| loopR_normal <| ⟨⟨qh - 1, rh + v1⟩, ⟨rfl, rfl, rfl, rfl, rfl, rfl, rfl, rfl, trivial⟩, ⟨g0, g1 (by decide) g0, trivial⟩, ⟨dec_eq hG1 hdc1, hdc2, by omega, by omega, by omega⟩, by show qh - 1 < qh; omega⟩
  refine WO.nil <| WC.weak [(6, _), (7, _), (8, _), (9, _), (10, _), (11, _), (13, _), (14, _), (93, _), (94, _), (95, _), (96, _), (97, _), (98, _), (99, _), (100, _), (101, _), (102, _), (103, _), (104, _), (105, _), (106, _), (107, _), (108, _), (109, _), (110, _), (111, _), (112, _), (125, _)] ⟨rfl, rfl, rfl, rfl, rfl, rfl, rfl, rfl, rfl, rfl, rfl, rfl, rfl, rfl, rfl, rfl, rfl, rfl, rfl, rfl, rfl, rfl, rfl, rfl, rfl, rfl, rfl, rfl, rfl, trivial⟩ <| WC.cT1 rfl <| WC.exit <| after0_exitF rfl <| loopR_exit <| after_exit rfl <| WC.weak [(6, _), (7, _), (8, _), (9, _), (10, _), (11, _), (13, _), (93, _), (94, _), (95, _), (96, _), (97, _), (98, _), (99, _), (100, _), (101, _), (102, _), (103, _), (104, _), (105, _), (106, _), (107, _), (108, _), (109, _), (110, _), (111, _), (112, _)] ⟨rfl, rfl, rfl, rfl, rfl, rfl, rfl, rfl, rfl, rfl, rfl, rfl, rfl, rfl, rfl, rfl, rfl, rfl, rfl, rfl, rfl, rfl, rfl, rfl, rfl, rfl, rfl, trivial⟩ ?_
  obtain ⟨hql, hqo⟩ := lq_break LQh hG1 hdc1 hG4 (by omega) hG3
  replace hG2 := hdc2
  obtain ⟨q1, hq1⟩ : ∃ q1, q1 = qh - 1 := ⟨_, rfl⟩
  rw [← hq1] at hqo hql hG2 ⊢
  refine WC.reg (z := 2) rfl <| WO.U (oAs rfl) rfl <| WO.U (oAs rfl) rfl <| WO.nil <| WC.weak [(6, _), (7, _), (8, _), (9, _), (10, _), (11, _), (13, _), (15, _), (16, _), (93, _), (94, _), (95, _), (96, _), (97, _), (98, _), (99, _), (100, _), (101, _), (102, _), (103, _), (104, _), (105, _), (106, _), (107, _), (108, _), (109, _), (110, _), (111, _), (112, _)] ⟨rfl, rfl, rfl, rfl, rfl, rfl, rfl, rfl, rfl, rfl, rfl, rfl, rfl, rfl, rfl, rfl, rfl, rfl, rfl, rfl, rfl, rfl, rfl, rfl, rfl, rfl, rfl, rfl, rfl, trivial⟩ <| WC.assoc <| WC.reg (z := 3) rfl <| WO.U (oMv rfl) rfl <| WO.U (oLenM rfl rfl) rfl <| WO.U (oMv rfl) rfl <| WO.nil <| WC.weak [(6, _), (7, _), (8, _), (9, _), (10, _), (11, _), (13, _), (15, _), (16, _), (93, _), (94, _), (95, _), (96, _), (97, _), (98, _), (99, _), (100, _), (101, _), (102, _), (103, _), (104, _), (105, _), (106, _), (107, _), (108, _), (109, _), (110, _), (111, _), (112, _), (126, _), (127, _), (128, _)] ⟨rfl, rfl, rfl, rfl, rfl, rfl, rfl, rfl, rfl, rfl, rfl, rfl, rfl, rfl, rfl, rfl, rfl, rfl, rfl, rfl, rfl, rfl, rfl, rfl, rfl, rfl, rfl, rfl, rfl, rfl, rfl, rfl, trivial⟩ <| WC.block ?_
  refine WC.loopV (α := Nat × Nat × Nat × (List Nat)) (fun ⟨i, c, b, us1⟩ => [(6, .v (.int .i64 (sh : Int))), (7, .ref (0 + 2 + 8 + 2) 1 0 us1.length), (8, .sl 1 (vs.map d32)), (9, .v (.int .i64 (vs.length : Int))), (10, .ref (0 + 2 + 8 + 9 + 3 + 4) 1 0 qs.length), (11, .v (.int .i64 ((k : Int) - 1))), (13, .v (.int .u64 (q1 : Int))), (15, .v (.int .u64 (b : Int))), (16, .v (.int .u64 (c : Int))), (126, .sl 1 (vs.map d32)), (127, .v (.int .i64 (vs.length : Int))), (128, .v (.int .i64 (i : Int)))]) (fun ⟨i, c, b, us1⟩ => [((0 + 2 + 8 + 2), { cells := (us1.map d32).flatten, sz := 1, elem := 125, st := 0 }), ((0 + 2 + 8 + 9 + 3 + 4), { cells := (qs.map d32).flatten, sz := 1, elem := 125, st := 0 })]) (fun ⟨i, c, b, us1⟩ n => i ≤ vs.length ∧ us1.length = us.length ∧ Dg 4294967296 us1 ∧ c < 4294967296 ∧ b ≤ 1 ∧ val 4294967296 us1 + 4294967296 ^ (k - 1) * (q1 * val 4294967296 (vs.take i)) = val 4294967296 us + 4294967296 ^ (k - 1 + i) * (c + b) ∧ us1.take (k - 1) = us.take (k - 1) ∧ us1.drop (k - 1 + i) = us.drop (k - 1 + i) ∧ 30 ≤ n) (fun ⟨i, c, b, us1⟩ => vs.length - i) (0, 0, 0, us) ⟨rfl, rfl, rfl, rfl, rfl, rfl, rfl, rfl, rfl, rfl, rfl, rfl, trivial⟩ ⟨g0, g1 (by decide) g0, trivial⟩ ⟨Nat.zero_le _, rfl, hud, by decide, by decide, by simp [val], rfl, rfl, by omega⟩ ?_
  rintro ⟨i, c, b, us1⟩ n hL
  change WC _ _ _ _ _ [(6, .v (.int .i64 (sh : Int))), (7, .ref (0 + 2 + 8 + 2) 1 0 us1.length), (8, .sl 1 (vs.map d32)), (9, .v (.int .i64 (vs.length : Int))), (10, .ref (0 + 2 + 8 + 9 + 3 + 4) 1 0 qs.length), (11, .v (.int .i64 ((k : Int) - 1))), (13, .v (.int .u64 (q1 : Int))), (15, .v (.int .u64 (b : Int))), (16, .v (.int .u64 (c : Int))), (126, .sl 1 (vs.map d32)), (127, .v (.int .i64 (vs.length : Int))), (128, .v (.int .i64 (i : Int)))] ([((0 + 2 + 8 + 2), { cells := (us1.map d32).flatten, sz := 1, elem := 125, st := 0 }), ((0 + 2 + 8 + 9 + 3 + 4), { cells := (qs.map d32).flatten, sz := 1, elem := 125, st := 0 })]) n _
  obtain ⟨hi, hl1, hd1, hc1, hb1, he1, ht1, hp1, hn32⟩ := hL
  refine WC.reg (z := 1) rfl <| WO.U (oLss rfl rfl) rfl <| WO.D (fun h129 => ?_) (fun h129 => ?_)
  ·refine WO.nil <| WC.cT rfl <| WC.skips <| WC.block ?_
   have hvi : vs.getD i default < 4294967296 := getD_lt hvd (by omega)
   have hui : us1.getD (k - 1 + i) default < 4294967296 := getD_lt hd1 (by omega)
   have hqv := mul_dig hql hvi
   obtain ⟨p, hpe⟩ : ∃ p, p = q1 * vs.getD i default + c := ⟨_, rfl⟩
   obtain ⟨u, hue⟩ : ∃ u, u = us1.getD (k - 1 + i) default := ⟨_, rfl⟩
   have hpb : p < 18446744073709551616 := by omega
   obtain ⟨d, hde⟩ : ∃ d, d = (u + 4294967296 - p % 4294967296 - b) % 4294967296 := ⟨_, rfl⟩
   refine WC.reg (z := 5) rfl <| WO.U (oMv rfl) rfl <| WO.U (oIxM rfl rfl rfl rfl rfl (by omega) rfl) rfl <| WO.U (oLd rfl rfl rfl) rfl <| WO.U (oAs rfl) rfl <| WO.U (oAs rfl) rfl <| WO.nil <| WC.weak [(6, _), (7, _), (8, _), (9, _), (10, _), (11, _), (13, _), (15, _), (16, _), (17, _), (18, _), (126, _), (127, _), (128, _)] ⟨rfl, rfl, rfl, rfl, rfl, rfl, rfl, rfl, rfl, rfl, rfl, rfl, rfl, rfl, trivial⟩ <| WC.reg (z := 7) rfl <| WO.U (oMv rfl) rfl <| WO.U (oMv rfl) rfl <| WO.U (OP.castI (b := (vs.getD i default : Int)) (oCnv rfl rfl rfl) (by rw [IntKind.wrap_u64]; omega)) rfl <| WO.U (OP.castI (b := ((q1 * vs.getD i default : Nat) : Int)) (oMulU rfl rfl) (by rw [← Int.natCast_mul]; omega)) rfl <| WO.U (oMv rfl) rfl <| WO.U (OP.castI (b := (p : Int)) (oAddU rfl rfl) (by omega)) rfl <| WO.U (oAs rfl) rfl <| WO.nil <| WC.weak [(6, _), (7, _), (8, _), (9, _), (10, _), (11, _), (13, _), (15, _), (17, _), (19, _), (126, _), (127, _), (128, _)] ⟨rfl, rfl, rfl, rfl, rfl, rfl, rfl, rfl, rfl, rfl, rfl, rfl, rfl, trivial⟩ <| WC.reg (z := 3) rfl <| WO.U (oMv rfl) rfl <| WO.U (OP.castI (b := ((p / 4294967296 : Nat) : Int)) (oShrU (s := 32) rfl rfl (by omega)) (by omega)) rfl <| WO.U (oAs rfl) rfl <| WO.nil <| WC.weak [(6, _), (7, _), (8, _), (9, _), (10, _), (11, _), (13, _), (15, _), (16, _), (17, _), (19, _), (126, _), (127, _), (128, _)] ⟨rfl, rfl, rfl, rfl, rfl, rfl, rfl, rfl, rfl, rfl, rfl, rfl, rfl, rfl, trivial⟩ ?_
   refine WC.reg (z := 14) rfl <| WO.U (oMv rfl) rfl <| WO.U (oMv rfl) rfl <| WO.U (oMv rfl) rfl <| WO.U (OP.castI (b := ((k - 1 + i : Nat) : Int)) (oAdd64 rfl rfl (by omega)) (by omega)) rfl <| WO.U (oIxR (j := k - 1 + i) rfl rfl rfl rfl (by omega) (by omega) rfl) rfl <| WO.U (oLdO (f := d32) (us := us1) (j := k - 1 + i) rfl rfl g0 (fun _ => rfl) rfl (by decide) (by omega) rfl) rfl <| WO.U (OP.castI (b := (u : Int)) (oCnv rfl rfl rfl) (by rw [IntKind.wrap_u64]; omega)) rfl <| WO.U (oMv rfl) rfl <| WO.U (OP.castI (b := ((p % 4294967296 : Nat) : Int)) (oCnv rfl rfl rfl) (by rw [IntKind.wrap_u32]; omega)) rfl <| WO.U (OP.castI (b := ((p % 4294967296 : Nat) : Int)) (oCnv rfl rfl rfl) (by rw [IntKind.wrap_u64]; omega)) rfl <| WO.U (oSubU rfl rfl) rfl <| WO.U (oMv rfl) rfl <| WO.U (OP.castI (b := ((((u + 18446744073709551616 - p % 4294967296 - b) % 18446744073709551616) : Nat) : Int)) (oSubU rfl rfl) (by omega)) rfl <| WO.U (oAs rfl) rfl <| WO.nil <| WC.weak [(6, _), (7, _), (8, _), (9, _), (10, _), (11, _), (13, _), (16, _), (17, _), (20, _), (126, _), (127, _), (128, _)] ⟨rfl, rfl, rfl, rfl, rfl, rfl, rfl, rfl, rfl, rfl, rfl, rfl, rfl, trivial⟩ <| WC.reg (z := 8) rfl <| WO.U (oMv rfl) rfl <| WO.U (oMv rfl) rfl <| WO.U (oMv rfl) rfl <| WO.U (OP.castI (b := ((k - 1 + i : Nat) : Int)) (oAdd64 rfl rfl (by omega)) (by omega)) rfl <| WO.U (oMv rfl) rfl <| WO.U (OP.castI (b := (d : Int)) (oCnv rfl rfl rfl) (by rw [IntKind.wrap_u32]; omega)) rfl ?_
   refine WO.U (oIxR (j := k - 1 + i) rfl rfl rfl rfl (by omega) (by omega) rfl) rfl <| WO.S0 (oStO (f := d32) (us := us1) d rfl rfl rfl g0 (fun _ => rfl) rfl rfl (by omega) rfl) <| WO.nil <| WC.weak [(6, _), (7, _), (8, _), (9, _), (10, _), (11, _), (13, _), (16, _), (20, _), (126, _), (127, _), (128, _)] ⟨rfl, rfl, rfl, rfl, rfl, rfl, rfl, rfl, rfl, rfl, rfl, rfl, trivial⟩ <| WC.reg1z (z := 3) rfl <| WO.U (oMv rfl) rfl <| WO.U (OP.castI (b := ((if u < p % 4294967296 + b then 1 else 0 : Nat) : Int)) (oShrU (s := 63) rfl rfl (by omega)) (by split <;> omega)) rfl <| WO.U (oAs rfl) rfl <| WO.nil <| after_normal <| WC.weak [(6, _), (7, _), (8, _), (9, _), (10, _), (11, _), (13, _), (15, _), (16, _), (126, _), (127, _), (128, _)] ⟨rfl, rfl, rfl, rfl, rfl, rfl, rfl, rfl, rfl, rfl, rfl, rfl, trivial⟩ <| WC.reg1z (z := 2) rfl <| WO.U (OP.castI (b := ((i + 1 : Nat) : Int)) (oAdd64 rfl rfl (by omega)) (by omega)) rfl <| WO.U (oMv rfl) rfl <| WO.nil <| loopR_normal <| ⟨⟨i + 1, p / 4294967296, if u < p % 4294967296 + b then 1 else 0, us1.set (k - 1 + i) d⟩, ⟨rfl, congrArg some (by rw [List.length_set]), rfl, rfl, rfl, rfl, rfl, rfl, rfl, rfl, rfl, rfl, trivial⟩, ⟨g0, g1 (by decide) (g1 (by decide) g0), trivial⟩, ⟨by omega, by rw [List.length_set]; exact hl1, hd1.set _ (by omega), by omega, by split <;> omega, ?_, by rw [take_set_le (by omega)]; exact ht1, by rw [drop_set_lt (by omega)]; exact drop_more hp1 (by omega), by omega⟩, by show vs.length - (i + 1) < vs.length - i; omega⟩
   rw [hpe]
   exact submul_step he1 (by omega) (by rw [← hpe, ← hue, hde]; split <;> omega)
  refine WO.nil <| WC.cF rfl <| WC.exits <| loopR_exit <| after_exit rfl ?_
  have hi' : i = vs.length := by omega
  subst hi'
  rw [List.take_of_length_le (Nat.le_refl _)] at he1
  obtain ⟨u, hue⟩ : ∃ u, u = us1.getD (k - 1 + vs.length) default := ⟨_, rfl⟩
  have hul1 : u < 4294967296 := by rw [hue]; exact getD_lt hd1 (by omega)
  obtain ⟨d, hde⟩ : ∃ d, d = (u + 4294967296 - c - b) % 4294967296 := ⟨_, rfl⟩
  have hd4 : d < 4294967296 := by omega
  refine WC.reg (z := 12) rfl <| WO.U (oMv rfl) rfl <| WO.U (oMv rfl) rfl <| WO.U (oMv rfl) rfl <| WO.U (OP.castI (b := ((k - 1 + vs.length : Nat) : Int)) (oAdd64 rfl rfl (by omega)) (by omega)) rfl <| WO.U (oIxR (j := k - 1 + vs.length) rfl rfl rfl rfl (by omega) (by omega) rfl) rfl <| WO.U (oLdO (f := d32) (us := us1) (j := k - 1 + vs.length) rfl rfl g0 (fun _ => rfl) rfl (by decide) (by omega) rfl) rfl <| WO.U (OP.castI (b := (u : Int)) (oCnv rfl rfl rfl) (by rw [IntKind.wrap_u64]; omega)) rfl <| WO.U (oMv rfl) rfl <| WO.U (oSubU rfl rfl) rfl <| WO.U (oMv rfl) rfl <| WO.U (OP.castI (b := ((((u + 18446744073709551616 - c - b) % 18446744073709551616) : Nat) : Int)) (oSubU rfl rfl) (by omega)) rfl <| WO.U (oAs rfl) rfl <| WO.nil <| WC.weak [(6, _), (7, _), (8, _), (9, _), (10, _), (11, _), (13, _), (21, _)] ⟨rfl, rfl, rfl, rfl, rfl, rfl, rfl, rfl, trivial⟩ <| WC.reg (z := 8) rfl <| WO.U (oMv rfl) rfl <| WO.U (oMv rfl) rfl <| WO.U (oMv rfl) rfl <| WO.U (OP.castI (b := ((k - 1 + vs.length : Nat) : Int)) (oAdd64 rfl rfl (by omega)) (by omega)) rfl <| WO.U (oMv rfl) rfl <| WO.U (OP.castI (b := (d : Int)) (oCnv rfl rfl rfl) (by rw [IntKind.wrap_u32]; omega)) rfl <| WO.U (oIxR (j := k - 1 + vs.length) rfl rfl rfl rfl (by omega) (by omega) rfl) rfl <| WO.S0 (oStO (f := d32) (us := us1) d rfl rfl rfl g0 (fun _ => rfl) rfl rfl (by omega) rfl) ?_
  refine WO.nil <| WC.weak [(6, _), (7, _), (8, _), (9, _), (10, _), (11, _), (13, _), (21, _)] ⟨rfl, rfl, rfl, rfl, rfl, rfl, rfl, rfl, trivial⟩ <| WC.assoc <| WC.reg (z := 3) rfl <| WO.U (oMv rfl) rfl <| WO.U (OP.castI (b := ((if u < c + b then 1 else 0 : Nat) : Int)) (oShrU (s := 63) rfl rfl (by omega)) (by split <;> omega)) rfl <| WO.U (oEql rfl rfl) rfl <| WO.D (fun h184 => ?_) (fun h184 => ?_)
  rotate_left
  ·have hneg : c + b ≤ u := by
    rcases Nat.lt_or_ge u (c + b) with h | h
    ·rw [if_pos h] at h184; simp at h184
    ·exact h
   have hs2 := sub_last (o := 0) (d := d) he1 (by omega) (by rw [← hue]; omega)
   rw [Nat.mul_zero, Nat.add_zero] at hs2
   refine WO.nil <| WC.cF rfl <| WC.skips ?_
   have hlF : (us1.set (k - 1 + vs.length) d).length = us.length := by rw [List.length_set]; exact hl1
   have hdF : Dg 4294967296 (us1.set (k - 1 + vs.length) d) := hd1.set _ hd4
   have hltF := long_end0 (by decide) hV0 (by omega) (by omega) (by rw [take_set_le (by omega)]; exact ht1) hs2 hG2
   have hUF := long_next (qs := qs) (j := k - 1) (by omega) (by rw [show k - 1 + 1 = k by omega]; exact hU) hs2
   refine WC.reg1z (z := 6) rfl <| WO.U (oMv rfl) rfl <| WO.U (oMv rfl) rfl <| WO.U (oMv rfl) rfl <| WO.U (OP.castI (b := (q1 : Int)) (oCnv rfl rfl rfl) (by rw [IntKind.wrap_u32]; omega)) rfl <| WO.U (oIxR (j := k - 1) rfl rfl rfl rfl (by omega) (by omega) rfl) rfl <| WO.S0 (oStO (f := d32) (us := qs) q1 rfl rfl rfl (g1 (by decide) (g1 (by decide) g0)) (fun _ => rfl) rfl rfl (by omega) rfl) <| WO.nil <| after_normal <| WC.weak [(6, _), (7, _), (8, _), (9, _), (10, _), (11, _)] ⟨rfl, rfl, rfl, rfl, rfl, rfl, trivial⟩ <| WC.reg1z (z := 3) rfl <| WO.U (oMv rfl) rfl <| WO.U (OP.castI (b := ((k - 1 : Nat) : Int) - 1) (oSub64 rfl rfl (by omega)) (by omega)) rfl <| WO.U (oAs rfl) rfl <| WO.nil <| loopR_normal <| ⟨⟨k - 1, (us1.set (k - 1 + vs.length) d), qs.set (k - 1) q1⟩, ⟨rfl, congrArg some (by rw [List.length_set]), rfl, rfl, congrArg some (by rw [List.length_set]), rfl, trivial⟩, ⟨g1 (by decide) g0, g0, trivial⟩, ⟨by rw [hlF]; omega, by rw [hlF]; exact hul, by rw [List.length_set]; exact hql0, hdF, hqd.set _ (by omega), hUF, hltF, by omega⟩, by show k - 1 < k; omega⟩
  have hneg : u < c + b := by
   rcases Nat.lt_or_ge u (c + b) with h | h
   ·exact h
   ·rw [if_neg (by omega)] at h184; simp at h184
  have hs2 := sub_last (o := 1) (d := d) he1 (by omega) (by rw [← hue]; omega)
  have hlT : (us1.set (k - 1 + vs.length) d).length = us.length := by rw [List.length_set]; exact hl1
  have hdT : Dg 4294967296 (us1.set (k - 1 + vs.length) d) := hd1.set _ hd4
  have htT : (us1.set (k - 1 + vs.length) d).take (k - 1) = us.take (k - 1) := by rw [take_set_le (by omega)]; exact ht1
  have hpT : (us1.set (k - 1 + vs.length) d).drop (k - 1 + vs.length + 1) = us.drop (k - 1 + vs.length + 1) := by rw [drop_set_lt (by omega)]; exact drop_more hp1 (by omega)
  obtain ⟨hgt, hq1p⟩ := neg_gt (by decide) hdT (by omega) hlT hRB hpT htT hs2
  refine WO.nil <| WC.cT rfl <| WC.assoc <| WC.reg (z := 3) rfl <| WO.U (oMv rfl) rfl <| WO.U (OP.castI (b := ((q1 - 1 : Nat) : Int)) (oSubU rfl rfl) (by omega)) rfl <| WO.U (oAs rfl) rfl <| WO.nil <| WC.assoc <| WC.reg (z := 1) rfl <| WO.U (oAs rfl) rfl <| WO.nil <| WC.assoc <| WC.assoc <| WC.reg (z := 3) rfl <| WO.U (oMv rfl) rfl <| WO.U (oLenM rfl rfl) rfl <| WO.U (oMv rfl) rfl <| WO.nil <| WC.weak [(6, _), (7, _), (8, _), (9, _), (10, _), (11, _), (13, _), (22, _), (187, _), (188, _), (189, _)] ⟨rfl, rfl, rfl, rfl, rfl, rfl, rfl, rfl, rfl, rfl, rfl, trivial⟩ <| WC.block <| WC.loopV (α := Nat × Nat × (List Nat)) (fun ⟨i2, c2, us3⟩ => [(6, .v (.int .i64 (sh : Int))), (7, .ref (0 + 2 + 8 + 2) 1 0 us3.length), (8, .sl 1 (vs.map d32)), (9, .v (.int .i64 (vs.length : Int))), (10, .ref (0 + 2 + 8 + 9 + 3 + 4) 1 0 qs.length), (11, .v (.int .i64 ((k : Int) - 1))), (13, .v (.int .u64 ((q1 - 1 : Nat) : Int))), (22, .v (.int .u32 (c2 : Int))), (187, .sl 1 (vs.map d32)), (188, .v (.int .i64 (vs.length : Int))), (189, .v (.int .i64 (i2 : Int)))]) (fun ⟨i2, c2, us3⟩ => [((0 + 2 + 8 + 2), { cells := (us3.map d32).flatten, sz := 1, elem := 125, st := 0 }), ((0 + 2 + 8 + 9 + 3 + 4), { cells := (qs.map d32).flatten, sz := 1, elem := 125, st := 0 })]) (fun ⟨i2, c2, us3⟩ n => i2 ≤ vs.length ∧ us3.length = us.length ∧ Dg 4294967296 us3 ∧ c2 ≤ 1 ∧ val 4294967296 us3 + 4294967296 ^ (k - 1 + i2) * c2 = val 4294967296 (us1.set (k - 1 + vs.length) d) + 4294967296 ^ (k - 1) * val 4294967296 (vs.take i2) ∧ us3.take (k - 1) = us.take (k - 1) ∧ us3.drop (k - 1 + vs.length) = (us1.set (k - 1 + vs.length) d).drop (k - 1 + vs.length) ∧ 30 ≤ n) (fun ⟨i2, c2, us3⟩ => vs.length - i2) (0, 0, (us1.set (k - 1 + vs.length) d)) ⟨rfl, congrArg some (by rw [List.length_set]), rfl, rfl, rfl, rfl, rfl, rfl, rfl, rfl, rfl, trivial⟩ ⟨g0, g1 (by decide) (g1 (by decide) g0), trivial⟩ ⟨Nat.zero_le _, hlT, hdT, by decide, by simp [val], htT, rfl, by omega⟩ ?_
  rintro ⟨i2, c2, us3⟩ n hM
  change WC _ _ _ _ _ [(6, .v (.int .i64 (sh : Int))), (7, .ref (0 + 2 + 8 + 2) 1 0 us3.length), (8, .sl 1 (vs.map d32)), (9, .v (.int .i64 (vs.length : Int))), (10, .ref (0 + 2 + 8 + 9 + 3 + 4) 1 0 qs.length), (11, .v (.int .i64 ((k : Int) - 1))), (13, .v (.int .u64 ((q1 - 1 : Nat) : Int))), (22, .v (.int .u32 (c2 : Int))), (187, .sl 1 (vs.map d32)), (188, .v (.int .i64 (vs.length : Int))), (189, .v (.int .i64 (i2 : Int)))] ([((0 + 2 + 8 + 2), { cells := (us3.map d32).flatten, sz := 1, elem := 125, st := 0 }), ((0 + 2 + 8 + 9 + 3 + 4), { cells := (qs.map d32).flatten, sz := 1, elem := 125, st := 0 })]) n _
  obtain ⟨hi2, hl3, hd3, hc3, he3, ht3, hp3, hn33⟩ := hM
  refine WC.reg (z := 1) rfl <| WO.U (oLss rfl rfl) rfl <| WO.D (fun h190 => ?_) (fun h190 => ?_)
  ·refine WO.nil <| WC.cT rfl <| WC.skips <| WC.block <| WC.reg (z := 5) rfl <| WO.U (oMv rfl) rfl <| WO.U (oIxM rfl rfl rfl rfl rfl (by omega) rfl) rfl <| WO.U (oLd rfl rfl rfl) rfl <| WO.U (oAs rfl) rfl <| WO.U (oAs rfl) rfl <| WO.nil <| WC.weak [(6, _), (7, _), (8, _), (9, _), (10, _), (11, _), (13, _), (22, _), (23, _), (24, _), (187, _), (188, _), (189, _)] ⟨rfl, rfl, rfl, rfl, rfl, rfl, rfl, rfl, rfl, rfl, rfl, rfl, rfl, trivial⟩ ?_
   have hu3 : us3.getD (k - 1 + i2) default < 4294967296 := getD_lt hd3 (by omega)
   have hv3 : vs.getD i2 default < 4294967296 := getD_lt hvd (by omega)
   refine WC.reg1z (z := 19) rfl <| WO.U (oMv rfl) rfl <| WO.U (oMv rfl) rfl <| WO.U (oMv rfl) rfl <| WO.U (OP.castI (b := ((k - 1 + i2 : Nat) : Int)) (oAdd64 rfl rfl (by omega)) (by omega)) rfl <| WO.U (oMv rfl) rfl <| WO.U (oMv rfl) rfl <| WO.U (oMv rfl) rfl <| WO.U (OP.castI (b := ((k - 1 + i2 : Nat) : Int)) (oAdd64 rfl rfl (by omega)) (by omega)) rfl <| WO.U (oIxR (j := k - 1 + i2) rfl rfl rfl rfl (by omega) (by omega) rfl) rfl <| WO.U (oLdO (f := d32) (us := us3) (j := k - 1 + i2) rfl rfl g0 (fun _ => rfl) rfl (by decide) (by omega) rfl) rfl <| WO.U (oMv rfl) rfl <| WO.U (oMv rfl) rfl <| WO.U (oCall rfl (add32_run (us3.getD (k - 1 + i2) default) (vs.getD i2 default) c2 hu3 hv3 hc3) (by simp)) rfl <| WO.U (oMv rfl) rfl <| WO.U (oEx rfl rfl) rfl <| WO.U (oEx rfl rfl) rfl <| WO.U (oIxR (j := k - 1 + i2) rfl rfl rfl rfl (by omega) (by omega) rfl) rfl <| WO.S0 (oStO (f := d32) (us := us3) ((us3.getD (k - 1 + i2) default + vs.getD i2 default + c2) % 4294967296) rfl rfl rfl g0 (fun _ => rfl) rfl rfl (by omega) rfl) <| WO.U (oAs rfl) rfl <| WO.nil <| after_normal <| WC.weak [(6, _), (7, _), (8, _), (9, _), (10, _), (11, _), (13, _), (22, _), (187, _), (188, _), (189, _)] ⟨rfl, rfl, rfl, rfl, rfl, rfl, rfl, rfl, rfl, rfl, rfl, trivial⟩ <| WC.reg1z (z := 2) rfl ?_
   refine WO.U (OP.castI (b := ((i2 + 1 : Nat) : Int)) (oAdd64 rfl rfl (by omega)) (by omega)) rfl <| WO.U (oMv rfl) rfl <| WO.nil <| loopR_normal <| ⟨⟨i2 + 1, _, us3.set (k - 1 + i2) ((us3.getD (k - 1 + i2) default + vs.getD i2 default + c2) % 4294967296)⟩, ⟨rfl, congrArg some (by rw [List.length_set]), rfl, rfl, rfl, rfl, rfl, rfl, rfl, rfl, rfl, trivial⟩, ⟨g0, g1 (by decide) (g1 (by decide) g0), trivial⟩, ⟨by omega, by rw [List.length_set]; exact hl3, hd3.set _ (by omega), by omega, addback_step he3 (by omega), by rw [take_set_le (by omega)]; exact ht3, by rw [drop_set_lt (by omega)]; exact hp3, by omega⟩, by show vs.length - (i2 + 1) < vs.length - i2; omega⟩
  refine WO.nil <| WC.cF rfl <| WC.exits <| loopR_exit <| after_exit rfl ?_
  have hi' : i2 = vs.length := by omega
  subst hi'
  rw [List.take_of_length_le (Nat.le_refl _)] at he3
  have hu3 : us3.getD (k - 1 + vs.length) default < 4294967296 := getD_lt hd3 (by omega)
  refine WC.reg (z := 10) rfl <| WO.U (oMv rfl) rfl <| WO.U (oMv rfl) rfl <| WO.U (oMv rfl) rfl <| WO.U (OP.castI (b := ((k - 1 + vs.length : Nat) : Int)) (oAdd64 rfl rfl (by omega)) (by omega)) rfl <| WO.U (oIxR (j := k - 1 + vs.length) rfl rfl rfl rfl (by omega) (by omega) rfl) rfl <| WO.U (oLdO (f := d32) (us := us3) (j := k - 1 + vs.length) rfl rfl g0 (fun _ => rfl) rfl (by decide) (by omega) rfl) rfl <| WO.U (oMv rfl) rfl <| WO.U (OP.castI (b := (((us3.getD (k - 1 + vs.length) default + c2) % 4294967296 : Nat) : Int)) (oAdd32 rfl rfl) (by omega)) rfl <| WO.U (oIxR (j := k - 1 + vs.length) rfl rfl rfl rfl (by omega) (by omega) rfl) rfl <| WO.S0 (oStO (f := d32) (us := us3) ((us3.getD (k - 1 + vs.length) default + c2) % 4294967296) rfl rfl rfl g0 (fun _ => rfl) rfl rfl (by omega) rfl) <| WO.nil <| WC.weak [(6, _), (7, _), (8, _), (9, _), (10, _), (11, _), (13, _)] ⟨rfl, rfl, rfl, rfl, rfl, rfl, rfl, trivial⟩ ?_
  have hlF : (us3.set (k - 1 + vs.length) ((us3.getD (k - 1 + vs.length) default + c2) % 4294967296)).length = us.length := by rw [List.length_set]; exact hl3
  have hdF : Dg 4294967296 (us3.set (k - 1 + vs.length) ((us3.getD (k - 1 + vs.length) default + c2) % 4294967296)) := hd3.set _ (by omega)
  have h4 := addback_last he3 (by omega)
  obtain ⟨hs4, hltF⟩ := back_end (by decide) hV0 hdF (by omega) hlF hRB (by rw [drop_set_lt (by omega)]; exact (drop_more hp3 (by omega)).trans hpT) (by rw [take_set_le (by omega)]; exact ht3) hs2 h4 hG2 hq1p hqo hgt (by omega)
  have hUF := long_next (qs := qs) (j := k - 1) (by omega) (by rw [show k - 1 + 1 = k by omega]; exact hU) hs4
  refine WC.reg1z (z := 6) rfl <| WO.U (oMv rfl) rfl <| WO.U (oMv rfl) rfl <| WO.U (oMv rfl) rfl <| WO.U (OP.castI (b := ((q1 - 1 : Nat) : Int)) (oCnv rfl rfl rfl) (by rw [IntKind.wrap_u32]; omega)) rfl <| WO.U (oIxR (j := k - 1) rfl rfl rfl rfl (by omega) (by omega) rfl) rfl <| WO.S0 (oStO (f := d32) (us := qs) (q1 - 1) rfl rfl rfl (g1 (by decide) (g1 (by decide) g0)) (fun _ => rfl) rfl rfl (by omega) rfl) <| WO.nil <| after_normal <| WC.reg1z (z := 3) rfl <| WO.U (oMv rfl) rfl <| WO.U (OP.castI (b := ((k - 1 : Nat) : Int) - 1) (oSub64 rfl rfl (by omega)) (by omega)) rfl <| WO.U (oAs rfl) rfl <| WO.nil <| loopR_normal <| ⟨⟨k - 1, (us3.set (k - 1 + vs.length) ((us3.getD (k - 1 + vs.length) default + c2) % 4294967296)), qs.set (k - 1) (q1 - 1)⟩, ⟨rfl, congrArg some (by rw [List.length_set]), rfl, rfl, congrArg some (by rw [List.length_set]), rfl, trivial⟩, ⟨g1 (by decide) g0, g0, trivial⟩, ⟨by rw [hlF]; omega, by rw [hlF]; exact hul, by rw [List.length_set]; exact hql0, hdF, hqd.set _ (by omega), hUF, hltF, by omega⟩, by show k - 1 < k; omega⟩
 refine WD.U (oMv rfl) rfl <| WD.Ug rfl (oMv rfl) rfl <| WD.Ug rfl (oMv rfl) rfl <| WD.Ug rfl (oMv rfl) rfl <| WD.Ug rfl (oSub64 rfl rfl (by omega)) rfl <| WD.Ug rfl (oIxM (j := vs.length - 2) rfl rfl rfl rfl (by omega) (by omega) rfl) rfl <| WD.Ug rfl (oLd rfl rfl rfl) rfl <| WD.Ug rfl (OP.castI (b := (v2 : Int)) (oCnv rfl rfl rfl) (by rw [IntKind.wrap_u64]; omega)) rfl <| WD.Ug rfl (OP.castI (b := ((qh * v2 : Nat) : Int)) (oMulU rfl rfl) (by rw [← Int.natCast_mul]; have := mul_dig (a := qh) (b := v2) (by omega) (by omega); omega)) rfl <| WD.Ug rfl (oMv rfl) rfl <| WD.Ug rfl (OP.castI (b := ((rh * 4294967296 : Nat) : Int)) (oShlU (s := 32) rfl rfl (by omega)) (by omega)) rfl <| WD.Ug rfl (oMv rfl) rfl <| WD.Ug rfl (oMv rfl) rfl <| WD.Ug rfl (oMv rfl) rfl <| WD.Ug rfl (OP.castI (b := ((k - 1 + vs.length : Nat) : Int)) (oAdd64 rfl rfl (by omega)) (by omega)) rfl <| WD.Ug rfl (oSub64 rfl rfl (by omega)) rfl <| WD.Ug rfl (oIxR (j := k - 1 + vs.length - 2) rfl rfl rfl rfl (by omega) (by omega) rfl) rfl <| WD.Ug rfl (oLdO (f := d32) (us := us) (j := k - 1 + vs.length - 2) rfl rfl g0 (fun _ => rfl) rfl (by decide) (by omega) rfl) rfl <| WD.Ug rfl (OP.castI (b := (u2 : Int)) (oCnv rfl rfl rfl) (by rw [IntKind.wrap_u64]; omega)) rfl <| WD.Ug rfl (oBin (v := .int .u64 ((rh * 4294967296 + u2 : Nat) : Int)) rfl rfl (or_hi (by omega) (by omega))) rfl <| WD.Ug rfl (oGtr rfl rfl) rfl <| WD.D (fun h112 => ?_) (fun h112 => ?_)
 rotate_left
 ·refine WD.U (oPkF rfl rfl) rfl <| WD.nil (drawOk_of (by kernel_rfl)) rfl <| WC.weak [(6, _), (7, _), (8, _), (9, _), (10, _), (11, _), (13, _), (14, _), (93, _), (94, _), (95, _), (96, _), (97, _), (98, _), (99, _), (100, _), (101, _), (102, _), (103, _), (104, _), (105, _), (106, _), (107, _), (108, _), (109, _), (110, _), (111, _), (112, _), (113, _)] ⟨rfl, rfl, rfl, rfl, rfl, rfl, rfl, rfl, rfl, rfl, rfl, rfl, rfl, rfl, rfl, rfl, rfl, rfl, rfl, rfl, rfl, rfl, rfl, rfl, rfl, rfl, rfl, rfl, rfl, trivial⟩ <| WC.cF rfl <| WC.exits <| loopR_exit <| after_exit rfl <| WC.weak [(6, _), (7, _), (8, _), (9, _), (10, _), (11, _), (13, _), (93, _), (94, _), (95, _), (96, _), (97, _), (98, _), (99, _), (100, _), (101, _), (102, _), (103, _), (104, _), (105, _), (106, _), (107, _), (108, _), (109, _), (110, _), (111, _), (112, _)] ⟨rfl, rfl, rfl, rfl, rfl, rfl, rfl, rfl, rfl, rfl, rfl, rfl, rfl, rfl, rfl, rfl, rfl, rfl, rfl, rfl, rfl, rfl, rfl, rfl, rfl, rfl, rfl, trivial⟩ ?_
  have hqo := lq_ok LQh hG1 (show qh < 4294967296 by omega) (by omega)
  have hql : qh < 4294967296 := by omega
  obtain ⟨q1, hq1⟩ : ∃ q1, q1 = qh := ⟨_, rfl⟩
  rw [← hq1] at hqo hql hG2 ⊢
  refine WC.reg (z := 2) rfl <| WO.U (oAs rfl) rfl <| WO.U (oAs rfl) rfl <| WO.nil <| WC.weak [(6, _), (7, _), (8, _), (9, _), (10, _), (11, _), (13, _), (15, _), (16, _), (93, _), (94, _), (95, _), (96, _), (97, _), (98, _), (99, _), (100, _), (101, _), (102, _), (103, _), (104, _), (105, _), (106, _), (107, _), (108, _), (109, _), (110, _), (111, _), (112, _)] ⟨rfl, rfl, rfl, rfl, rfl, rfl, rfl, rfl, rfl, rfl, rfl, rfl, rfl, rfl, rfl, rfl, rfl, rfl, rfl, rfl, rfl, rfl, rfl, rfl, rfl, rfl, rfl, rfl, rfl, trivial⟩ <| WC.assoc <| WC.reg (z := 3) rfl <| WO.U (oMv rfl) rfl <| WO.U (oLenM rfl rfl) rfl <| WO.U (oMv rfl) rfl <| WO.nil <| WC.weak [(6, _), (7, _), (8, _), (9, _), (10, _), (11, _), (13, _), (15, _), (16, _), (93, _), (94, _), (95, _), (96, _), (97, _), (98, _), (99, _), (100, _), (101, _), (102, _), (103, _), (104, _), (105, _), (106, _), (107, _), (108, _), (109, _), (110, _), (111, _), (112, _), (126, _), (127, _), (128, _)] ⟨rfl, rfl, rfl, rfl, rfl, rfl, rfl, rfl, rfl, rfl, rfl, rfl, rfl, rfl, rfl, rfl, rfl, rfl, rfl, rfl, rfl, rfl, rfl, rfl, rfl, rfl, rfl, rfl, rfl, rfl, rfl, rfl, trivial⟩ <| WC.block ?_
  refine WC.loopV (α := Nat × Nat × Nat × (List Nat)) (fun ⟨i, c, b, us1⟩ => [(6, .v (.int .i64 (sh : Int))), (7, .ref (0 + 2 + 8 + 2) 1 0 us1.length), (8, .sl 1 (vs.map d32)), (9, .v (.int .i64 (vs.length : Int))), (10, .ref (0 + 2 + 8 + 9 + 3 + 4) 1 0 qs.length), (11, .v (.int .i64 ((k : Int) - 1))), (13, .v (.int .u64 (q1 : Int))), (15, .v (.int .u64 (b : Int))), (16, .v (.int .u64 (c : Int))), (126, .sl 1 (vs.map d32)), (127, .v (.int .i64 (vs.length : Int))), (128, .v (.int .i64 (i : Int)))]) (fun ⟨i, c, b, us1⟩ => [((0 + 2 + 8 + 2), { cells := (us1.map d32).flatten, sz := 1, elem := 125, st := 0 }), ((0 + 2 + 8 + 9 + 3 + 4), { cells := (qs.map d32).flatten, sz := 1, elem := 125, st := 0 })]) (fun ⟨i, c, b, us1⟩ n => i ≤ vs.length ∧ us1.length = us.length ∧ Dg 4294967296 us1 ∧ c < 4294967296 ∧ b ≤ 1 ∧ val 4294967296 us1 + 4294967296 ^ (k - 1) * (q1 * val 4294967296 (vs.take i)) = val 4294967296 us + 4294967296 ^ (k - 1 + i) * (c + b) ∧ us1.take (k - 1) = us.take (k - 1) ∧ us1.drop (k - 1 + i) = us.drop (k - 1 + i) ∧ 30 ≤ n) (fun ⟨i, c, b, us1⟩ => vs.length - i) (0, 0, 0, us) ⟨rfl, rfl, rfl, rfl, rfl, rfl, rfl, rfl, rfl, rfl, rfl, rfl, trivial⟩ ⟨g0, g1 (by decide) g0, trivial⟩ ⟨Nat.zero_le _, rfl, hud, by decide, by decide, by simp [val], rfl, rfl, by omega⟩ ?_
  rintro ⟨i, c, b, us1⟩ n hL
  change WC _ _ _ _ _ [(6, .v (.int .i64 (sh : Int))), (7, .ref (0 + 2 + 8 + 2) 1 0 us1.length), (8, .sl 1 (vs.map d32)), (9, .v (.int .i64 (vs.length : Int))), (10, .ref (0 + 2 + 8 + 9 + 3 + 4) 1 0 qs.length), (11, .v (.int .i64 ((k : Int) - 1))), (13, .v (.int .u64 (q1 : Int))), (15, .v (.int .u64 (b : Int))), (16, .v (.int .u64 (c : Int))), (126, .sl 1 (vs.map d32)), (127, .v (.int .i64 (vs.length : Int))), (128, .v (.int .i64 (i : Int)))] ([((0 + 2 + 8 + 2), { cells := (us1.map d32).flatten, sz := 1, elem := 125, st := 0 }), ((0 + 2 + 8 + 9 + 3 + 4), { cells := (qs.map d32).flatten, sz := 1, elem := 125, st := 0 })]) n _
  obtain ⟨hi, hl1, hd1, hc1, hb1, he1, ht1, hp1, hn32⟩ := hL
  refine WC.reg (z := 1) rfl <| WO.U (oLss rfl rfl) rfl <| WO.D (fun h129 => ?_) (fun h129 => ?_)
  ·refine WO.nil <| WC.cT rfl <| WC.skips <| WC.block ?_
   have hvi : vs.getD i default < 4294967296 := getD_lt hvd (by omega)
   have hui : us1.getD (k - 1 + i) default < 4294967296 := getD_lt hd1 (by omega)
   have hqv := mul_dig hql hvi
   obtain ⟨p, hpe⟩ : ∃ p, p = q1 * vs.getD i default + c := ⟨_, rfl⟩
   obtain ⟨u, hue⟩ : ∃ u, u = us1.getD (k - 1 + i) default := ⟨_, rfl⟩
   have hpb : p < 18446744073709551616 := by omega
   obtain ⟨d, hde⟩ : ∃ d, d = (u + 4294967296 - p % 4294967296 - b) % 4294967296 := ⟨_, rfl⟩
   refine WC.reg (z := 5) rfl <| WO.U (oMv rfl) rfl <| WO.U (oIxM rfl rfl rfl rfl rfl (by omega) rfl) rfl <| WO.U (oLd rfl rfl rfl) rfl <| WO.U (oAs rfl) rfl <| WO.U (oAs rfl) rfl <| WO.nil <| WC.weak [(6, _), (7, _), (8, _), (9, _), (10, _), (11, _), (13, _), (15, _), (16, _), (17, _), (18, _), (126, _), (127, _), (128, _)] ⟨rfl, rfl, rfl, rfl, rfl, rfl, rfl, rfl, rfl, rfl, rfl, rfl, rfl, rfl, trivial⟩ <| WC.reg (z := 7) rfl <| WO.U (oMv rfl) rfl <| WO.U (oMv rfl) rfl <| WO.U (OP.castI (b := (vs.getD i default : Int)) (oCnv rfl rfl rfl) (by rw [IntKind.wrap_u64]; omega)) rfl <| WO.U (OP.castI (b := ((q1 * vs.getD i default : Nat) : Int)) (oMulU rfl rfl) (by rw [← Int.natCast_mul]; omega)) rfl <| WO.U (oMv rfl) rfl <| WO.U (OP.castI (b := (p : Int)) (oAddU rfl rfl) (by omega)) rfl <| WO.U (oAs rfl) rfl <| WO.nil <| WC.weak [(6, _), (7, _), (8, _), (9, _), (10, _), (11, _), (13, _), (15, _), (17, _), (19, _), (126, _), (127, _), (128, _)] ⟨rfl, rfl, rfl, rfl, rfl, rfl, rfl, rfl, rfl, rfl, rfl, rfl, rfl, trivial⟩ <| WC.reg (z := 3) rfl <| WO.U (oMv rfl) rfl <| WO.U (OP.castI (b := ((p / 4294967296 : Nat) : Int)) (oShrU (s := 32) rfl rfl (by omega)) (by omega)) rfl <| WO.U (oAs rfl) rfl <| WO.nil <| WC.weak [(6, _), (7, _), (8, _), (9, _), (10, _), (11, _), (13, _), (15, _), (16, _), (17, _), (19, _), (126, _), (127, _), (128, _)] ⟨rfl, rfl, rfl, rfl, rfl, rfl, rfl, rfl, rfl, rfl, rfl, rfl, rfl, rfl, trivial⟩ ?_
   refine WC.reg (z := 14) rfl <| WO.U (oMv rfl) rfl <| WO.U (oMv rfl) rfl <| WO.U (oMv rfl) rfl <| WO.U (OP.castI (b := ((k - 1 + i : Nat) : Int)) (oAdd64 rfl rfl (by omega)) (by omega)) rfl <| WO.U (oIxR (j := k - 1 + i) rfl rfl rfl rfl (by omega) (by omega) rfl) rfl <| WO.U (oLdO (f := d32) (us := us1) (j := k - 1 + i) rfl rfl g0 (fun _ => rfl) rfl (by decide) (by omega) rfl) rfl <| WO.U (OP.castI (b := (u : Int)) (oCnv rfl rfl rfl) (by rw [IntKind.wrap_u64]; omega)) rfl <| WO.U (oMv rfl) rfl <| WO.U (OP.castI (b := ((p % 4294967296 : Nat) : Int)) (oCnv rfl rfl rfl) (by rw [IntKind.wrap_u32]; omega)) rfl <| WO.U (OP.castI (b := ((p % 4294967296 : Nat) : Int)) (oCnv rfl rfl rfl) (by rw [IntKind.wrap_u64]; omega)) rfl <| WO.U (oSubU rfl rfl) rfl <| WO.U (oMv rfl) rfl <| WO.U (OP.castI (b := ((((u + 18446744073709551616 - p % 4294967296 - b) % 18446744073709551616) : Nat) : Int)) (oSubU rfl rfl) (by omega)) rfl <| WO.U (oAs rfl) rfl <| WO.nil <| WC.weak [(6, _), (7, _), (8, _), (9, _), (10, _), (11, _), (13, _), (16, _), (17, _), (20, _), (126, _), (127, _), (128, _)] ⟨rfl, rfl, rfl, rfl, rfl, rfl, rfl, rfl, rfl, rfl, rfl, rfl, rfl, trivial⟩ <| WC.reg (z := 8) rfl <| WO.U (oMv rfl) rfl <| WO.U (oMv rfl) rfl <| WO.U (oMv rfl) rfl <| WO.U (OP.castI (b := ((k - 1 + i : Nat) : Int)) (oAdd64 rfl rfl (by omega)) (by omega)) rfl <| WO.U (oMv rfl) rfl <| WO.U (OP.castI (b := (d : Int)) (oCnv rfl rfl rfl) (by rw [IntKind.wrap_u32]; omega)) rfl ?_
   refine WO.U (oIxR (j := k - 1 + i) rfl rfl rfl rfl (by omega) (by omega) rfl) rfl <| WO.S0 (oStO (f := d32) (us := us1) d rfl rfl rfl g0 (fun _ => rfl) rfl rfl (by omega) rfl) <| WO.nil <| WC.weak [(6, _), (7, _), (8, _), (9, _), (10, _), (11, _), (13, _), (16, _), (20, _), (126, _), (127, _), (128, _)] ⟨rfl, rfl, rfl, rfl, rfl, rfl, rfl, rfl, rfl, rfl, rfl, rfl, trivial⟩ <| WC.reg1z (z := 3) rfl <| WO.U (oMv rfl) rfl <| WO.U (OP.castI (b := ((if u < p % 4294967296 + b then 1 else 0 : Nat) : Int)) (oShrU (s := 63) rfl rfl (by omega)) (by split <;> omega)) rfl <| WO.U (oAs rfl) rfl <| WO.nil <| after_normal <| WC.weak [(6, _), (7, _), (8, _), (9, _), (10, _), (11, _), (13, _), (15, _), (16, _), (126, _), (127, _), (128, _)] ⟨rfl, rfl, rfl, rfl, rfl, rfl, rfl, rfl, rfl, rfl, rfl, rfl, trivial⟩ <| WC.reg1z (z := 2) rfl <| WO.U (OP.castI (b := ((i + 1 : Nat) : Int)) (oAdd64 rfl rfl (by omega)) (by omega)) rfl <| WO.U (oMv rfl) rfl <| WO.nil <| loopR_normal <| ⟨⟨i + 1, p / 4294967296, if u < p % 4294967296 + b then 1 else 0, us1.set (k - 1 + i) d⟩, ⟨rfl, congrArg some (by rw [List.length_set]), rfl, rfl, rfl, rfl, rfl, rfl, rfl, rfl, rfl, rfl, trivial⟩, ⟨g0, g1 (by decide) (g1 (by decide) g0), trivial⟩, ⟨by omega, by rw [List.length_set]; exact hl1, hd1.set _ (by omega), by omega, by split <;> omega, ?_, by rw [take_set_le (by omega)]; exact ht1, by rw [drop_set_lt (by omega)]; exact drop_more hp1 (by omega), by omega⟩, by show vs.length - (i + 1) < vs.length - i; omega⟩
   rw [hpe]
   exact submul_step he1 (by omega) (by rw [← hpe, ← hue, hde]; split <;> omega)
  refine WO.nil <| WC.cF rfl <| WC.exits <| loopR_exit <| after_exit rfl ?_
  have hi' : i = vs.length := by omega
  subst hi'
  rw [List.take_of_length_le (Nat.le_refl _)] at he1
  obtain ⟨u, hue⟩ : ∃ u, u = us1.getD (k - 1 + vs.length) default := ⟨_, rfl⟩
  have hul1 : u < 4294967296 := by rw [hue]; exact getD_lt hd1 (by omega)
  obtain ⟨d, hde⟩ : ∃ d, d = (u + 4294967296 - c - b) % 4294967296 := ⟨_, rfl⟩
  have hd4 : d < 4294967296 := by omega
  refine WC.reg (z := 12) rfl <| WO.U (oMv rfl) rfl <| WO.U (oMv rfl) rfl <| WO.U (oMv rfl) rfl <| WO.U (OP.castI (b := ((k - 1 + vs.length : Nat) : Int)) (oAdd64 rfl rfl (by omega)) (by omega)) rfl <| WO.U (oIxR (j := k - 1 + vs.length) rfl rfl rfl rfl (by omega) (by omega) rfl) rfl <| WO.U (oLdO (f := d32) (us := us1) (j := k - 1 + vs.length) rfl rfl g0 (fun _ => rfl) rfl (by decide) (by omega) rfl) rfl <| WO.U (OP.castI (b := (u : Int)) (oCnv rfl rfl rfl) (by rw [IntKind.wrap_u64]; omega)) rfl <| WO.U (oMv rfl) rfl <| WO.U (oSubU rfl rfl) rfl <| WO.U (oMv rfl) rfl <| WO.U (OP.castI (b := ((((u + 18446744073709551616 - c - b) % 18446744073709551616) : Nat) : Int)) (oSubU rfl rfl) (by omega)) rfl <| WO.U (oAs rfl) rfl <| WO.nil <| WC.weak [(6, _), (7, _), (8, _), (9, _), (10, _), (11, _), (13, _), (21, _)] ⟨rfl, rfl, rfl, rfl, rfl, rfl, rfl, rfl, trivial⟩ <| WC.reg (z := 8) rfl <| WO.U (oMv rfl) rfl <| WO.U (oMv rfl) rfl <| WO.U (oMv rfl) rfl <| WO.U (OP.castI (b := ((k - 1 + vs.length : Nat) : Int)) (oAdd64 rfl rfl (by omega)) (by omega)) rfl <| WO.U (oMv rfl) rfl <| WO.U (OP.castI (b := (d : Int)) (oCnv rfl rfl rfl) (by rw [IntKind.wrap_u32]; omega)) rfl <| WO.U (oIxR (j := k - 1 + vs.length) rfl rfl rfl rfl (by omega) (by omega) rfl) rfl <| WO.S0 (oStO (f := d32) (us := us1) d rfl rfl rfl g0 (fun _ => rfl) rfl rfl (by omega) rfl) ?_
  refine WO.nil <| WC.weak [(6, _), (7, _), (8, _), (9, _), (10, _), (11, _), (13, _), (21, _)] ⟨rfl, rfl, rfl, rfl, rfl, rfl, rfl, rfl, trivial⟩ <| WC.assoc <| WC.reg (z := 3) rfl <| WO.U (oMv rfl) rfl <| WO.U (OP.castI (b := ((if u < c + b then 1 else 0 : Nat) : Int)) (oShrU (s := 63) rfl rfl (by omega)) (by split <;> omega)) rfl <| WO.U (oEql rfl rfl) rfl <| WO.D (fun h184 => ?_) (fun h184 => ?_)
  rotate_left
  ·have hneg : c + b ≤ u := by
    rcases Nat.lt_or_ge u (c + b) with h | h
    ·rw [if_pos h] at h184; simp at h184
    ·exact h
   have hs2 := sub_last (o := 0) (d := d) he1 (by omega) (by rw [← hue]; omega)
   rw [Nat.mul_zero, Nat.add_zero] at hs2
   refine WO.nil <| WC.cF rfl <| WC.skips ?_
   have hlF : (us1.set (k - 1 + vs.length) d).length = us.length := by rw [List.length_set]; exact hl1
   have hdF : Dg 4294967296 (us1.set (k - 1 + vs.length) d) := hd1.set _ hd4
   have hltF := long_end0 (by decide) hV0 (by omega) (by omega) (by rw [take_set_le (by omega)]; exact ht1) hs2 hG2
   have hUF := long_next (qs := qs) (j := k - 1) (by omega) (by rw [show k - 1 + 1 = k by omega]; exact hU) hs2
   refine WC.reg1z (z := 6) rfl <| WO.U (oMv rfl) rfl <| WO.U (oMv rfl) rfl <| WO.U (oMv rfl) rfl <| WO.U (OP.castI (b := (q1 : Int)) (oCnv rfl rfl rfl) (by rw [IntKind.wrap_u32]; omega)) rfl <| WO.U (oIxR (j := k - 1) rfl rfl rfl rfl (by omega) (by omega) rfl) rfl <| WO.S0 (oStO (f := d32) (us := qs) q1 rfl rfl rfl (g1 (by decide) (g1 (by decide) g0)) (fun _ => rfl) rfl rfl (by omega) rfl) <| WO.nil <| after_normal <| WC.weak [(6, _), (7, _), (8, _), (9, _), (10, _), (11, _)] ⟨rfl, rfl, rfl, rfl, rfl, rfl, trivial⟩ <| WC.reg1z (z := 3) rfl <| WO.U (oMv rfl) rfl <| WO.U (OP.castI (b := ((k - 1 : Nat) : Int) - 1) (oSub64 rfl rfl (by omega)) (by omega)) rfl <| WO.U (oAs rfl) rfl <| WO.nil <| loopR_normal <| ⟨⟨k - 1, (us1.set (k - 1 + vs.length) d), qs.set (k - 1) q1⟩, ⟨rfl, congrArg some (by rw [List.length_set]), rfl, rfl, congrArg some (by rw [List.length_set]), rfl, trivial⟩, ⟨g1 (by decide) g0, g0, trivial⟩, ⟨by rw [hlF]; omega, by rw [hlF]; exact hul, by rw [List.length_set]; exact hql0, hdF, hqd.set _ (by omega), hUF, hltF, by omega⟩, by show k - 1 < k; omega⟩
  have hneg : u < c + b := by
   rcases Nat.lt_or_ge u (c + b) with h | h
   ·exact h
   ·rw [if_neg (by omega)] at h184; simp at h184
  have hs2 := sub_last (o := 1) (d := d) he1 (by omega) (by rw [← hue]; omega)
  have hlT : (us1.set (k - 1 + vs.length) d).length = us.length := by rw [List.length_set]; exact hl1
  have hdT : Dg 4294967296 (us1.set (k - 1 + vs.length) d) := hd1.set _ hd4
  have htT : (us1.set (k - 1 + vs.length) d).take (k - 1) = us.take (k - 1) := by rw [take_set_le (by omega)]; exact ht1
  have hpT : (us1.set (k - 1 + vs.length) d).drop (k - 1 + vs.length + 1) = us.drop (k - 1 + vs.length + 1) := by rw [drop_set_lt (by omega)]; exact drop_more hp1 (by omega)
  obtain ⟨hgt, hq1p⟩ := neg_gt (by decide) hdT (by omega) hlT hRB hpT htT hs2
  refine WO.nil <| WC.cT rfl <| WC.assoc <| WC.reg (z := 3) rfl <| WO.U (oMv rfl) rfl <| WO.U (OP.castI (b := ((q1 - 1 : Nat) : Int)) (oSubU rfl rfl) (by omega)) rfl <| WO.U (oAs rfl) rfl <| WO.nil <| WC.assoc <| WC.reg (z := 1) rfl <| WO.U (oAs rfl) rfl <| WO.nil <| WC.assoc <| WC.assoc <| WC.reg (z := 3) rfl <| WO.U (oMv rfl) rfl <| WO.U (oLenM rfl rfl) rfl <| WO.U (oMv rfl) rfl <| WO.nil <| WC.weak [(6, _), (7, _), (8, _), (9, _), (10, _), (11, _), (13, _), (22, _), (187, _), (188, _), (189, _)] ⟨rfl, rfl, rfl, rfl, rfl, rfl, rfl, rfl, rfl, rfl, rfl, trivial⟩ <| WC.block <| WC.loopV (α := Nat × Nat × (List Nat)) (fun ⟨i2, c2, us3⟩ => [(6, .v (.int .i64 (sh : Int))), (7, .ref (0 + 2 + 8 + 2) 1 0 us3.length), (8, .sl 1 (vs.map d32)), (9, .v (.int .i64 (vs.length : Int))), (10, .ref (0 + 2 + 8 + 9 + 3 + 4) 1 0 qs.length), (11, .v (.int .i64 ((k : Int) - 1))), (13, .v (.int .u64 ((q1 - 1 : Nat) : Int))), (22, .v (.int .u32 (c2 : Int))), (187, .sl 1 (vs.map d32)), (188, .v (.int .i64 (vs.length : Int))), (189, .v (.int .i64 (i2 : Int)))]) (fun ⟨i2, c2, us3⟩ => [((0 + 2 + 8 + 2), { cells := (us3.map d32).flatten, sz := 1, elem := 125, st := 0 }), ((0 + 2 + 8 + 9 + 3 + 4), { cells := (qs.map d32).flatten, sz := 1, elem := 125, st := 0 })]) (fun ⟨i2, c2, us3⟩ n => i2 ≤ vs.length ∧ us3.length = us.length ∧ Dg 4294967296 us3 ∧ c2 ≤ 1 ∧ val 4294967296 us3 + 4294967296 ^ (k - 1 + i2) * c2 = val 4294967296 (us1.set (k - 1 + vs.length) d) + 4294967296 ^ (k - 1) * val 4294967296 (vs.take i2) ∧ us3.take (k - 1) = us.take (k - 1) ∧ us3.drop (k - 1 + vs.length) = (us1.set (k - 1 + vs.length) d).drop (k - 1 + vs.length) ∧ 30 ≤ n) (fun ⟨i2, c2, us3⟩ => vs.length - i2) (0, 0, (us1.set (k - 1 + vs.length) d)) ⟨rfl, congrArg some (by rw [List.length_set]), rfl, rfl, rfl, rfl, rfl, rfl, rfl, rfl, rfl, trivial⟩ ⟨g0, g1 (by decide) (g1 (by decide) g0), trivial⟩ ⟨Nat.zero_le _, hlT, hdT, by decide, by simp [val], htT, rfl, by omega⟩ ?_
  rintro ⟨i2, c2, us3⟩ n hM
  change WC _ _ _ _ _ [(6, .v (.int .i64 (sh : Int))), (7, .ref (0 + 2 + 8 + 2) 1 0 us3.length), (8, .sl 1 (vs.map d32)), (9, .v (.int .i64 (vs.length : Int))), (10, .ref (0 + 2 + 8 + 9 + 3 + 4) 1 0 qs.length), (11, .v (.int .i64 ((k : Int) - 1))), (13, .v (.int .u64 ((q1 - 1 : Nat) : Int))), (22, .v (.int .u32 (c2 : Int))), (187, .sl 1 (vs.map d32)), (188, .v (.int .i64 (vs.length : Int))), (189, .v (.int .i64 (i2 : Int)))] ([((0 + 2 + 8 + 2), { cells := (us3.map d32).flatten, sz := 1, elem := 125, st := 0 }), ((0 + 2 + 8 + 9 + 3 + 4), { cells := (qs.map d32).flatten, sz := 1, elem := 125, st := 0 })]) n _
  obtain ⟨hi2, hl3, hd3, hc3, he3, ht3, hp3, hn33⟩ := hM
  refine WC.reg (z := 1) rfl <| WO.U (oLss rfl rfl) rfl <| WO.D (fun h190 => ?_) (fun h190 => ?_)
  ·refine WO.nil <| WC.cT rfl <| WC.skips <| WC.block <| WC.reg (z := 5) rfl <| WO.U (oMv rfl) rfl <| WO.U (oIxM rfl rfl rfl rfl rfl (by omega) rfl) rfl <| WO.U (oLd rfl rfl rfl) rfl <| WO.U (oAs rfl) rfl <| WO.U (oAs rfl) rfl <| WO.nil <| WC.weak [(6, _), (7, _), (8, _), (9, _), (10, _), (11, _), (13, _), (22, _), (23, _), (24, _), (187, _), (188, _), (189, _)] ⟨rfl, rfl, rfl, rfl, rfl, rfl, rfl, rfl, rfl, rfl, rfl, rfl, rfl, trivial⟩ ?_
   have hu3 : us3.getD (k - 1 + i2) default < 4294967296 := getD_lt hd3 (by omega)
   have hv3 : vs.getD i2 default < 4294967296 := getD_lt hvd (by omega)
   refine WC.reg1z (z := 19) rfl <| WO.U (oMv rfl) rfl <| WO.U (oMv rfl) rfl <| WO.U (oMv rfl) rfl <| WO.U (OP.castI (b := ((k - 1 + i2 : Nat) : Int)) (oAdd64 rfl rfl (by omega)) (by omega)) rfl <| WO.U (oMv rfl) rfl <| WO.U (oMv rfl) rfl <| WO.U (oMv rfl) rfl <| WO.U (OP.castI (b := ((k - 1 + i2 : Nat) : Int)) (oAdd64 rfl rfl (by omega)) (by omega)) rfl <| WO.U (oIxR (j := k - 1 + i2) rfl rfl rfl rfl (by omega) (by omega) rfl) rfl <| WO.U (oLdO (f := d32) (us := us3) (j := k - 1 + i2) rfl rfl g0 (fun _ => rfl) rfl (by decide) (by omega) rfl) rfl <| WO.U (oMv rfl) rfl <| WO.U (oMv rfl) rfl <| WO.U (oCall rfl (add32_run (us3.getD (k - 1 + i2) default) (vs.getD i2 default) c2 hu3 hv3 hc3) (by simp)) rfl <| WO.U (oMv rfl) rfl <| WO.U (oEx rfl rfl) rfl <| WO.U (oEx rfl rfl) rfl <| WO.U (oIxR (j := k - 1 + i2) rfl rfl rfl rfl (by omega) (by omega) rfl) rfl <| WO.S0 (oStO (f := d32) (us := us3) ((us3.getD (k - 1 + i2) default + vs.getD i2 default + c2) % 4294967296) rfl rfl rfl g0 (fun _ => rfl) rfl rfl (by omega) rfl) <| WO.U (oAs rfl) rfl <| WO.nil <| after_normal <| WC.weak [(6, _), (7, _), (8, _), (9, _), (10, _), (11, _), (13, _), (22, _), (187, _), (188, _), (189, _)] ⟨rfl, rfl, rfl, rfl, rfl, rfl, rfl, rfl, rfl, rfl, rfl, trivial⟩ <| WC.reg1z (z := 2) rfl ?_
   refine WO.U (OP.castI (b := ((i2 + 1 : Nat) : Int)) (oAdd64 rfl rfl (by omega)) (by omega)) rfl <| WO.U (oMv rfl) rfl <| WO.nil <| loopR_normal <| ⟨⟨i2 + 1, _, us3.set (k - 1 + i2) ((us3.getD (k - 1 + i2) default + vs.getD i2 default + c2) % 4294967296)⟩, ⟨rfl, congrArg some (by rw [List.length_set]), rfl, rfl, rfl, rfl, rfl, rfl, rfl, rfl, rfl, trivial⟩, ⟨g0, g1 (by decide) (g1 (by decide) g0), trivial⟩, ⟨by omega, by rw [List.length_set]; exact hl3, hd3.set _ (by omega), by omega, addback_step he3 (by omega), by rw [take_set_le (by omega)]; exact ht3, by rw [drop_set_lt (by omega)]; exact hp3, by omega⟩, by show vs.length - (i2 + 1) < vs.length - i2; omega⟩
  refine WO.nil <| WC.cF rfl <| WC.exits <| loopR_exit <| after_exit rfl ?_
  have hi' : i2 = vs.length := by omega
  subst hi'
  rw [List.take_of_length_le (Nat.le_refl _)] at he3
  have hu3 : us3.getD (k - 1 + vs.length) default < 4294967296 := getD_lt hd3 (by omega)
  refine WC.reg (z := 10) rfl <| WO.U (oMv rfl) rfl <| WO.U (oMv rfl) rfl <| WO.U (oMv rfl) rfl <| WO.U (OP.castI (b := ((k - 1 + vs.length : Nat) : Int)) (oAdd64 rfl rfl (by omega)) (by omega)) rfl <| WO.U (oIxR (j := k - 1 + vs.length) rfl rfl rfl rfl (by omega) (by omega) rfl) rfl <| WO.U (oLdO (f := d32) (us := us3) (j := k - 1 + vs.length) rfl rfl g0 (fun _ => rfl) rfl (by decide) (by omega) rfl) rfl <| WO.U (oMv rfl) rfl <| WO.U (OP.castI (b := (((us3.getD (k - 1 + vs.length) default + c2) % 4294967296 : Nat) : Int)) (oAdd32 rfl rfl) (by omega)) rfl <| WO.U (oIxR (j := k - 1 + vs.length) rfl rfl rfl rfl (by omega) (by omega) rfl) rfl <| WO.S0 (oStO (f := d32) (us := us3) ((us3.getD (k - 1 + vs.length) default + c2) % 4294967296) rfl rfl rfl g0 (fun _ => rfl) rfl rfl (by omega) rfl) <| WO.nil <| WC.weak [(6, _), (7, _), (8, _), (9, _), (10, _), (11, _), (13, _)] ⟨rfl, rfl, rfl, rfl, rfl, rfl, rfl, trivial⟩ ?_
  have hlF : (us3.set (k - 1 + vs.length) ((us3.getD (k - 1 + vs.length) default + c2) % 4294967296)).length = us.length := by rw [List.length_set]; exact hl3
  have hdF : Dg 4294967296 (us3.set (k - 1 + vs.length) ((us3.getD (k - 1 + vs.length) default + c2) % 4294967296)) := hd3.set _ (by omega)
  have h4 := addback_last he3 (by omega)
  obtain ⟨hs4, hltF⟩ := back_end (by decide) hV0 hdF (by omega) hlF hRB (by rw [drop_set_lt (by omega)]; exact (drop_more hp3 (by omega)).trans hpT) (by rw [take_set_le (by omega)]; exact ht3) hs2 h4 hG2 hq1p hqo hgt (by omega)
  have hUF := long_next (qs := qs) (j := k - 1) (by omega) (by rw [show k - 1 + 1 = k by omega]; exact hU) hs4
  refine WC.reg1z (z := 6) rfl <| WO.U (oMv rfl) rfl <| WO.U (oMv rfl) rfl <| WO.U (oMv rfl) rfl <| WO.U (OP.castI (b := ((q1 - 1 : Nat) : Int)) (oCnv rfl rfl rfl) (by rw [IntKind.wrap_u32]; omega)) rfl <| WO.U (oIxR (j := k - 1) rfl rfl rfl rfl (by omega) (by omega) rfl) rfl <| WO.S0 (oStO (f := d32) (us := qs) (q1 - 1) rfl rfl rfl (g1 (by decide) (g1 (by decide) g0)) (fun _ => rfl) rfl rfl (by omega) rfl) <| WO.nil <| after_normal <| WC.reg1z (z := 3) rfl <| WO.U (oMv rfl) rfl <| WO.U (OP.castI (b := ((k - 1 : Nat) : Int) - 1) (oSub64 rfl rfl (by omega)) (by omega)) rfl <| WO.U (oAs rfl) rfl <| WO.nil <| loopR_normal <| ⟨⟨k - 1, (us3.set (k - 1 + vs.length) ((us3.getD (k - 1 + vs.length) default + c2) % 4294967296)), qs.set (k - 1) (q1 - 1)⟩, ⟨rfl, congrArg some (by rw [List.length_set]), rfl, rfl, congrArg some (by rw [List.length_set]), rfl, trivial⟩, ⟨g1 (by decide) g0, g0, trivial⟩, ⟨by rw [hlF]; omega, by rw [hlF]; exact hul, by rw [List.length_set]; exact hql0, hdF, hqd.set _ (by omega), hUF, hltF, by omega⟩, by show k - 1 < k; omega⟩
 refine WD.U (oPkF rfl rfl) rfl <| WD.nil (drawOk_of (by kernel_rfl)) rfl <| WC.weak [(6, _), (7, _), (8, _), (9, _), (10, _), (11, _), (13, _), (14, _), (93, _), (94, _), (95, _), (96, _), (97, _), (98, _), (99, _), (100, _), (101, _), (102, _), (103, _), (104, _), (105, _), (106, _), (107, _), (108, _), (109, _), (110, _), (111, _), (112, _), (113, _)] ⟨rfl, rfl, rfl, rfl, rfl, rfl, rfl, rfl, rfl, rfl, rfl, rfl, rfl, rfl, rfl, rfl, rfl, rfl, rfl, rfl, rfl, rfl, rfl, rfl, rfl, rfl, rfl, rfl, rfl, trivial⟩ <| WC.cT rfl <| WC.skips <| WC.block1 ?_
 obtain ⟨hdc1, hdc2⟩ := lq_dec LQh hG1 hG2 (by first | exact .inl (by omega) | exact .inr (by omega))
 refine WC.reg (z := 3) rfl <| WO.U (oMv rfl) rfl <| WO.U (OP.castI (b := ((qh - 1 : Nat) : Int)) (oSubU rfl rfl) (by omega)) rfl <| WO.U (oAs rfl) rfl <| WO.nil <| WC.weak [(6, _), (7, _), (8, _), (9, _), (10, _), (11, _), (13, _), (14, _), (93, _), (94, _), (95, _), (96, _), (97, _), (98, _), (99, _), (100, _), (101, _), (102, _), (103, _), (104, _), (105, _), (106, _), (107, _), (108, _), (109, _), (110, _), (111, _), (112, _)] ⟨rfl, rfl, rfl, rfl, rfl, rfl, rfl, rfl, rfl, rfl, rfl, rfl, rfl, rfl, rfl, rfl, rfl, rfl, rfl, rfl, rfl, rfl, rfl, rfl, rfl, rfl, rfl, rfl, trivial⟩ <| WC.reg (z := 9) rfl <| WO.U (oMv rfl) rfl <| WO.U (oMv rfl) rfl <| WO.U (oMv rfl) rfl <| WO.U (oSub64 rfl rfl (by omega)) rfl <| WO.U (oIxM (j := vs.length - 1) rfl rfl rfl rfl (by omega) (by omega) rfl) rfl <| WO.U (oLd rfl rfl rfl) rfl <| WO.U (OP.castI (b := (v1 : Int)) (oCnv rfl rfl rfl) (by rw [IntKind.wrap_u64]; omega)) rfl <| WO.U (OP.castI (b := ((rh + v1 : Nat) : Int)) (oAddU rfl rfl) (by omega)) rfl <| WO.U (oAs rfl) rfl <| WO.nil <| WC.weak [(6, _), (7, _), (8, _), (9, _), (10, _), (11, _), (13, _), (14, _), (93, _), (94, _), (95, _), (96, _), (97, _), (98, _), (99, _), (100, _), (101, _), (102, _), (103, _), (104, _), (105, _), (106, _), (107, _), (108, _), (109, _), (110, _), (111, _), (112, _)] ⟨rfl, rfl, rfl, rfl, rfl, rfl, rfl, rfl, rfl, rfl, rfl, rfl, rfl, rfl, rfl, rfl, rfl, rfl, rfl, rfl, rfl, rfl, rfl, rfl, rfl, rfl, rfl, rfl, trivial⟩ <| WC.reg (z := 2) rfl <| WO.U (oMv rfl) rfl <| WO.U (oGeq rfl rfl) rfl <| WO.D (fun h125 => ?_) (fun h125 => ?_)
 rotate_left
 ·refine WO.nil <| WC.weak [(6, _), (7, _), (8, _), (9, _), (10, _), (11, _), (13, _), (14, _), (93, _), (94, _), (95, _), (96, _), (97, _), (98, _), (99, _), (100, _), (101, _), (102, _), (103, _), (104, _), (105, _), (106, _), (107, _), (108, _), (109, _), (110, _), (111, _), (112, _), (125, _)] ⟨rfl, rfl, rfl, rfl, rfl, rfl, rfl, rfl, rfl, rfl, rfl, rfl, rfl, rfl, rfl, rfl, rfl, rfl, rfl, rfl, rfl, rfl, rfl, rfl, rfl, rfl, rfl, rfl, rfl, trivial⟩ <| WC.cF1 rfl <| WC.skip <| after0_normal <| loopR_normal <| ⟨⟨qh - 1, rh + v1⟩, ⟨rfl, rfl, rfl, rfl, rfl, rfl, rfl, rfl, trivial⟩, ⟨g0, g1 (by decide) g0, trivial⟩, ⟨dec_eq hG1 hdc1, hdc2, by omega, by omega, by omega⟩, by show qh - 1 < qh; omega⟩
 refine WO.nil <| WC.weak [(6, _), (7, _), (8, _), (9, _), (10, _), (11, _), (13, _), (14, _), (93, _), (94, _), (95, _), (96, _), (97, _), (98, _), (99, _), (100, _), (101, _), (102, _), (103, _), (104, _), (105, _), (106, _), (107, _), (108, _), (109, _), (110, _), (111, _), (112, _), (125, _)] ⟨rfl, rfl, rfl, rfl, rfl, rfl, rfl, rfl, rfl, rfl, rfl, rfl, rfl, rfl, rfl, rfl, rfl, rfl, rfl, rfl, rfl, rfl, rfl, rfl, rfl, rfl, rfl, rfl, rfl, trivial⟩ <| WC.cT1 rfl <| WC.exit <| after0_exitF rfl <| loopR_exit <| after_exit rfl <| WC.weak [(6, _), (7, _), (8, _), (9, _), (10, _), (11, _), (13, _), (93, _), (94, _), (95, _), (96, _), (97, _), (98, _), (99, _), (100, _), (101, _), (102, _), (103, _), (104, _), (105, _), (106, _), (107, _), (108, _), (109, _), (110, _), (111, _), (112, _)] ⟨rfl, rfl, rfl, rfl, rfl, rfl, rfl, rfl, rfl, rfl, rfl, rfl, rfl, rfl, rfl, rfl, rfl, rfl, rfl, rfl, rfl, rfl, rfl, rfl, rfl, rfl, rfl, trivial⟩ ?_
 obtain ⟨hql, hqo⟩ := lq_break LQh hG1 hdc1 hG4 (by omega) hG3
 replace hG2 := hdc2
 obtain ⟨q1, hq1⟩ : ∃ q1, q1 = qh - 1 := ⟨_, rfl⟩
 rw [← hq1] at hqo hql hG2 ⊢
 refine WC.reg (z := 2) rfl <| WO.U (oAs rfl) rfl <| WO.U (oAs rfl) rfl <| WO.nil <| WC.weak [(6, _), (7, _), (8, _), (9, _), (10, _), (11, _), (13, _), (15, _), (16, _), (93, _), (94, _), (95, _), (96, _), (97, _), (98, _), (99, _), (100, _), (101, _), (102, _), (103, _), (104, _), (105, _), (106, _), (107, _), (108, _), (109, _), (110, _), (111, _), (112, _)] ⟨rfl, rfl, rfl, rfl, rfl, rfl, rfl, rfl, rfl, rfl, rfl, rfl, rfl, rfl, rfl, rfl, rfl, rfl, rfl, rfl, rfl, rfl, rfl, rfl, rfl, rfl, rfl, rfl, rfl, trivial⟩ <| WC.assoc <| WC.reg (z := 3) rfl <| WO.U (oMv rfl) rfl <| WO.U (oLenM rfl rfl) rfl <| WO.U (oMv rfl) rfl <| WO.nil <| WC.weak [(6, _), (7, _), (8, _), (9, _), (10, _), (11, _), (13, _), (15, _), (16, _), (93, _), (94, _), (95, _), (96, _), (97, _), (98, _), (99, _), (100, _), (101, _), (102, _), (103, _), (104, _), (105, _), (106, _), (107, _), (108, _), (109, _), (110, _), (111, _), (112, _), (126, _), (127, _), (128, _)] ⟨rfl, rfl, rfl, rfl, rfl, rfl, rfl, rfl, rfl, rfl, rfl, rfl, rfl, rfl, rfl, rfl, rfl, rfl, rfl, rfl, rfl, rfl, rfl, rfl, rfl, rfl, rfl, rfl, rfl, rfl, rfl, rfl, trivial⟩ <| WC.block ?_
 refine WC.loopV (α := Nat × Nat × Nat × (List Nat)) (fun ⟨i, c, b, us1⟩ => [(6, .v (.int .i64 (sh : Int))), (7, .ref (0 + 2 + 8 + 2) 1 0 us1.length), (8, .sl 1 (vs.map d32)), (9, .v (.int .i64 (vs.length : Int))), (10, .ref (0 + 2 + 8 + 9 + 3 + 4) 1 0 qs.length), (11, .v (.int .i64 ((k : Int) - 1))), (13, .v (.int .u64 (q1 : Int))), (15, .v (.int .u64 (b : Int))), (16, .v (.int .u64 (c : Int))), (126, .sl 1 (vs.map d32)), (127, .v (.int .i64 (vs.length : Int))), (128, .v (.int .i64 (i : Int)))]) (fun ⟨i, c, b, us1⟩ => [((0 + 2 + 8 + 2), { cells := (us1.map d32).flatten, sz := 1, elem := 125, st := 0 }), ((0 + 2 + 8 + 9 + 3 + 4), { cells := (qs.map d32).flatten, sz := 1, elem := 125, st := 0 })]) (fun ⟨i, c, b, us1⟩ n => i ≤ vs.length ∧ us1.length = us.length ∧ Dg 4294967296 us1 ∧ c < 4294967296 ∧ b ≤ 1 ∧ val 4294967296 us1 + 4294967296 ^ (k - 1) * (q1 * val 4294967296 (vs.take i)) = val 4294967296 us + 4294967296 ^ (k - 1 + i) * (c + b) ∧ us1.take (k - 1) = us.take (k - 1) ∧ us1.drop (k - 1 + i) = us.drop (k - 1 + i) ∧ 30 ≤ n) (fun ⟨i, c, b, us1⟩ => vs.length - i) (0, 0, 0, us) ⟨rfl, rfl, rfl, rfl, rfl, rfl, rfl, rfl, rfl, rfl, rfl, rfl, trivial⟩ ⟨g0, g1 (by decide) g0, trivial⟩ ⟨Nat.zero_le _, rfl, hud, by decide, by decide, by simp [val], rfl, rfl, by omega⟩ ?_
 rintro ⟨i, c, b, us1⟩ n hL
 change WC _ _ _ _ _ [(6, .v (.int .i64 (sh : Int))), (7, .ref (0 + 2 + 8 + 2) 1 0 us1.length), (8, .sl 1 (vs.map d32)), (9, .v (.int .i64 (vs.length : Int))), (10, .ref (0 + 2 + 8 + 9 + 3 + 4) 1 0 qs.length), (11, .v (.int .i64 ((k : Int) - 1))), (13, .v (.int .u64 (q1 : Int))), (15, .v (.int .u64 (b : Int))), (16, .v (.int .u64 (c : Int))), (126, .sl 1 (vs.map d32)), (127, .v (.int .i64 (vs.length : Int))), (128, .v (.int .i64 (i : Int)))] ([((0 + 2 + 8 + 2), { cells := (us1.map d32).flatten, sz := 1, elem := 125, st := 0 }), ((0 + 2 + 8 + 9 + 3 + 4), { cells := (qs.map d32).flatten, sz := 1, elem := 125, st := 0 })]) n _
 obtain ⟨hi, hl1, hd1, hc1, hb1, he1, ht1, hp1, hn32⟩ := hL
 refine WC.reg (z := 1) rfl <| WO.U (oLss rfl rfl) rfl <| WO.D (fun h129 => ?_) (fun h129 => ?_)
 ·refine WO.nil <| WC.cT rfl <| WC.skips <| WC.block ?_
  have hvi : vs.getD i default < 4294967296 := getD_lt hvd (by omega)
  have hui : us1.getD (k - 1 + i) default < 4294967296 := getD_lt hd1 (by omega)
  have hqv := mul_dig hql hvi
  obtain ⟨p, hpe⟩ : ∃ p, p = q1 * vs.getD i default + c := ⟨_, rfl⟩
  obtain ⟨u, hue⟩ : ∃ u, u = us1.getD (k - 1 + i) default := ⟨_, rfl⟩
  have hpb : p < 18446744073709551616 := by omega
  obtain ⟨d, hde⟩ : ∃ d, d = (u + 4294967296 - p % 4294967296 - b) % 4294967296 := ⟨_, rfl⟩
  refine WC.reg (z := 5) rfl <| WO.U (oMv rfl) rfl <| WO.U (oIxM rfl rfl rfl rfl rfl (by omega) rfl) rfl <| WO.U (oLd rfl rfl rfl) rfl <| WO.U (oAs rfl) rfl <| WO.U (oAs rfl) rfl <| WO.nil <| WC.weak [(6, _), (7, _), (8, _), (9, _), (10, _), (11, _), (13, _), (15, _), (16, _), (17, _), (18, _), (126, _), (127, _), (128, _)] ⟨rfl, rfl, rfl, rfl, rfl, rfl, rfl, rfl, rfl, rfl, rfl, rfl, rfl, rfl, trivial⟩ <| WC.reg (z := 7) rfl <| WO.U (oMv rfl) rfl <| WO.U (oMv rfl) rfl <| WO.U (OP.castI (b := (vs.getD i default : Int)) (oCnv rfl rfl rfl) (by rw [IntKind.wrap_u64]; omega)) rfl <| WO.U (OP.castI (b := ((q1 * vs.getD i default : Nat) : Int)) (oMulU rfl rfl) (by rw [← Int.natCast_mul]; omega)) rfl <| WO.U (oMv rfl) rfl <| WO.U (OP.castI (b := (p : Int)) (oAddU rfl rfl) (by omega)) rfl <| WO.U (oAs rfl) rfl <| WO.nil <| WC.weak [(6, _), (7, _), (8, _), (9, _), (10, _), (11, _), (13, _), (15, _), (17, _), (19, _), (126, _), (127, _), (128, _)] ⟨rfl, rfl, rfl, rfl, rfl, rfl, rfl, rfl, rfl, rfl, rfl, rfl, rfl, trivial⟩ <| WC.reg (z := 3) rfl <| WO.U (oMv rfl) rfl <| WO.U (OP.castI (b := ((p / 4294967296 : Nat) : Int)) (oShrU (s := 32) rfl rfl (by omega)) (by omega)) rfl <| WO.U (oAs rfl) rfl <| WO.nil <| WC.weak [(6, _), (7, _), (8, _), (9, _), (10, _), (11, _), (13, _), (15, _), (16, _), (17, _), (19, _), (126, _), (127, _), (128, _)] ⟨rfl, rfl, rfl, rfl, rfl, rfl, rfl, rfl, rfl, rfl, rfl, rfl, rfl, rfl, trivial⟩ ?_
  refine WC.reg (z := 14) rfl <| WO.U (oMv rfl) rfl <| WO.U (oMv rfl) rfl <| WO.U (oMv rfl) rfl <| WO.U (OP.castI (b := ((k - 1 + i : Nat) : Int)) (oAdd64 rfl rfl (by omega)) (by omega)) rfl <| WO.U (oIxR (j := k - 1 + i) rfl rfl rfl rfl (by omega) (by omega) rfl) rfl <| WO.U (oLdO (f := d32) (us := us1) (j := k - 1 + i) rfl rfl g0 (fun _ => rfl) rfl (by decide) (by omega) rfl) rfl <| WO.U (OP.castI (b := (u : Int)) (oCnv rfl rfl rfl) (by rw [IntKind.wrap_u64]; omega)) rfl <| WO.U (oMv rfl) rfl <| WO.U (OP.castI (b := ((p % 4294967296 : Nat) : Int)) (oCnv rfl rfl rfl) (by rw [IntKind.wrap_u32]; omega)) rfl <| WO.U (OP.castI (b := ((p % 4294967296 : Nat) : Int)) (oCnv rfl rfl rfl) (by rw [IntKind.wrap_u64]; omega)) rfl <| WO.U (oSubU rfl rfl) rfl <| WO.U (oMv rfl) rfl <| WO.U (OP.castI (b := ((((u + 18446744073709551616 - p % 4294967296 - b) % 18446744073709551616) : Nat) : Int)) (oSubU rfl rfl) (by omega)) rfl <| WO.U (oAs rfl) rfl <| WO.nil <| WC.weak [(6, _), (7, _), (8, _), (9, _), (10, _), (11, _), (13, _), (16, _), (17, _), (20, _), (126, _), (127, _), (128, _)] ⟨rfl, rfl, rfl, rfl, rfl, rfl, rfl, rfl, rfl, rfl, rfl, rfl, rfl, trivial⟩ <| WC.reg (z := 8) rfl <| WO.U (oMv rfl) rfl <| WO.U (oMv rfl) rfl <| WO.U (oMv rfl) rfl <| WO.U (OP.castI (b := ((k - 1 + i : Nat) : Int)) (oAdd64 rfl rfl (by omega)) (by omega)) rfl <| WO.U (oMv rfl) rfl <| WO.U (OP.castI (b := (d : Int)) (oCnv rfl rfl rfl) (by rw [IntKind.wrap_u32]; omega)) rfl ?_
  refine WO.U (oIxR (j := k - 1 + i) rfl rfl rfl rfl (by omega) (by omega) rfl) rfl <| WO.S0 (oStO (f := d32) (us := us1) d rfl rfl rfl g0 (fun _ => rfl) rfl rfl (by omega) rfl) <| WO.nil <| WC.weak [(6, _), (7, _), (8, _), (9, _), (10, _), (11, _), (13, _), (16, _), (20, _), (126, _), (127, _), (128, _)] ⟨rfl, rfl, rfl, rfl, rfl, rfl, rfl, rfl, rfl, rfl, rfl, rfl, trivial⟩ <| WC.reg1z (z := 3) rfl <| WO.U (oMv rfl) rfl <| WO.U (OP.castI (b := ((if u < p % 4294967296 + b then 1 else 0 : Nat) : Int)) (oShrU (s := 63) rfl rfl (by omega)) (by split <;> omega)) rfl <| WO.U (oAs rfl) rfl <| WO.nil <| after_normal <| WC.weak [(6, _), (7, _), (8, _), (9, _), (10, _), (11, _), (13, _), (15, _), (16, _), (126, _), (127, _), (128, _)] ⟨rfl, rfl, rfl, rfl, rfl, rfl, rfl, rfl, rfl, rfl, rfl, rfl, trivial⟩ <| WC.reg1z (z := 2) rfl <| WO.U (OP.castI (b := ((i + 1 : Nat) : Int)) (oAdd64 rfl rfl (by omega)) (by omega)) rfl <| WO.U (oMv rfl) rfl <| WO.nil <| loopR_normal <| ⟨⟨i + 1, p / 4294967296, if u < p % 4294967296 + b then 1 else 0, us1.set (k - 1 + i) d⟩, ⟨rfl, congrArg some (by rw [List.length_set]), rfl, rfl, rfl, rfl, rfl, rfl, rfl, rfl, rfl, rfl, trivial⟩, ⟨g0, g1 (by decide) (g1 (by decide) g0), trivial⟩, ⟨by omega, by rw [List.length_set]; exact hl1, hd1.set _ (by omega), by omega, by split <;> omega, ?_, by rw [take_set_le (by omega)]; exact ht1, by rw [drop_set_lt (by omega)]; exact drop_more hp1 (by omega), by omega⟩, by show vs.length - (i + 1) < vs.length - i; omega⟩
  rw [hpe]
  exact submul_step he1 (by omega) (by rw [← hpe, ← hue, hde]; split <;> omega)
 refine WO.nil <| WC.cF rfl <| WC.exits <| loopR_exit <| after_exit rfl ?_
 have hi' : i = vs.length := by omega
 subst hi'
 rw [List.take_of_length_le (Nat.le_refl _)] at he1
 obtain ⟨u, hue⟩ : ∃ u, u = us1.getD (k - 1 + vs.length) default := ⟨_, rfl⟩
 have hul1 : u < 4294967296 := by rw [hue]; exact getD_lt hd1 (by omega)
 obtain ⟨d, hde⟩ : ∃ d, d = (u + 4294967296 - c - b) % 4294967296 := ⟨_, rfl⟩
 have hd4 : d < 4294967296 := by omega
 refine WC.reg (z := 12) rfl <| WO.U (oMv rfl) rfl <| WO.U (oMv rfl) rfl <| WO.U (oMv rfl) rfl <| WO.U (OP.castI (b := ((k - 1 + vs.length : Nat) : Int)) (oAdd64 rfl rfl (by omega)) (by omega)) rfl <| WO.U (oIxR (j := k - 1 + vs.length) rfl rfl rfl rfl (by omega) (by omega) rfl) rfl <| WO.U (oLdO (f := d32) (us := us1) (j := k - 1 + vs.length) rfl rfl g0 (fun _ => rfl) rfl (by decide) (by omega) rfl) rfl <| WO.U (OP.castI (b := (u : Int)) (oCnv rfl rfl rfl) (by rw [IntKind.wrap_u64]; omega)) rfl <| WO.U (oMv rfl) rfl <| WO.U (oSubU rfl rfl) rfl <| WO.U (oMv rfl) rfl <| WO.U (OP.castI (b := ((((u + 18446744073709551616 - c - b) % 18446744073709551616) : Nat) : Int)) (oSubU rfl rfl) (by omega)) rfl <| WO.U (oAs rfl) rfl <| WO.nil <| WC.weak [(6, _), (7, _), (8, _), (9, _), (10, _), (11, _), (13, _), (21, _)] ⟨rfl, rfl, rfl, rfl, rfl, rfl, rfl, rfl, trivial⟩ <| WC.reg (z := 8) rfl <| WO.U (oMv rfl) rfl <| WO.U (oMv rfl) rfl <| WO.U (oMv rfl) rfl <| WO.U (OP.castI (b := ((k - 1 + vs.length : Nat) : Int)) (oAdd64 rfl rfl (by omega)) (by omega)) rfl <| WO.U (oMv rfl) rfl <| WO.U (OP.castI (b := (d : Int)) (oCnv rfl rfl rfl) (by rw [IntKind.wrap_u32]; omega)) rfl <| WO.U (oIxR (j := k - 1 + vs.length) rfl rfl rfl rfl (by omega) (by omega) rfl) rfl <| WO.S0 (oStO (f := d32) (us := us1) d rfl rfl rfl g0 (fun _ => rfl) rfl rfl (by omega) rfl) ?_
 refine WO.nil <| WC.weak [(6, _), (7, _), (8, _), (9, _), (10, _), (11, _), (13, _), (21, _)] ⟨rfl, rfl, rfl, rfl, rfl, rfl, rfl, rfl, trivial⟩ <| WC.assoc <| WC.reg (z := 3) rfl <| WO.U (oMv rfl) rfl <| WO.U (OP.castI (b := ((if u < c + b then 1 else 0 : Nat) : Int)) (oShrU (s := 63) rfl rfl (by omega)) (by split <;> omega)) rfl <| WO.U (oEql rfl rfl) rfl <| WO.D (fun h184 => ?_) (fun h184 => ?_)
 rotate_left
 ·have hneg : c + b ≤ u := by
   rcases Nat.lt_or_ge u (c + b) with h | h
   ·rw [if_pos h] at h184; simp at h184
   ·exact h
  have hs2 := sub_last (o := 0) (d := d) he1 (by omega) (by rw [← hue]; omega)
  rw [Nat.mul_zero, Nat.add_zero] at hs2
  refine WO.nil <| WC.cF rfl <| WC.skips ?_
  have hlF : (us1.set (k - 1 + vs.length) d).length = us.length := by rw [List.length_set]; exact hl1
  have hdF : Dg 4294967296 (us1.set (k - 1 + vs.length) d) := hd1.set _ hd4
  have hltF := long_end0 (by decide) hV0 (by omega) (by omega) (by rw [take_set_le (by omega)]; exact ht1) hs2 hG2
  have hUF := long_next (qs := qs) (j := k - 1) (by omega) (by rw [show k - 1 + 1 = k by omega]; exact hU) hs2
  refine WC.reg1z (z := 6) rfl <| WO.U (oMv rfl) rfl <| WO.U (oMv rfl) rfl <| WO.U (oMv rfl) rfl <| WO.U (OP.castI (b := (q1 : Int)) (oCnv rfl rfl rfl) (by rw [IntKind.wrap_u32]; omega)) rfl <| WO.U (oIxR (j := k - 1) rfl rfl rfl rfl (by omega) (by omega) rfl) rfl <| WO.S0 (oStO (f := d32) (us := qs) q1 rfl rfl rfl (g1 (by decide) (g1 (by decide) g0)) (fun _ => rfl) rfl rfl (by omega) rfl) <| WO.nil <| after_normal <| WC.weak [(6, _), (7, _), (8, _), (9, _), (10, _), (11, _)] ⟨rfl, rfl, rfl, rfl, rfl, rfl, trivial⟩ <| WC.reg1z (z := 3) rfl <| WO.U (oMv rfl) rfl <| WO.U (OP.castI (b := ((k - 1 : Nat) : Int) - 1) (oSub64 rfl rfl (by omega)) (by omega)) rfl <| WO.U (oAs rfl) rfl <| WO.nil <| loopR_normal <| ⟨⟨k - 1, (us1.set (k - 1 + vs.length) d), qs.set (k - 1) q1⟩, ⟨rfl, congrArg some (by rw [List.length_set]), rfl, rfl, congrArg some (by rw [List.length_set]), rfl, trivial⟩, ⟨g1 (by decide) g0, g0, trivial⟩, ⟨by rw [hlF]; omega, by rw [hlF]; exact hul, by rw [List.length_set]; exact hql0, hdF, hqd.set _ (by omega), hUF, hltF, by omega⟩, by show k - 1 < k; omega⟩
 have hneg : u < c + b := by
  rcases Nat.lt_or_ge u (c + b) with h | h
  ·exact h
  ·rw [if_neg (by omega)] at h184; simp at h184
 have hs2 := sub_last (o := 1) (d := d) he1 (by omega) (by rw [← hue]; omega)
 have hlT : (us1.set (k - 1 + vs.length) d).length = us.length := by rw [List.length_set]; exact hl1
 have hdT : Dg 4294967296 (us1.set (k - 1 + vs.length) d) := hd1.set _ hd4
 have htT : (us1.set (k - 1 + vs.length) d).take (k - 1) = us.take (k - 1) := by rw [take_set_le (by omega)]; exact ht1
 have hpT : (us1.set (k - 1 + vs.length) d).drop (k - 1 + vs.length + 1) = us.drop (k - 1 + vs.length + 1) := by rw [drop_set_lt (by omega)]; exact drop_more hp1 (by omega)
 obtain ⟨hgt, hq1p⟩ := neg_gt (by decide) hdT (by omega) hlT hRB hpT htT hs2
 refine WO.nil <| WC.cT rfl <| WC.assoc <| WC.reg (z := 3) rfl <| WO.U (oMv rfl) rfl <| WO.U (OP.castI (b := ((q1 - 1 : Nat) : Int)) (oSubU rfl rfl) (by omega)) rfl <| WO.U (oAs rfl) rfl <| WO.nil <| WC.assoc <| WC.reg (z := 1) rfl <| WO.U (oAs rfl) rfl <| WO.nil <| WC.assoc <| WC.assoc <| WC.reg (z := 3) rfl <| WO.U (oMv rfl) rfl <| WO.U (oLenM rfl rfl) rfl <| WO.U (oMv rfl) rfl <| WO.nil <| WC.weak [(6, _), (7, _), (8, _), (9, _), (10, _), (11, _), (13, _), (22, _), (187, _), (188, _), (189, _)] ⟨rfl, rfl, rfl, rfl, rfl, rfl, rfl, rfl, rfl, rfl, rfl, trivial⟩ <| WC.block <| WC.loopV (α := Nat × Nat × (List Nat)) (fun ⟨i2, c2, us3⟩ => [(6, .v (.int .i64 (sh : Int))), (7, .ref (0 + 2 + 8 + 2) 1 0 us3.length), (8, .sl 1 (vs.map d32)), (9, .v (.int .i64 (vs.length : Int))), (10, .ref (0 + 2 + 8 + 9 + 3 + 4) 1 0 qs.length), (11, .v (.int .i64 ((k : Int) - 1))), (13, .v (.int .u64 ((q1 - 1 : Nat) : Int))), (22, .v (.int .u32 (c2 : Int))), (187, .sl 1 (vs.map d32)), (188, .v (.int .i64 (vs.length : Int))), (189, .v (.int .i64 (i2 : Int)))]) (fun ⟨i2, c2, us3⟩ => [((0 + 2 + 8 + 2), { cells := (us3.map d32).flatten, sz := 1, elem := 125, st := 0 }), ((0 + 2 + 8 + 9 + 3 + 4), { cells := (qs.map d32).flatten, sz := 1, elem := 125, st := 0 })]) (fun ⟨i2, c2, us3⟩ n => i2 ≤ vs.length ∧ us3.length = us.length ∧ Dg 4294967296 us3 ∧ c2 ≤ 1 ∧ val 4294967296 us3 + 4294967296 ^ (k - 1 + i2) * c2 = val 4294967296 (us1.set (k - 1 + vs.length) d) + 4294967296 ^ (k - 1) * val 4294967296 (vs.take i2) ∧ us3.take (k - 1) = us.take (k - 1) ∧ us3.drop (k - 1 + vs.length) = (us1.set (k - 1 + vs.length) d).drop (k - 1 + vs.length) ∧ 30 ≤ n) (fun ⟨i2, c2, us3⟩ => vs.length - i2) (0, 0, (us1.set (k - 1 + vs.length) d)) ⟨rfl, congrArg some (by rw [List.length_set]), rfl, rfl, rfl, rfl, rfl, rfl, rfl, rfl, rfl, trivial⟩ ⟨g0, g1 (by decide) (g1 (by decide) g0), trivial⟩ ⟨Nat.zero_le _, hlT, hdT, by decide, by simp [val], htT, rfl, by omega⟩ ?_
 rintro ⟨i2, c2, us3⟩ n hM
 change WC _ _ _ _ _ [(6, .v (.int .i64 (sh : Int))), (7, .ref (0 + 2 + 8 + 2) 1 0 us3.length), (8, .sl 1 (vs.map d32)), (9, .v (.int .i64 (vs.length : Int))), (10, .ref (0 + 2 + 8 + 9 + 3 + 4) 1 0 qs.length), (11, .v (.int .i64 ((k : Int) - 1))), (13, .v (.int .u64 ((q1 - 1 : Nat) : Int))), (22, .v (.int .u32 (c2 : Int))), (187, .sl 1 (vs.map d32)), (188, .v (.int .i64 (vs.length : Int))), (189, .v (.int .i64 (i2 : Int)))] ([((0 + 2 + 8 + 2), { cells := (us3.map d32).flatten, sz := 1, elem := 125, st := 0 }), ((0 + 2 + 8 + 9 + 3 + 4), { cells := (qs.map d32).flatten, sz := 1, elem := 125, st := 0 })]) n _
 obtain ⟨hi2, hl3, hd3, hc3, he3, ht3, hp3, hn33⟩ := hM
 refine WC.reg (z := 1) rfl <| WO.U (oLss rfl rfl) rfl <| WO.D (fun h190 => ?_) (fun h190 => ?_)
 ·refine WO.nil <| WC.cT rfl <| WC.skips <| WC.block <| WC.reg (z := 5) rfl <| WO.U (oMv rfl) rfl <| WO.U (oIxM rfl rfl rfl rfl rfl (by omega) rfl) rfl <| WO.U (oLd rfl rfl rfl) rfl <| WO.U (oAs rfl) rfl <| WO.U (oAs rfl) rfl <| WO.nil <| WC.weak [(6, _), (7, _), (8, _), (9, _), (10, _), (11, _), (13, _), (22, _), (23, _), (24, _), (187, _), (188, _), (189, _)] ⟨rfl, rfl, rfl, rfl, rfl, rfl, rfl, rfl, rfl, rfl, rfl, rfl, rfl, trivial⟩ ?_
  have hu3 : us3.getD (k - 1 + i2) default < 4294967296 := getD_lt hd3 (by omega)
  have hv3 : vs.getD i2 default < 4294967296 := getD_lt hvd (by omega)
  refine WC.reg1z (z := 19) rfl <| WO.U (oMv rfl) rfl <| WO.U (oMv rfl) rfl <| WO.U (oMv rfl) rfl <| WO.U (OP.castI (b := ((k - 1 + i2 : Nat) : Int)) (oAdd64 rfl rfl (by omega)) (by omega)) rfl <| WO.U (oMv rfl) rfl <| WO.U (oMv rfl) rfl <| WO.U (oMv rfl) rfl <| WO.U (OP.castI (b := ((k - 1 + i2 : Nat) : Int)) (oAdd64 rfl rfl (by omega)) (by omega)) rfl <| WO.U (oIxR (j := k - 1 + i2) rfl rfl rfl rfl (by omega) (by omega) rfl) rfl <| WO.U (oLdO (f := d32) (us := us3) (j := k - 1 + i2) rfl rfl g0 (fun _ => rfl) rfl (by decide) (by omega) rfl) rfl <| WO.U (oMv rfl) rfl <| WO.U (oMv rfl) rfl <| WO.U (oCall rfl (add32_run (us3.getD (k - 1 + i2) default) (vs.getD i2 default) c2 hu3 hv3 hc3) (by simp)) rfl <| WO.U (oMv rfl) rfl <| WO.U (oEx rfl rfl) rfl <| WO.U (oEx rfl rfl) rfl <| WO.U (oIxR (j := k - 1 + i2) rfl rfl rfl rfl (by omega) (by omega) rfl) rfl <| WO.S0 (oStO (f := d32) (us := us3) ((us3.getD (k - 1 + i2) default + vs.getD i2 default + c2) % 4294967296) rfl rfl rfl g0 (fun _ => rfl) rfl rfl (by omega) rfl) <| WO.U (oAs rfl) rfl <| WO.nil <| after_normal <| WC.weak [(6, _), (7, _), (8, _), (9, _), (10, _), (11, _), (13, _), (22, _), (187, _), (188, _), (189, _)] ⟨rfl, rfl, rfl, rfl, rfl, rfl, rfl, rfl, rfl, rfl, rfl, trivial⟩ <| WC.reg1z (z := 2) rfl ?_
  refine WO.U (OP.castI (b := ((i2 + 1 : Nat) : Int)) (oAdd64 rfl rfl (by omega)) (by omega)) rfl <| WO.U (oMv rfl) rfl <| WO.nil <| loopR_normal <| ⟨⟨i2 + 1, _, us3.set (k - 1 + i2) ((us3.getD (k - 1 + i2) default + vs.getD i2 default + c2) % 4294967296)⟩, ⟨rfl, congrArg some (by rw [List.length_set]), rfl, rfl, rfl, rfl, rfl, rfl, rfl, rfl, rfl, trivial⟩, ⟨g0, g1 (by decide) (g1 (by decide) g0), trivial⟩, ⟨by omega, by rw [List.length_set]; exact hl3, hd3.set _ (by omega), by omega, addback_step he3 (by omega), by rw [take_set_le (by omega)]; exact ht3, by rw [drop_set_lt (by omega)]; exact hp3, by omega⟩, by show vs.length - (i2 + 1) < vs.length - i2; omega⟩
 refine WO.nil <| WC.cF rfl <| WC.exits <| loopR_exit <| after_exit rfl ?_
 have hi' : i2 = vs.length := by omega
 subst hi'
 rw [List.take_of_length_le (Nat.le_refl _)] at he3
 have hu3 : us3.getD (k - 1 + vs.length) default < 4294967296 := getD_lt hd3 (by omega)
 refine WC.reg (z := 10) rfl <| WO.U (oMv rfl) rfl <| WO.U (oMv rfl) rfl <| WO.U (oMv rfl) rfl <| WO.U (OP.castI (b := ((k - 1 + vs.length : Nat) : Int)) (oAdd64 rfl rfl (by omega)) (by omega)) rfl <| WO.U (oIxR (j := k - 1 + vs.length) rfl rfl rfl rfl (by omega) (by omega) rfl) rfl <| WO.U (oLdO (f := d32) (us := us3) (j := k - 1 + vs.length) rfl rfl g0 (fun _ => rfl) rfl (by decide) (by omega) rfl) rfl <| WO.U (oMv rfl) rfl <| WO.U (OP.castI (b := (((us3.getD (k - 1 + vs.length) default + c2) % 4294967296 : Nat) : Int)) (oAdd32 rfl rfl) (by omega)) rfl <| WO.U (oIxR (j := k - 1 + vs.length) rfl rfl rfl rfl (by omega) (by omega) rfl) rfl <| WO.S0 (oStO (f := d32) (us := us3) ((us3.getD (k - 1 + vs.length) default + c2) % 4294967296) rfl rfl rfl g0 (fun _ => rfl) rfl rfl (by omega) rfl) <| WO.nil <| WC.weak [(6, _), (7, _), (8, _), (9, _), (10, _), (11, _), (13, _)] ⟨rfl, rfl, rfl, rfl, rfl, rfl, rfl, trivial⟩ ?_
 have hlF : (us3.set (k - 1 + vs.length) ((us3.getD (k - 1 + vs.length) default + c2) % 4294967296)).length = us.length := by rw [List.length_set]; exact hl3
 have hdF : Dg 4294967296 (us3.set (k - 1 + vs.length) ((us3.getD (k - 1 + vs.length) default + c2) % 4294967296)) := hd3.set _ (by omega)
 have h4 := addback_last he3 (by omega)
 obtain ⟨hs4, hltF⟩ := back_end (by decide) hV0 hdF (by omega) hlF hRB (by rw [drop_set_lt (by omega)]; exact (drop_more hp3 (by omega)).trans hpT) (by rw [take_set_le (by omega)]; exact ht3) hs2 h4 hG2 hq1p hqo hgt (by omega)
 have hUF := long_next (qs := qs) (j := k - 1) (by omega) (by rw [show k - 1 + 1 = k by omega]; exact hU) hs4
 refine WC.reg1z (z := 6) rfl <| WO.U (oMv rfl) rfl <| WO.U (oMv rfl) rfl <| WO.U (oMv rfl) rfl <| WO.U (OP.castI (b := ((q1 - 1 : Nat) : Int)) (oCnv rfl rfl rfl) (by rw [IntKind.wrap_u32]; omega)) rfl <| WO.U (oIxR (j := k - 1) rfl rfl rfl rfl (by omega) (by omega) rfl) rfl <| WO.S0 (oStO (f := d32) (us := qs) (q1 - 1) rfl rfl rfl (g1 (by decide) (g1 (by decide) g0)) (fun _ => rfl) rfl rfl (by omega) rfl) <| WO.nil <| after_normal <| WC.reg1z (z := 3) rfl <| WO.U (oMv rfl) rfl <| WO.U (OP.castI (b := ((k - 1 : Nat) : Int) - 1) (oSub64 rfl rfl (by omega)) (by omega)) rfl <| WO.U (oAs rfl) rfl <| WO.nil <| loopR_normal <| ⟨⟨k - 1, (us3.set (k - 1 + vs.length) ((us3.getD (k - 1 + vs.length) default + c2) % 4294967296)), qs.set (k - 1) (q1 - 1)⟩, ⟨rfl, congrArg some (by rw [List.length_set]), rfl, rfl, congrArg some (by rw [List.length_set]), rfl, trivial⟩, ⟨g1 (by decide) g0, g0, trivial⟩, ⟨by rw [hlF]; omega, by rw [hlF]; exact hul, by rw [List.length_set]; exact hql0, hdF, hqd.set _ (by omega), hUF, hltF, by omega⟩, by show k - 1 < k; omega⟩
end Go.Proofs.YtcmieifjephdcaaGreat
